/-
  The functions' abstract code, by program (acgen.py), and that the model's code is it, reckoned by the kernel. No claim is proved here.
-/
import Derived.Test.YtjbcfpkibnhodaaGreatDoorYAcR1
namespace Go.Proofs.YtjbcfpkibnhodaaGreatDoor.Ab
open Go
def c_num_Text : AFun := ⟨5, 1, [.t 2],
  (.seq (.reg [⟨some 2, .mov (.k (.str [])), none⟩]
[0])
(.seq (.reg [⟨some 3, .mov (.t 0), none⟩,
⟨some 4, .call n_strconv_FormatInt [.t 3, .k (.int .i64 10)], none⟩,
⟨some 2, .mov (.t 4), none⟩]
[2])
.ret))⟩
theorem k_num_Text : chkF Tryz.prog Tryz.f121 c_num_Text = true := by kernel_rfl
theorem pc_num_Text {G : Nat → Option AV} {args : List AV} {r : AV} (h : Runs Tryz.prog G c_num_Text args r) (hk : args.length = c_num_Text.k := by rfl) : PureC Tryz.prog G n_num_Text args r := PureC.of_runs (fn := Tryz.f121) (A := c_num_Text) Tryz.func121 k_num_Text hk h
def c_proctorlaw18_ConfigSets : AFun := ⟨153, 2, [.t 4],
  (.seq (.reg [⟨some 2, .box t_api_Qea 9 (.t 0), none⟩,
⟨some 4, .mov (.k (.bool false)), none⟩]
[1, 2])
(.seq (.seq (.reg [⟨some 12, .loadN (.t 2) 9, none⟩,
⟨some 13, .mov (.t 1), none⟩,
⟨some 14, .call n_proctorlaw18_small [.t 12, .t 13], none⟩,
⟨some 15, .un .not (.t 14), none⟩]
[1, 2, 15])
(.cond (.t 15)
(.seq (.reg [⟨some 16, .call n_proctorlaw18_awake [], none⟩,
⟨some 4, .mov (.t 16), none⟩]
[4])
.ret)
.skip))
(.seq (.reg [⟨some 17, .loadN (.t 2) 9, none⟩,
⟨some 18, .mov (.t 1), none⟩,
⟨some 19, .call n_proctorlaw18_rights [.t 17, .t 18], none⟩,
⟨some 20, .call n_proctorref18_Of [.t 19], none⟩,
⟨some 5, .mov (.t 20), none⟩]
[1, 2, 5])
(.seq (.reg [⟨some 21, .loadN (.t 2) 9, none⟩,
⟨some 22, .mov (.t 1), none⟩,
⟨some 23, .call n_config_Of [.t 21, .t 22], none⟩,
⟨some 6, .mov (.t 23), none⟩]
[1, 2, 5, 6])
(.seq (.seq (.dreg [⟨some 24, .mov (.t 6), none⟩,
⟨some 25, .mov (.t 5), none⟩,
⟨some 26, .call n_proctorref18_Same [.t 24, .t 25], none⟩,
⟨some 27, .un .not (.t 26), none⟩,
⟨some 28, .mov (.t 27), none⟩,
⟨some 29, .loadN (.t 2) 9, (some (28, false))⟩,
⟨some 30, .mov (.t 6), (some (28, false))⟩,
⟨some 31, .call n_config_Accepts [.t 29, .t 30], (some (28, false))⟩,
⟨some 32, .loadN (.t 2) 9, (some (28, false))⟩,
⟨some 33, .mov (.t 5), (some (28, false))⟩,
⟨some 34, .call n_proctorref18_Accepts [.t 32, .t 33], (some (28, false))⟩,
⟨some 35, .eqB true (.t 31) (.t 34), (some (28, false))⟩,
⟨some 36, .pick (.t 28) (.k (.bool true)) (.t 35), none⟩,
⟨some 37, .mov (.t 36), none⟩,
⟨some 38, .loadN (.t 2) 9, (some (37, false))⟩,
⟨some 39, .call n_config_Start [.t 38], (some (37, false))⟩,
⟨some 40, .loadN (.t 2) 9, (some (37, false))⟩,
⟨some 41, .call n_proctorref18_Start [.t 40], (some (37, false))⟩,
⟨some 42, .call n_proctorref18_Same [.t 39, .t 41], (some (37, false))⟩,
⟨some 43, .un .not (.t 42), (some (37, false))⟩,
⟨some 44, .pick (.t 37) (.k (.bool true)) (.t 43), none⟩]
[1, 2, 5, 6, 44])
(.cond (.t 44)
(.seq (.reg [⟨some 4, .mov (.k (.bool false)), none⟩]
[4])
.ret)
.skip))
(.seq (.reg [⟨some 7, .nilrow t_uint8 1, none⟩]
[1, 2, 5, 6, 7])
(.seq (.reg [⟨some 8, .mov (.k (.int .u32 0)), none⟩]
[1, 2, 5, 6, 7, 8])
(.seq (.seq (.reg [⟨some 9, .mov (.k (.int .i64 0)), none⟩]
[1, 2, 5, 6, 7, 8, 9])
(.block 0
(.loop [1, 2, 5, 6, 7, 8, 9] [2, 14, 16, 19, 20, 23, 26, 31, 34, 39, 41, 42, 7, 59, 67]
  (.seq (.seq (.reg [⟨some 45, .mov (.t 9), none⟩,
⟨some 46, .mov (.t 5), none⟩,
⟨some 47, .len false (.t 46), none⟩,
⟨some 48, .bin .lss (.t 45) (.t 47), none⟩]
[1, 2, 5, 6, 7, 8, 9, 48])
(.cond (.t 48)
.skip
(.exit 0)))
(.seq (.block 1
(.seq (.reg [⟨some 51, .mov (.t 7), none⟩,
⟨some 52, .mov (.t 5), none⟩,
⟨some 53, .mov (.t 9), none⟩,
⟨some 54, .iaddr 2 (.t 52) (.t 53), none⟩,
⟨some 55, .faddr (.t 54) 0, none⟩,
⟨some 56, .load (.t 55), none⟩,
⟨some 57, .conv .u8 (.t 56), none⟩,
⟨some 58, .mkrow t_uint8 1 1 (.int .u8 0) [(0, .t 57)], none⟩,
⟨some 59, .app t_uint8 1 1 (.t 51) (.t 58), none⟩,
⟨some 7, .mov (.t 59), none⟩]
[1, 2, 5, 6, 7, 8, 9])
(.seq (.reg [⟨some 60, .mov (.t 7), none⟩,
⟨some 61, .mov (.t 5), none⟩,
⟨some 62, .mov (.t 9), none⟩,
⟨some 63, .iaddr 2 (.t 61) (.t 62), none⟩,
⟨some 64, .faddr (.t 63) 1, none⟩,
⟨some 65, .load (.t 64), none⟩,
⟨some 66, .call n_proctorref04_Keys [.t 65], none⟩,
⟨some 67, .app t_uint8 1 1 (.t 60) (.t 66), none⟩,
⟨some 7, .mov (.t 67), none⟩]
[1, 2, 5, 6, 7, 8, 9])
(.seq (.seq (.dreg [⟨some 68, .mov (.t 9), none⟩,
⟨some 69, .bin .eql (.t 68) (.k (.int .i64 0)), none⟩,
⟨some 70, .mov (.t 69), none⟩,
⟨some 71, .mov (.t 5), (some (70, false))⟩,
⟨some 72, .mov (.t 9), (some (70, false))⟩,
⟨some 73, .iaddr 2 (.t 71) (.t 72), (some (70, false))⟩,
⟨some 74, .faddr (.t 73) 0, (some (70, false))⟩,
⟨some 75, .load (.t 74), (some (70, false))⟩,
⟨some 76, .mov (.t 5), (some (70, false))⟩,
⟨some 77, .mov (.t 9), (some (70, false))⟩,
⟨some 78, .bin .sub (.t 77) (.k (.int .i64 1)), (some (70, false))⟩,
⟨some 79, .iaddr 2 (.t 76) (.t 78), (some (70, false))⟩,
⟨some 80, .faddr (.t 79) 0, (some (70, false))⟩,
⟨some 81, .load (.t 80), (some (70, false))⟩,
⟨some 82, .bin .neq (.t 75) (.t 81), (some (70, false))⟩,
⟨some 83, .pick (.t 70) (.k (.bool true)) (.t 82), none⟩]
[1, 2, 5, 6, 7, 8, 9, 83])
(.cond (.t 83)
(.reg [⟨some 84, .mov (.t 8), none⟩,
⟨some 85, .mov (.t 5), none⟩,
⟨some 86, .mov (.t 9), none⟩,
⟨some 87, .iaddr 2 (.t 85) (.t 86), none⟩,
⟨some 88, .faddr (.t 87) 0, none⟩,
⟨some 89, .load (.t 88), none⟩,
⟨some 90, .conv .u64 (.t 89), none⟩,
⟨some 91, .bin .shl (.k (.int .u32 1)) (.t 90), none⟩,
⟨some 92, .bin .add (.t 84) (.t 91), none⟩,
⟨some 8, .mov (.t 92), none⟩]
[1, 2, 5, 6, 7, 8, 9])
.skip))
(.seq (.dreg [⟨some 93, .loadN (.t 2) 9, none⟩,
⟨some 94, .mov (.t 5), none⟩,
⟨some 95, .mov (.t 9), none⟩,
⟨some 96, .iaddr 2 (.t 94) (.t 95), none⟩,
⟨some 97, .loadN (.t 96) 2, none⟩,
⟨some 98, .call n_config_Text [.t 93, .t 97], none⟩,
⟨some 99, .loadN (.t 2) 9, none⟩,
⟨some 100, .mov (.t 5), none⟩,
⟨some 101, .mov (.t 9), none⟩,
⟨some 102, .iaddr 2 (.t 100) (.t 101), none⟩,
⟨some 103, .loadN (.t 102) 2, none⟩,
⟨some 104, .call n_proctorref18_Text [.t 99, .t 103], none⟩,
⟨some 105, .bin .neq (.t 98) (.t 104), none⟩]
[1, 2, 5, 6, 7, 8, 9, 105])
(.cond (.t 105)
(.seq (.reg [⟨some 4, .mov (.k (.bool false)), none⟩]
[4])
.ret)
.skip))))))
(.reg [⟨some 49, .mov (.t 9), none⟩,
⟨some 50, .bin .add (.t 49) (.k (.int .i64 1)), none⟩,
⟨some 9, .mov (.t 50), none⟩]
[1, 2, 5, 6, 7, 8, 9]))))))
(.seq (.seq (.reg [⟨some 10, .mov (.k (.int .i64 0)), none⟩]
[1, 2, 6, 7, 8, 10])
(.block 2
(.loop [1, 2, 6, 7, 8, 10] [2, 14, 16, 19, 20, 23, 26, 31, 34, 39, 41, 42, 7, 47, 58, 59, 66, 67, 98, 104]
  (.seq (.seq (.reg [⟨some 106, .mov (.t 10), none⟩,
⟨some 107, .mov (.t 1), none⟩,
⟨some 108, .len false (.t 107), none⟩,
⟨some 109, .bin .lss (.t 106) (.t 108), none⟩]
[1, 2, 6, 7, 8, 10, 109])
(.cond (.t 109)
.skip
(.exit 2)))
(.seq (.block 3
(.seq (.dreg [⟨some 112, .loadN (.t 2) 9, none⟩,
⟨some 113, .mov (.t 1), none⟩,
⟨some 114, .mov (.t 10), none⟩,
⟨some 115, .iaddr 2 (.t 113) (.t 114), none⟩,
⟨some 116, .loadN (.t 115) 2, none⟩,
⟨some 117, .call n_proctorref18_Right [.t 112, .t 116], none⟩,
⟨some 11, .mov (.t 117), none⟩]
[1, 2, 6, 7, 8, 10, 11])
(.seq (.dreg [⟨some 118, .loadN (.t 2) 9, none⟩,
⟨some 119, .mov (.t 1), none⟩,
⟨some 120, .mov (.t 10), none⟩,
⟨some 121, .iaddr 2 (.t 119) (.t 120), none⟩,
⟨some 122, .loadN (.t 121) 2, none⟩,
⟨some 123, .call n_config_Right [.t 118, .t 122], none⟩,
⟨some 124, .mov (.t 11), none⟩,
⟨some 125, .eqB true (.t 123) (.t 124), none⟩,
⟨some 126, .mov (.t 125), none⟩,
⟨some 127, .mov (.t 11), (some (126, false))⟩,
⟨some 128, .un .not (.t 127), (some (126, false))⟩,
⟨some 129, .mov (.t 128), (some (126, false))⟩,
⟨some 130, .loadN (.t 2) 9, (some (129, true))⟩,
⟨some 131, .mov (.t 1), (some (129, true))⟩,
⟨some 132, .mov (.t 10), (some (129, true))⟩,
⟨some 133, .iaddr 2 (.t 131) (.t 132), (some (129, true))⟩,
⟨some 134, .loadN (.t 133) 2, (some (129, true))⟩,
⟨some 135, .call n_config_Text [.t 130, .t 134], (some (129, true))⟩,
⟨some 136, .bin .neq (.t 135) (.k (.str [])), (some (129, true))⟩,
⟨some 137, .pick (.t 129) (.t 136) (.k (.bool false)), (some (126, false))⟩,
⟨some 138, .pick (.t 126) (.k (.bool true)) (.t 137), none⟩]
[1, 2, 6, 7, 8, 10, 138])
(.cond (.t 138)
(.seq (.reg [⟨some 4, .mov (.k (.bool false)), none⟩]
[4])
.ret)
.skip))))
(.reg [⟨some 110, .mov (.t 10), none⟩,
⟨some 111, .bin .add (.t 110) (.k (.int .i64 1)), none⟩,
⟨some 10, .mov (.t 111), none⟩]
[1, 2, 6, 7, 8, 10]))))))
(.seq (.dreg [⟨some 139, .mov (.t 6), none⟩,
⟨some 140, .call n_config_Key [.t 139], none⟩,
⟨some 141, .mov (.t 7), none⟩,
⟨some 142, .b2s (.t 141), none⟩,
⟨some 143, .bin .eql (.t 140) (.t 142), none⟩,
⟨some 144, .mov (.t 143), none⟩,
⟨some 145, .mov (.t 6), (some (144, true))⟩,
⟨some 146, .call n_config_States [.t 145], (some (144, true))⟩,
⟨some 147, .mov (.t 8), (some (144, true))⟩,
⟨some 148, .bin .eql (.t 146) (.t 147), (some (144, true))⟩,
⟨some 149, .pick (.t 144) (.t 148) (.k (.bool false)), none⟩,
⟨some 150, .mov (.t 149), none⟩,
⟨some 151, .call n_proctorlaw18_awake [], (some (150, true))⟩,
⟨some 152, .pick (.t 150) (.t 151) (.k (.bool false)), none⟩,
⟨some 4, .mov (.t 152), none⟩]
[4])
.ret))))))))))⟩
theorem k_proctorlaw18_ConfigSets : chkF Tryz.prog Tryz.f3 c_proctorlaw18_ConfigSets = true := by kernel_rfl
theorem pc_proctorlaw18_ConfigSets {G : Nat → Option AV} {args : List AV} {r : AV} (h : Runs Tryz.prog G c_proctorlaw18_ConfigSets args r) (hk : args.length = c_proctorlaw18_ConfigSets.k := by rfl) : PureC Tryz.prog G n_proctorlaw18_ConfigSets args r := PureC.of_runs (fn := Tryz.f3) (A := c_proctorlaw18_ConfigSets) Tryz.func3 k_proctorlaw18_ConfigSets hk h
def c_proctorlaw18_awake : AFun := ⟨32, 0, [.t 0],
  (.seq (.reg [⟨some 0, .mov (.k (.bool false)), none⟩]
[])
(.seq (.reg [⟨some 3, .build [.int .i64 0, .int .i64 0, .str [], .bool false] [(0, 1, .k (.int .i64 1))], none⟩,
⟨some 4, .build [.str [], .int .i64 0, .int .i64 0, .str [], .bool false] [(0, 1, .k (.str [102])), (1, 4, .t 3)], none⟩,
⟨some 5, .mkrow t_api_Free 5 1 (.agg [.str [], .int .i64 0, .int .i64 0, .str [], .bool false]) [(0, .t 4)], none⟩,
⟨some 6, .build [.str [], .bool false, .bool false] [(0, 1, .k (.str [115])), (2, 1, .k (.bool true))], none⟩,
⟨some 7, .mkrow t_api_State 3 1 (.agg [.str [], .bool false, .bool false]) [(0, .t 6)], none⟩,
⟨some 8, .build [.str [], .nils, .nils, .nils, .nils, .int .i64 0, .nils, .nils, .nils] [(0, 1, .k (.str [113])), (3, 1, .t 5), (4, 1, .t 7)], none⟩,
⟨some 1, .alloc t_api_Qea 9 (.agg [.str [], .nils, .nils, .nils, .nils, .int .i64 0, .nils, .nils, .nils]), none⟩,
⟨none, .store (.t 1) (.t 8) 9, none⟩]
[1])
(.seq (.reg [⟨some 9, .loadN (.t 1) 9, none⟩,
⟨some 10, .call n_config_Start [.t 9], none⟩,
⟨some 2, .mov (.t 10), none⟩]
[1, 2])
(.seq (.dreg [⟨some 11, .mov (.t 2), none⟩,
⟨some 12, .len false (.t 11), none⟩,
⟨some 13, .bin .eql (.t 12) (.k (.int .i64 1)), none⟩,
⟨some 14, .mov (.t 13), none⟩,
⟨some 15, .loadN (.t 1) 9, (some (14, true))⟩,
⟨some 16, .mov (.t 2), (some (14, true))⟩,
⟨some 17, .iaddr 2 (.t 16) (.k (.int .i64 0)), (some (14, true))⟩,
⟨some 18, .loadN (.t 17) 2, (some (14, true))⟩,
⟨some 19, .call n_config_Text [.t 15, .t 18], (some (14, true))⟩,
⟨some 20, .bin .eql (.t 19) (.k (.str [115, 32, 102, 61, 48])), (some (14, true))⟩,
⟨some 21, .pick (.t 14) (.t 20) (.k (.bool false)), none⟩,
⟨some 22, .mov (.t 21), none⟩,
⟨some 23, .loadN (.t 1) 9, (some (22, true))⟩,
⟨some 24, .mov (.t 2), (some (22, true))⟩,
⟨some 25, .call n_config_Accepts [.t 23, .t 24], (some (22, true))⟩,
⟨some 26, .pick (.t 22) (.t 25) (.k (.bool false)), none⟩,
⟨some 27, .mov (.t 26), none⟩,
⟨some 28, .mov (.t 2), (some (27, true))⟩,
⟨some 29, .call n_config_States [.t 28], (some (27, true))⟩,
⟨some 30, .bin .eql (.t 29) (.k (.int .u32 1)), (some (27, true))⟩,
⟨some 31, .pick (.t 27) (.t 30) (.k (.bool false)), none⟩,
⟨some 0, .mov (.t 31), none⟩]
[0])
.ret))))⟩
theorem k_proctorlaw18_awake : chkF Tryz.prog Tryz.f9 c_proctorlaw18_awake = true := by kernel_rfl
theorem pc_proctorlaw18_awake {G : Nat → Option AV} {args : List AV} {r : AV} (h : ∀ c, c = c_proctorlaw18_awake → Runs Tryz.prog G c args r) (hk : args.length = c_proctorlaw18_awake.k := by rfl) : PureC Tryz.prog G n_proctorlaw18_awake args r := by
  generalize hc : c_proctorlaw18_awake = c at *
  have k := k_proctorlaw18_awake
  rw [hc] at k
  generalize hf : Tryz.f9 = f at *
  have h := h _ rfl
  exact PureC.of_runs (fn := f) (A := c) (hf ▸ Tryz.func9) k hk h
def c_proctorlaw18_rights : AFun := ⟨27, 2, [.t 4],
  (.seq (.reg [⟨some 2, .box t_api_Qea 9 (.t 0), none⟩,
⟨some 4, .nilrow t_api_Config 2, none⟩]
[1, 2])
(.seq (.reg [⟨some 5, .nilrow t_api_Config 2, none⟩]
[1, 2, 5])
(.seq (.seq (.reg [⟨some 6, .mov (.k (.int .i64 0)), none⟩]
[1, 2, 5, 6])
(.block 0
(.loop [1, 2, 5, 6] [2, 4, 5, 25]
  (.seq (.seq (.reg [⟨some 7, .mov (.t 6), none⟩,
⟨some 8, .mov (.t 1), none⟩,
⟨some 9, .len false (.t 8), none⟩,
⟨some 10, .bin .lss (.t 7) (.t 9), none⟩]
[1, 2, 5, 6, 10])
(.cond (.t 10)
.skip
(.exit 0)))
(.seq (.block 1
(.seq (.dreg [⟨some 13, .loadN (.t 2) 9, none⟩,
⟨some 14, .mov (.t 1), none⟩,
⟨some 15, .mov (.t 6), none⟩,
⟨some 16, .iaddr 2 (.t 14) (.t 15), none⟩,
⟨some 17, .loadN (.t 16) 2, none⟩,
⟨some 18, .call n_proctorref18_Right [.t 13, .t 17], none⟩]
[1, 2, 5, 6, 18])
(.cond (.t 18)
(.reg [⟨some 19, .mov (.t 5), none⟩,
⟨some 20, .mov (.t 1), none⟩,
⟨some 21, .mov (.t 6), none⟩,
⟨some 22, .iaddr 2 (.t 20) (.t 21), none⟩,
⟨some 23, .loadN (.t 22) 2, none⟩,
⟨some 24, .mkrow t_api_Config 2 1 (.agg [.int .i64 0, .nils]) [(0, .t 23)], none⟩,
⟨some 25, .app t_api_Config 2 32 (.t 19) (.t 24), none⟩,
⟨some 5, .mov (.t 25), none⟩]
[1, 2, 5, 6])
.skip)))
(.reg [⟨some 11, .mov (.t 6), none⟩,
⟨some 12, .bin .add (.t 11) (.k (.int .i64 1)), none⟩,
⟨some 6, .mov (.t 12), none⟩]
[1, 2, 5, 6]))))))
(.seq (.reg [⟨some 26, .mov (.t 5), none⟩,
⟨some 4, .mov (.t 26), none⟩]
[4])
.ret))))⟩
theorem k_proctorlaw18_rights : chkF Tryz.prog Tryz.f11 c_proctorlaw18_rights = true := by kernel_rfl
theorem pc_proctorlaw18_rights {G : Nat → Option AV} {args : List AV} {r : AV} (h : Runs Tryz.prog G c_proctorlaw18_rights args r) (hk : args.length = c_proctorlaw18_rights.k := by rfl) : PureC Tryz.prog G n_proctorlaw18_rights args r := PureC.of_runs (fn := Tryz.f11) (A := c_proctorlaw18_rights) Tryz.func11 k_proctorlaw18_rights hk h
def c_proctorlaw18_small : AFun := ⟨51, 2, [.t 4],
  (.seq (.reg [⟨some 2, .box t_api_Qea 9 (.t 0), none⟩,
⟨some 4, .mov (.k (.bool false)), none⟩]
[1, 2])
(.seq (.seq (.reg [⟨some 7, .loadN (.t 2) 9, none⟩,
⟨some 8, .call n_proctorref13_Few [.t 7], none⟩,
⟨some 9, .bin .eql (.t 8) (.k (.int .i64 0)), none⟩,
⟨some 10, .mov (.t 9), none⟩,
⟨some 11, .mov (.t 1), (some (10, false))⟩,
⟨some 12, .len false (.t 11), (some (10, false))⟩,
⟨some 13, .bin .gtr (.t 12) (.k (.int .i64 20)), (some (10, false))⟩,
⟨some 14, .pick (.t 10) (.k (.bool true)) (.t 13), none⟩]
[1, 2, 14])
(.cond (.t 14)
(.seq (.reg [⟨some 4, .mov (.k (.bool false)), none⟩]
[4])
.ret)
.skip))
(.seq (.seq (.reg [⟨some 5, .mov (.k (.int .i64 0)), none⟩]
[1, 2, 5])
(.block 0
(.loop [1, 2, 5] [2, 8, 12]
  (.seq (.seq (.reg [⟨some 15, .mov (.t 5), none⟩,
⟨some 16, .mov (.t 1), none⟩,
⟨some 17, .len false (.t 16), none⟩,
⟨some 18, .bin .lss (.t 15) (.t 17), none⟩]
[1, 2, 5, 18])
(.cond (.t 18)
.skip
(.exit 0)))
(.seq (.block 1
(.seq (.seq (.reg [⟨some 21, .mov (.t 1), none⟩,
⟨some 22, .mov (.t 5), none⟩,
⟨some 23, .iaddr 2 (.t 21) (.t 22), none⟩,
⟨some 24, .faddr (.t 23) 1, none⟩,
⟨some 25, .load (.t 24), none⟩,
⟨some 26, .len false (.t 25), none⟩,
⟨some 27, .bin .gtr (.t 26) (.k (.int .i64 20)), none⟩]
[1, 2, 5, 27])
(.cond (.t 27)
(.seq (.reg [⟨some 4, .mov (.k (.bool false)), none⟩]
[4])
.ret)
.skip))
(.seq (.reg [⟨some 6, .mov (.k (.int .i64 0)), none⟩]
[1, 2, 5, 6])
(.block 2
(.loop [1, 2, 5, 6] [2, 8, 12, 17, 26]
  (.seq (.seq (.reg [⟨some 28, .mov (.t 6), none⟩,
⟨some 29, .mov (.t 1), none⟩,
⟨some 30, .mov (.t 5), none⟩,
⟨some 31, .iaddr 2 (.t 29) (.t 30), none⟩,
⟨some 32, .faddr (.t 31) 1, none⟩,
⟨some 33, .load (.t 32), none⟩,
⟨some 34, .len false (.t 33), none⟩,
⟨some 35, .bin .lss (.t 28) (.t 34), none⟩]
[1, 2, 5, 6, 35])
(.cond (.t 35)
.skip
(.exit 2)))
(.seq (.block 3
(.seq (.reg [⟨some 38, .mov (.t 1), none⟩,
⟨some 39, .mov (.t 5), none⟩,
⟨some 40, .iaddr 2 (.t 38) (.t 39), none⟩,
⟨some 41, .faddr (.t 40) 1, none⟩,
⟨some 42, .load (.t 41), none⟩,
⟨some 43, .mov (.t 6), none⟩,
⟨some 44, .iaddr 4 (.t 42) (.t 43), none⟩,
⟨some 45, .faddr (.t 44) 2, none⟩,
⟨some 46, .load (.t 45), none⟩,
⟨some 47, .len true (.t 46), none⟩,
⟨some 48, .bin .gtr (.t 47) (.k (.int .i64 1000)), none⟩]
[1, 2, 5, 6, 48])
(.cond (.t 48)
(.seq (.reg [⟨some 4, .mov (.k (.bool false)), none⟩]
[4])
.ret)
.skip)))
(.reg [⟨some 36, .mov (.t 6), none⟩,
⟨some 37, .bin .add (.t 36) (.k (.int .i64 1)), none⟩,
⟨some 6, .mov (.t 37), none⟩]
[1, 2, 5, 6]))))))))
(.reg [⟨some 19, .mov (.t 5), none⟩,
⟨some 20, .bin .add (.t 19) (.k (.int .i64 1)), none⟩,
⟨some 5, .mov (.t 20), none⟩]
[1, 2, 5]))))))
(.seq (.reg [⟨some 49, .loadN (.t 2) 9, none⟩,
⟨some 50, .call n_proctorref13_Right [.t 49], none⟩,
⟨some 4, .mov (.t 50), none⟩]
[4])
.ret))))⟩
theorem k_proctorlaw18_small : chkF Tryz.prog Tryz.f8 c_proctorlaw18_small = true := by kernel_rfl
theorem pc_proctorlaw18_small {G : Nat → Option AV} {args : List AV} {r : AV} (h : Runs Tryz.prog G c_proctorlaw18_small args r) (hk : args.length = c_proctorlaw18_small.k := by rfl) : PureC Tryz.prog G n_proctorlaw18_small args r := PureC.of_runs (fn := Tryz.f8) (A := c_proctorlaw18_small) Tryz.func8 k_proctorlaw18_small hk h
def c_proctorref01_Add : AFun := ⟨27, 2, [.t 4, .t 5],
  (.seq (.reg [⟨some 4, .mov (.k (.int .i64 0)), none⟩,
⟨some 5, .mov (.k (.bool false)), none⟩]
[0, 1])
(.seq (.seq (.reg [⟨some 6, .mov (.t 1), none⟩,
⟨some 7, .bin .gtr (.t 6) (.k (.int .i64 0)), none⟩,
⟨some 8, .mov (.t 7), none⟩,
⟨some 9, .mov (.t 0), (some (8, true))⟩,
⟨some 10, .mov (.t 1), (some (8, true))⟩,
⟨some 11, .bin .sub (.k (.int .i64 9223372036854775807)) (.t 10), (some (8, true))⟩,
⟨some 12, .bin .gtr (.t 9) (.t 11), (some (8, true))⟩,
⟨some 13, .pick (.t 8) (.t 12) (.k (.bool false)), none⟩,
⟨some 14, .mov (.t 13), none⟩,
⟨some 15, .mov (.t 1), (some (14, false))⟩,
⟨some 16, .bin .lss (.t 15) (.k (.int .i64 0)), (some (14, false))⟩,
⟨some 17, .mov (.t 16), (some (14, false))⟩,
⟨some 18, .mov (.t 0), (some (17, true))⟩,
⟨some 19, .mov (.t 1), (some (17, true))⟩,
⟨some 20, .bin .sub (.k (.int .i64 (-9223372036854775808))) (.t 19), (some (17, true))⟩,
⟨some 21, .bin .lss (.t 18) (.t 20), (some (17, true))⟩,
⟨some 22, .pick (.t 17) (.t 21) (.k (.bool false)), (some (14, false))⟩,
⟨some 23, .pick (.t 14) (.k (.bool true)) (.t 22), none⟩]
[0, 1, 23])
(.cond (.t 23)
(.seq (.reg [⟨some 4, .mov (.k (.int .i64 0)), none⟩,
⟨some 5, .mov (.k (.bool false)), none⟩]
[4, 5])
.ret)
.skip))
(.seq (.reg [⟨some 24, .mov (.t 0), none⟩,
⟨some 25, .mov (.t 1), none⟩,
⟨some 26, .bin .add (.t 24) (.t 25), none⟩,
⟨some 4, .mov (.t 26), none⟩,
⟨some 5, .mov (.k (.bool true)), none⟩]
[4, 5])
.ret)))⟩
theorem k_proctorref01_Add : chkF Tryz.prog Tryz.f285 c_proctorref01_Add = true := by kernel_rfl
theorem pc_proctorref01_Add {G : Nat → Option AV} {args : List AV} {r : AV} (h : Runs Tryz.prog G c_proctorref01_Add args r) (hk : args.length = c_proctorref01_Add.k := by rfl) : PureC Tryz.prog G n_proctorref01_Add args r := PureC.of_runs (fn := Tryz.f285) (A := c_proctorref01_Add) Tryz.func285 k_proctorref01_Add hk h
def c_proctorref01_Div : AFun := ⟨27, 2, [.t 4, .t 5, .t 6],
  (.seq (.reg [⟨some 4, .mov (.k (.int .i64 0)), none⟩,
⟨some 5, .mov (.k (.int .i64 0)), none⟩,
⟨some 6, .mov (.k (.int .i64 0)), none⟩]
[0, 1])
(.seq (.seq (.reg [⟨some 9, .mov (.t 1), none⟩,
⟨some 10, .bin .eql (.t 9) (.k (.int .i64 0)), none⟩]
[0, 1, 10])
(.cond (.t 10)
(.seq (.reg [⟨some 4, .mov (.k (.int .i64 0)), none⟩,
⟨some 5, .mov (.k (.int .i64 0)), none⟩,
⟨some 6, .mov (.k (.int .i64 7)), none⟩]
[4, 5, 6])
.ret)
.skip))
(.seq (.seq (.reg [⟨some 11, .mov (.t 1), none⟩,
⟨some 12, .bin .eql (.t 11) (.k (.int .i64 (-1))), none⟩]
[0, 1, 12])
(.cond (.t 12)
(.seq (.reg [⟨some 14, .mov (.t 0), none⟩,
⟨some 15, .call n_proctorref01_Sub [.k (.int .i64 0), .t 14], none⟩,
⟨some 13, .mov (.t 15), none⟩,
⟨some 16, .ext (.t 13) 0, none⟩,
⟨some 17, .ext (.t 13) 1, none⟩,
⟨some 7, .mov (.t 16), none⟩,
⟨some 8, .mov (.t 17), none⟩]
[7, 8])
(.seq (.seq (.reg [⟨some 18, .mov (.t 8), none⟩,
⟨some 19, .un .not (.t 18), none⟩]
[7, 19])
(.cond (.t 19)
(.seq (.reg [⟨some 4, .mov (.k (.int .i64 0)), none⟩,
⟨some 5, .mov (.k (.int .i64 0)), none⟩,
⟨some 6, .mov (.k (.int .i64 6)), none⟩]
[4, 5, 6])
.ret)
.skip))
(.seq (.reg [⟨some 20, .mov (.t 7), none⟩,
⟨some 4, .mov (.t 20), none⟩,
⟨some 5, .mov (.k (.int .i64 0)), none⟩,
⟨some 6, .mov (.k (.int .i64 0)), none⟩]
[4, 5, 6])
.ret)))
.skip))
(.seq (.dreg [⟨some 21, .mov (.t 0), none⟩,
⟨some 22, .mov (.t 1), none⟩,
⟨some 23, .bin .quo (.t 21) (.t 22), none⟩,
⟨some 24, .mov (.t 0), none⟩,
⟨some 25, .mov (.t 1), none⟩,
⟨some 26, .bin .rem (.t 24) (.t 25), none⟩,
⟨some 4, .mov (.t 23), none⟩,
⟨some 5, .mov (.t 26), none⟩,
⟨some 6, .mov (.k (.int .i64 0)), none⟩]
[4, 5, 6])
.ret))))⟩
theorem k_proctorref01_Div : chkF Tryz.prog Tryz.f289 c_proctorref01_Div = true := by kernel_rfl
theorem pc_proctorref01_Div {G : Nat → Option AV} {args : List AV} {r : AV} (h : Runs Tryz.prog G c_proctorref01_Div args r) (hk : args.length = c_proctorref01_Div.k := by rfl) : PureC Tryz.prog G n_proctorref01_Div args r := PureC.of_runs (fn := Tryz.f289) (A := c_proctorref01_Div) Tryz.func289 k_proctorref01_Div hk h
def c_proctorref01_Mul : AFun := ⟨81, 2, [.t 4, .t 5],
  (.seq (.reg [⟨some 4, .mov (.k (.int .i64 0)), none⟩,
⟨some 5, .mov (.k (.bool false)), none⟩]
[0, 1])
(.seq (.seq (.reg [⟨some 6, .mov (.t 0), none⟩,
⟨some 7, .bin .eql (.t 6) (.k (.int .i64 0)), none⟩,
⟨some 8, .mov (.t 7), none⟩,
⟨some 9, .mov (.t 1), (some (8, false))⟩,
⟨some 10, .bin .eql (.t 9) (.k (.int .i64 0)), (some (8, false))⟩,
⟨some 11, .pick (.t 8) (.k (.bool true)) (.t 10), none⟩]
[0, 1, 11])
(.cond (.t 11)
(.seq (.reg [⟨some 4, .mov (.k (.int .i64 0)), none⟩,
⟨some 5, .mov (.k (.bool true)), none⟩]
[4, 5])
.ret)
.skip))
(.seq (.seq (.reg [⟨some 12, .mov (.t 0), none⟩,
⟨some 13, .bin .eql (.t 12) (.k (.int .i64 (-1))), none⟩]
[0, 1, 13])
(.cond (.t 13)
(.seq (.reg [⟨some 14, .mov (.t 1), none⟩,
⟨some 15, .call n_proctorref01_Sub [.k (.int .i64 0), .t 14], none⟩,
⟨some 16, .ext (.t 15) 0, none⟩,
⟨some 17, .ext (.t 15) 1, none⟩,
⟨some 4, .mov (.t 16), none⟩,
⟨some 5, .mov (.t 17), none⟩]
[4, 5])
.ret)
.skip))
(.seq (.seq (.reg [⟨some 18, .mov (.t 1), none⟩,
⟨some 19, .bin .eql (.t 18) (.k (.int .i64 (-1))), none⟩]
[0, 1, 19])
(.cond (.t 19)
(.seq (.reg [⟨some 20, .mov (.t 0), none⟩,
⟨some 21, .call n_proctorref01_Sub [.k (.int .i64 0), .t 20], none⟩,
⟨some 22, .ext (.t 21) 0, none⟩,
⟨some 23, .ext (.t 21) 1, none⟩,
⟨some 4, .mov (.t 22), none⟩,
⟨some 5, .mov (.t 23), none⟩]
[4, 5])
.ret)
.skip))
(.seq (.seq (.reg [⟨some 24, .mov (.t 0), none⟩,
⟨some 25, .bin .gtr (.t 24) (.k (.int .i64 0)), none⟩,
⟨some 26, .mov (.t 25), none⟩,
⟨some 27, .mov (.t 1), (some (26, true))⟩,
⟨some 28, .bin .gtr (.t 27) (.k (.int .i64 0)), (some (26, true))⟩,
⟨some 29, .pick (.t 26) (.t 28) (.k (.bool false)), none⟩,
⟨some 30, .mov (.t 29), none⟩,
⟨some 31, .mov (.t 0), (some (30, true))⟩,
⟨some 32, .mov (.t 1), (some (30, true))⟩,
⟨some 33, .bin .quo (.k (.int .i64 9223372036854775807)) (.t 32), (some (30, true))⟩,
⟨some 34, .bin .gtr (.t 31) (.t 33), (some (30, true))⟩,
⟨some 35, .pick (.t 30) (.t 34) (.k (.bool false)), none⟩,
⟨some 36, .mov (.t 35), none⟩,
⟨some 37, .mov (.t 0), (some (36, false))⟩,
⟨some 38, .bin .gtr (.t 37) (.k (.int .i64 0)), (some (36, false))⟩,
⟨some 39, .mov (.t 38), (some (36, false))⟩,
⟨some 40, .mov (.t 1), (some (39, true))⟩,
⟨some 41, .bin .lss (.t 40) (.k (.int .i64 0)), (some (39, true))⟩,
⟨some 42, .pick (.t 39) (.t 41) (.k (.bool false)), (some (36, false))⟩,
⟨some 43, .mov (.t 42), (some (36, false))⟩,
⟨some 44, .mov (.t 1), (some (43, true))⟩,
⟨some 45, .mov (.t 0), (some (43, true))⟩,
⟨some 46, .bin .quo (.k (.int .i64 (-9223372036854775808))) (.t 45), (some (43, true))⟩,
⟨some 47, .bin .lss (.t 44) (.t 46), (some (43, true))⟩,
⟨some 48, .pick (.t 43) (.t 47) (.k (.bool false)), (some (36, false))⟩,
⟨some 49, .pick (.t 36) (.k (.bool true)) (.t 48), none⟩,
⟨some 50, .mov (.t 49), none⟩,
⟨some 51, .mov (.t 0), (some (50, false))⟩,
⟨some 52, .bin .lss (.t 51) (.k (.int .i64 0)), (some (50, false))⟩,
⟨some 53, .mov (.t 52), (some (50, false))⟩,
⟨some 54, .mov (.t 1), (some (53, true))⟩,
⟨some 55, .bin .gtr (.t 54) (.k (.int .i64 0)), (some (53, true))⟩,
⟨some 56, .pick (.t 53) (.t 55) (.k (.bool false)), (some (50, false))⟩,
⟨some 57, .mov (.t 56), (some (50, false))⟩,
⟨some 58, .mov (.t 0), (some (57, true))⟩,
⟨some 59, .mov (.t 1), (some (57, true))⟩,
⟨some 60, .bin .quo (.k (.int .i64 (-9223372036854775808))) (.t 59), (some (57, true))⟩,
⟨some 61, .bin .lss (.t 58) (.t 60), (some (57, true))⟩,
⟨some 62, .pick (.t 57) (.t 61) (.k (.bool false)), (some (50, false))⟩,
⟨some 63, .pick (.t 50) (.k (.bool true)) (.t 62), none⟩,
⟨some 64, .mov (.t 63), none⟩,
⟨some 65, .mov (.t 0), (some (64, false))⟩,
⟨some 66, .bin .lss (.t 65) (.k (.int .i64 0)), (some (64, false))⟩,
⟨some 67, .mov (.t 66), (some (64, false))⟩,
⟨some 68, .mov (.t 1), (some (67, true))⟩,
⟨some 69, .bin .lss (.t 68) (.k (.int .i64 0)), (some (67, true))⟩,
⟨some 70, .pick (.t 67) (.t 69) (.k (.bool false)), (some (64, false))⟩,
⟨some 71, .mov (.t 70), (some (64, false))⟩,
⟨some 72, .mov (.t 0), (some (71, true))⟩,
⟨some 73, .mov (.t 1), (some (71, true))⟩,
⟨some 74, .bin .quo (.k (.int .i64 9223372036854775807)) (.t 73), (some (71, true))⟩,
⟨some 75, .bin .lss (.t 72) (.t 74), (some (71, true))⟩,
⟨some 76, .pick (.t 71) (.t 75) (.k (.bool false)), (some (64, false))⟩,
⟨some 77, .pick (.t 64) (.k (.bool true)) (.t 76), none⟩]
[0, 1, 77])
(.cond (.t 77)
(.seq (.reg [⟨some 4, .mov (.k (.int .i64 0)), none⟩,
⟨some 5, .mov (.k (.bool false)), none⟩]
[4, 5])
.ret)
.skip))
(.seq (.reg [⟨some 78, .mov (.t 0), none⟩,
⟨some 79, .mov (.t 1), none⟩,
⟨some 80, .bin .mul (.t 78) (.t 79), none⟩,
⟨some 4, .mov (.t 80), none⟩,
⟨some 5, .mov (.k (.bool true)), none⟩]
[4, 5])
.ret))))))⟩
theorem k_proctorref01_Mul : chkF Tryz.prog Tryz.f288 c_proctorref01_Mul = true := by kernel_rfl
theorem pc_proctorref01_Mul {G : Nat → Option AV} {args : List AV} {r : AV} (h : Runs Tryz.prog G c_proctorref01_Mul args r) (hk : args.length = c_proctorref01_Mul.k := by rfl) : PureC Tryz.prog G n_proctorref01_Mul args r := PureC.of_runs (fn := Tryz.f288) (A := c_proctorref01_Mul) Tryz.func288 k_proctorref01_Mul hk h
def c_proctorref01_Sub : AFun := ⟨27, 2, [.t 4, .t 5],
  (.seq (.reg [⟨some 4, .mov (.k (.int .i64 0)), none⟩,
⟨some 5, .mov (.k (.bool false)), none⟩]
[0, 1])
(.seq (.seq (.reg [⟨some 6, .mov (.t 1), none⟩,
⟨some 7, .bin .lss (.t 6) (.k (.int .i64 0)), none⟩,
⟨some 8, .mov (.t 7), none⟩,
⟨some 9, .mov (.t 0), (some (8, true))⟩,
⟨some 10, .mov (.t 1), (some (8, true))⟩,
⟨some 11, .bin .add (.k (.int .i64 9223372036854775807)) (.t 10), (some (8, true))⟩,
⟨some 12, .bin .gtr (.t 9) (.t 11), (some (8, true))⟩,
⟨some 13, .pick (.t 8) (.t 12) (.k (.bool false)), none⟩,
⟨some 14, .mov (.t 13), none⟩,
⟨some 15, .mov (.t 1), (some (14, false))⟩,
⟨some 16, .bin .gtr (.t 15) (.k (.int .i64 0)), (some (14, false))⟩,
⟨some 17, .mov (.t 16), (some (14, false))⟩,
⟨some 18, .mov (.t 0), (some (17, true))⟩,
⟨some 19, .mov (.t 1), (some (17, true))⟩,
⟨some 20, .bin .add (.k (.int .i64 (-9223372036854775808))) (.t 19), (some (17, true))⟩,
⟨some 21, .bin .lss (.t 18) (.t 20), (some (17, true))⟩,
⟨some 22, .pick (.t 17) (.t 21) (.k (.bool false)), (some (14, false))⟩,
⟨some 23, .pick (.t 14) (.k (.bool true)) (.t 22), none⟩]
[0, 1, 23])
(.cond (.t 23)
(.seq (.reg [⟨some 4, .mov (.k (.int .i64 0)), none⟩,
⟨some 5, .mov (.k (.bool false)), none⟩]
[4, 5])
.ret)
.skip))
(.seq (.reg [⟨some 24, .mov (.t 0), none⟩,
⟨some 25, .mov (.t 1), none⟩,
⟨some 26, .bin .sub (.t 24) (.t 25), none⟩,
⟨some 4, .mov (.t 26), none⟩,
⟨some 5, .mov (.k (.bool true)), none⟩]
[4, 5])
.ret)))⟩
theorem k_proctorref01_Sub : chkF Tryz.prog Tryz.f287 c_proctorref01_Sub = true := by kernel_rfl
theorem pc_proctorref01_Sub {G : Nat → Option AV} {args : List AV} {r : AV} (h : Runs Tryz.prog G c_proctorref01_Sub args r) (hk : args.length = c_proctorref01_Sub.k := by rfl) : PureC Tryz.prog G n_proctorref01_Sub args r := PureC.of_runs (fn := Tryz.f287) (A := c_proctorref01_Sub) Tryz.func287 k_proctorref01_Sub hk h
def c_proctorref01_Text : AFun := ⟨51, 1, [.t 2],
  (.seq (.reg [⟨some 2, .mov (.k (.str [])), none⟩]
[0])
(.seq (.reg [⟨some 3, .mov (.k (.str [48, 49, 50, 51, 52, 53, 54, 55, 56, 57])), none⟩]
[0, 3])
(.seq (.seq (.reg [⟨some 5, .mov (.t 0), none⟩,
⟨some 6, .bin .geq (.t 5) (.k (.int .i64 0)), none⟩,
⟨some 7, .mov (.t 6), none⟩,
⟨some 8, .mov (.t 0), (some (7, true))⟩,
⟨some 9, .bin .lss (.t 8) (.k (.int .i64 10)), (some (7, true))⟩,
⟨some 10, .pick (.t 7) (.t 9) (.k (.bool false)), none⟩]
[0, 3, 10])
(.cond (.t 10)
(.seq (.reg [⟨some 11, .mov (.t 3), none⟩,
⟨some 12, .mov (.t 0), none⟩,
⟨some 13, .mov (.t 0), none⟩,
⟨some 14, .bin .add (.t 13) (.k (.int .i64 1)), none⟩,
⟨some 15, .slc 0 (.t 11) (some (.t 12)) (some (.t 14)), none⟩,
⟨some 2, .mov (.t 15), none⟩]
[2])
.ret)
.skip))
(.seq (.seq (.reg [⟨some 16, .mov (.t 0), none⟩,
⟨some 17, .bin .geq (.t 16) (.k (.int .i64 10)), none⟩]
[0, 3, 17])
(.cond (.t 17)
(.seq (.dreg [⟨some 18, .mov (.t 0), none⟩,
⟨some 19, .bin .quo (.t 18) (.k (.int .i64 10)), none⟩,
⟨some 20, .call n_proctorref01_Text [.t 19], none⟩,
⟨some 21, .mov (.t 3), none⟩,
⟨some 22, .mov (.t 0), none⟩,
⟨some 23, .bin .rem (.t 22) (.k (.int .i64 10)), none⟩,
⟨some 24, .mov (.t 0), none⟩,
⟨some 25, .bin .rem (.t 24) (.k (.int .i64 10)), none⟩,
⟨some 26, .bin .add (.t 25) (.k (.int .i64 1)), none⟩,
⟨some 27, .slc 0 (.t 21) (some (.t 23)) (some (.t 26)), none⟩,
⟨some 28, .bin .add (.t 20) (.t 27), none⟩,
⟨some 2, .mov (.t 28), none⟩]
[2])
.ret)
.skip))
(.seq (.seq (.reg [⟨some 29, .mov (.t 0), none⟩,
⟨some 30, .bin .gtr (.t 29) (.k (.int .i64 (-10))), none⟩]
[0, 3, 30])
(.cond (.t 30)
(.seq (.reg [⟨some 31, .mov (.t 3), none⟩,
⟨some 32, .mov (.t 0), none⟩,
⟨some 33, .un .neg (.t 32), none⟩,
⟨some 34, .mov (.t 0), none⟩,
⟨some 35, .un .neg (.t 34), none⟩,
⟨some 36, .bin .add (.t 35) (.k (.int .i64 1)), none⟩,
⟨some 37, .slc 0 (.t 31) (some (.t 33)) (some (.t 36)), none⟩,
⟨some 38, .bin .add (.k (.str [45])) (.t 37), none⟩,
⟨some 2, .mov (.t 38), none⟩]
[2])
.ret)
.skip))
(.seq (.reg [⟨some 39, .mov (.t 0), none⟩,
⟨some 40, .bin .rem (.t 39) (.k (.int .i64 10)), none⟩,
⟨some 41, .un .neg (.t 40), none⟩,
⟨some 4, .mov (.t 41), none⟩]
[0, 3, 4])
(.seq (.dreg [⟨some 42, .mov (.t 0), none⟩,
⟨some 43, .bin .quo (.t 42) (.k (.int .i64 10)), none⟩,
⟨some 44, .call n_proctorref01_Text [.t 43], none⟩,
⟨some 45, .mov (.t 3), none⟩,
⟨some 46, .mov (.t 4), none⟩,
⟨some 47, .mov (.t 4), none⟩,
⟨some 48, .bin .add (.t 47) (.k (.int .i64 1)), none⟩,
⟨some 49, .slc 0 (.t 45) (some (.t 46)) (some (.t 48)), none⟩,
⟨some 50, .bin .add (.t 44) (.t 49), none⟩,
⟨some 2, .mov (.t 50), none⟩]
[2])
.ret)))))))⟩
theorem k_proctorref01_Text : chkF Tryz.prog Tryz.f111 c_proctorref01_Text = true := by kernel_rfl
theorem pc_proctorref01_Text {G : Nat → Option AV} {args : List AV} {r : AV} (h : Runs Tryz.prog G c_proctorref01_Text args r) (hk : args.length = c_proctorref01_Text.k := by rfl) : PureC Tryz.prog G n_proctorref01_Text args r := PureC.of_runs (fn := Tryz.f111) (A := c_proctorref01_Text) Tryz.func111 k_proctorref01_Text hk h
def c_proctorref02_One : AFun := ⟨32, 1, [.t 2],
  (.seq (.reg [⟨some 2, .mov (.k (.str [])), none⟩]
[0])
(.seq (.seq (.reg [⟨some 3, .mov (.t 0), none⟩,
⟨some 4, .bin .eql (.t 3) (.k (.int .u8 34)), none⟩]
[0, 4])
(.cond (.t 4)
(.seq (.reg [⟨some 2, .mov (.k (.str [92, 34])), none⟩]
[2])
.ret)
.skip))
(.seq (.seq (.reg [⟨some 5, .mov (.t 0), none⟩,
⟨some 6, .bin .eql (.t 5) (.k (.int .u8 92)), none⟩]
[0, 6])
(.cond (.t 6)
(.seq (.reg [⟨some 2, .mov (.k (.str [92, 92])), none⟩]
[2])
.ret)
.skip))
(.seq (.seq (.reg [⟨some 7, .mov (.t 0), none⟩,
⟨some 8, .bin .eql (.t 7) (.k (.int .u8 10)), none⟩]
[0, 8])
(.cond (.t 8)
(.seq (.reg [⟨some 2, .mov (.k (.str [92, 110])), none⟩]
[2])
.ret)
.skip))
(.seq (.seq (.reg [⟨some 9, .mov (.t 0), none⟩,
⟨some 10, .bin .eql (.t 9) (.k (.int .u8 13)), none⟩]
[0, 10])
(.cond (.t 10)
(.seq (.reg [⟨some 2, .mov (.k (.str [92, 114])), none⟩]
[2])
.ret)
.skip))
(.seq (.seq (.reg [⟨some 11, .mov (.t 0), none⟩,
⟨some 12, .bin .eql (.t 11) (.k (.int .u8 9)), none⟩]
[0, 12])
(.cond (.t 12)
(.seq (.reg [⟨some 2, .mov (.k (.str [92, 116])), none⟩]
[2])
.ret)
.skip))
(.seq (.seq (.reg [⟨some 13, .mov (.t 0), none⟩,
⟨some 14, .bin .lss (.t 13) (.k (.int .u8 32)), none⟩,
⟨some 15, .mov (.t 14), none⟩,
⟨some 16, .mov (.t 0), (some (15, false))⟩,
⟨some 17, .bin .gtr (.t 16) (.k (.int .u8 126)), (some (15, false))⟩,
⟨some 18, .pick (.t 15) (.k (.bool true)) (.t 17), none⟩]
[0, 18])
(.cond (.t 18)
(.seq (.reg [⟨some 19, .mov (.t 0), none⟩,
⟨some 20, .conv .i64 (.t 19), none⟩,
⟨some 21, .bin .quo (.t 20) (.k (.int .i64 16)), none⟩,
⟨some 22, .call n_proctorref02_hex [.t 21], none⟩,
⟨some 23, .bin .add (.k (.str [92, 120])) (.t 22), none⟩,
⟨some 24, .mov (.t 0), none⟩,
⟨some 25, .conv .i64 (.t 24), none⟩,
⟨some 26, .bin .rem (.t 25) (.k (.int .i64 16)), none⟩,
⟨some 27, .call n_proctorref02_hex [.t 26], none⟩,
⟨some 28, .bin .add (.t 23) (.t 27), none⟩,
⟨some 2, .mov (.t 28), none⟩]
[2])
.ret)
.skip))
(.seq (.reg [⟨some 29, .mov (.t 0), none⟩,
⟨some 30, .mkrow t_uint8 1 1 (.int .u8 0) [(0, .t 29)], none⟩,
⟨some 31, .b2s (.t 30), none⟩,
⟨some 2, .mov (.t 31), none⟩]
[2])
.ret))))))))⟩
theorem k_proctorref02_One : chkF Tryz.prog Tryz.f185 c_proctorref02_One = true := by kernel_rfl
theorem pc_proctorref02_One {G : Nat → Option AV} {args : List AV} {r : AV} (h : Runs Tryz.prog G c_proctorref02_One args r) (hk : args.length = c_proctorref02_One.k := by rfl) : PureC Tryz.prog G n_proctorref02_One args r := PureC.of_runs (fn := Tryz.f185) (A := c_proctorref02_One) Tryz.func185 k_proctorref02_One hk h
def c_proctorref02_Quote : AFun := ⟨19, 1, [.t 2],
  (.seq (.reg [⟨some 2, .mov (.k (.str [])), none⟩]
[0])
(.seq (.reg [⟨some 3, .mov (.k (.str [34])), none⟩]
[0, 3])
(.seq (.seq (.reg [⟨some 4, .mov (.k (.int .i64 0)), none⟩]
[0, 3, 4])
(.block 0
(.loop [0, 3, 4] []
  (.seq (.seq (.reg [⟨some 5, .mov (.t 4), none⟩,
⟨some 6, .mov (.t 0), none⟩,
⟨some 7, .len true (.t 6), none⟩,
⟨some 8, .bin .lss (.t 5) (.t 7), none⟩]
[0, 3, 4, 8])
(.cond (.t 8)
.skip
(.exit 0)))
(.seq (.block 1
(.reg [⟨some 11, .mov (.t 3), none⟩,
⟨some 12, .mov (.t 0), none⟩,
⟨some 13, .mov (.t 4), none⟩,
⟨some 14, .idx (.t 12) (.t 13), none⟩,
⟨some 15, .call n_proctorref02_One [.t 14], none⟩,
⟨some 16, .bin .add (.t 11) (.t 15), none⟩,
⟨some 3, .mov (.t 16), none⟩]
[0, 3, 4]))
(.reg [⟨some 9, .mov (.t 4), none⟩,
⟨some 10, .bin .add (.t 9) (.k (.int .i64 1)), none⟩,
⟨some 4, .mov (.t 10), none⟩]
[0, 3, 4]))))))
(.seq (.reg [⟨some 17, .mov (.t 3), none⟩,
⟨some 18, .bin .add (.t 17) (.k (.str [34])), none⟩,
⟨some 2, .mov (.t 18), none⟩]
[2])
.ret))))⟩
theorem k_proctorref02_Quote : chkF Tryz.prog Tryz.f124 c_proctorref02_Quote = true := by kernel_rfl
theorem pc_proctorref02_Quote {G : Nat → Option AV} {args : List AV} {r : AV} (h : Runs Tryz.prog G c_proctorref02_Quote args r) (hk : args.length = c_proctorref02_Quote.k := by rfl) : PureC Tryz.prog G n_proctorref02_Quote args r := PureC.of_runs (fn := Tryz.f124) (A := c_proctorref02_Quote) Tryz.func124 k_proctorref02_Quote hk h
def c_proctorref02_hex : AFun := ⟨9, 1, [.t 2],
  (.seq (.reg [⟨some 2, .mov (.k (.str [])), none⟩]
[0])
(.seq (.reg [⟨some 3, .mov (.k (.str [48, 49, 50, 51, 52, 53, 54, 55, 56, 57, 97, 98, 99, 100, 101, 102])), none⟩]
[0, 3])
(.seq (.reg [⟨some 4, .mov (.t 3), none⟩,
⟨some 5, .mov (.t 0), none⟩,
⟨some 6, .mov (.t 0), none⟩,
⟨some 7, .bin .add (.t 6) (.k (.int .i64 1)), none⟩,
⟨some 8, .slc 0 (.t 4) (some (.t 5)) (some (.t 7)), none⟩,
⟨some 2, .mov (.t 8), none⟩]
[2])
.ret)))⟩
theorem k_proctorref02_hex : chkF Tryz.prog Tryz.f243 c_proctorref02_hex = true := by kernel_rfl
theorem pc_proctorref02_hex {G : Nat → Option AV} {args : List AV} {r : AV} (h : Runs Tryz.prog G c_proctorref02_hex args r) (hk : args.length = c_proctorref02_hex.k := by rfl) : PureC Tryz.prog G n_proctorref02_hex args r := PureC.of_runs (fn := Tryz.f243) (A := c_proctorref02_hex) Tryz.func243 k_proctorref02_hex hk h
def c_proctorref03_Below : AFun := ⟨37, 2, [.t 4],
  (.seq (.reg [⟨some 4, .mov (.k (.bool false)), none⟩]
[0, 1])
(.seq (.seq (.reg [⟨some 5, .mov (.k (.int .i64 0)), none⟩]
[0, 1, 5])
(.block 0
(.loop [0, 1, 5] []
  (.seq (.seq (.reg [⟨some 6, .mov (.t 5), none⟩,
⟨some 7, .mov (.t 0), none⟩,
⟨some 8, .len true (.t 7), none⟩,
⟨some 9, .bin .lss (.t 6) (.t 8), none⟩,
⟨some 10, .mov (.t 9), none⟩,
⟨some 11, .mov (.t 5), (some (10, true))⟩,
⟨some 12, .mov (.t 1), (some (10, true))⟩,
⟨some 13, .len true (.t 12), (some (10, true))⟩,
⟨some 14, .bin .lss (.t 11) (.t 13), (some (10, true))⟩,
⟨some 15, .pick (.t 10) (.t 14) (.k (.bool false)), none⟩]
[0, 1, 5, 15])
(.cond (.t 15)
.skip
(.exit 0)))
(.seq (.block 1
(.seq (.dreg [⟨some 18, .mov (.t 0), none⟩,
⟨some 19, .mov (.t 5), none⟩,
⟨some 20, .idx (.t 18) (.t 19), none⟩,
⟨some 21, .mov (.t 1), none⟩,
⟨some 22, .mov (.t 5), none⟩,
⟨some 23, .idx (.t 21) (.t 22), none⟩,
⟨some 24, .bin .neq (.t 20) (.t 23), none⟩]
[0, 1, 5, 24])
(.cond (.t 24)
(.seq (.dreg [⟨some 25, .mov (.t 0), none⟩,
⟨some 26, .mov (.t 5), none⟩,
⟨some 27, .idx (.t 25) (.t 26), none⟩,
⟨some 28, .mov (.t 1), none⟩,
⟨some 29, .mov (.t 5), none⟩,
⟨some 30, .idx (.t 28) (.t 29), none⟩,
⟨some 31, .bin .lss (.t 27) (.t 30), none⟩,
⟨some 4, .mov (.t 31), none⟩]
[4])
.ret)
.skip)))
(.reg [⟨some 16, .mov (.t 5), none⟩,
⟨some 17, .bin .add (.t 16) (.k (.int .i64 1)), none⟩,
⟨some 5, .mov (.t 17), none⟩]
[0, 1, 5]))))))
(.seq (.reg [⟨some 32, .mov (.t 0), none⟩,
⟨some 33, .len true (.t 32), none⟩,
⟨some 34, .mov (.t 1), none⟩,
⟨some 35, .len true (.t 34), none⟩,
⟨some 36, .bin .lss (.t 33) (.t 35), none⟩,
⟨some 4, .mov (.t 36), none⟩]
[4])
.ret)))⟩
theorem k_proctorref03_Below : chkF Tryz.prog Tryz.f233 c_proctorref03_Below = true := by kernel_rfl
theorem pc_proctorref03_Below {G : Nat → Option AV} {args : List AV} {r : AV} (h : Runs Tryz.prog G c_proctorref03_Below args r) (hk : args.length = c_proctorref03_Below.k := by rfl) : PureC Tryz.prog G n_proctorref03_Below args r := PureC.of_runs (fn := Tryz.f233) (A := c_proctorref03_Below) Tryz.func233 k_proctorref03_Below hk h
def c_proctorref03_Less : AFun := ⟨38, 2, [.t 4],
  (.seq (.reg [⟨some 2, .box t_api_Value 4 (.t 0), none⟩,
⟨some 3, .box t_api_Value 4 (.t 1), none⟩,
⟨some 4, .mov (.k (.bool false)), none⟩]
[2, 3])
(.seq (.seq (.reg [⟨some 5, .faddr (.t 2) 0, none⟩,
⟨some 6, .load (.t 5), none⟩,
⟨some 7, .faddr (.t 3) 0, none⟩,
⟨some 8, .load (.t 7), none⟩,
⟨some 9, .bin .neq (.t 6) (.t 8), none⟩]
[2, 3, 9])
(.cond (.t 9)
(.seq (.reg [⟨some 10, .faddr (.t 2) 0, none⟩,
⟨some 11, .load (.t 10), none⟩,
⟨some 12, .faddr (.t 3) 0, none⟩,
⟨some 13, .load (.t 12), none⟩,
⟨some 14, .bin .lss (.t 11) (.t 13), none⟩,
⟨some 4, .mov (.t 14), none⟩]
[4])
.ret)
.skip))
(.seq (.seq (.reg [⟨some 15, .faddr (.t 2) 0, none⟩,
⟨some 16, .load (.t 15), none⟩,
⟨some 17, .bin .eql (.t 16) (.k (.int .i64 1)), none⟩]
[2, 3, 17])
(.cond (.t 17)
(.seq (.reg [⟨some 18, .faddr (.t 2) 1, none⟩,
⟨some 19, .load (.t 18), none⟩,
⟨some 20, .faddr (.t 3) 1, none⟩,
⟨some 21, .load (.t 20), none⟩,
⟨some 22, .bin .lss (.t 19) (.t 21), none⟩,
⟨some 4, .mov (.t 22), none⟩]
[4])
.ret)
.skip))
(.seq (.seq (.reg [⟨some 23, .faddr (.t 2) 0, none⟩,
⟨some 24, .load (.t 23), none⟩,
⟨some 25, .bin .eql (.t 24) (.k (.int .i64 2)), none⟩]
[2, 3, 25])
(.cond (.t 25)
(.seq (.reg [⟨some 26, .faddr (.t 2) 2, none⟩,
⟨some 27, .load (.t 26), none⟩,
⟨some 28, .faddr (.t 3) 2, none⟩,
⟨some 29, .load (.t 28), none⟩,
⟨some 30, .call n_proctorref03_Below [.t 27, .t 29], none⟩,
⟨some 4, .mov (.t 30), none⟩]
[4])
.ret)
.skip))
(.seq (.reg [⟨some 31, .faddr (.t 2) 3, none⟩,
⟨some 32, .load (.t 31), none⟩,
⟨some 33, .un .not (.t 32), none⟩,
⟨some 34, .mov (.t 33), none⟩,
⟨some 35, .faddr (.t 3) 3, (some (34, true))⟩,
⟨some 36, .load (.t 35), (some (34, true))⟩,
⟨some 37, .pick (.t 34) (.t 36) (.k (.bool false)), none⟩,
⟨some 4, .mov (.t 37), none⟩]
[4])
.ret)))))⟩
theorem k_proctorref03_Less : chkF Tryz.prog Tryz.f167 c_proctorref03_Less = true := by kernel_rfl
theorem pc_proctorref03_Less {G : Nat → Option AV} {args : List AV} {r : AV} (h : Runs Tryz.prog G c_proctorref03_Less args r) (hk : args.length = c_proctorref03_Less.k := by rfl) : PureC Tryz.prog G n_proctorref03_Less args r := PureC.of_runs (fn := Tryz.f167) (A := c_proctorref03_Less) Tryz.func167 k_proctorref03_Less hk h
def c_proctorref03_Op : AFun := ⟨145, 3, [.cells 6 4, .t 7],
  (.seq (.reg [⟨some 4, .box t_api_Value 4 (.t 1), none⟩,
⟨some 5, .box t_api_Value 4 (.t 2), none⟩,
⟨some 6, .alloc t_api_Value 4 (.agg [.int .i64 0, .int .i64 0, .str [], .bool false]), none⟩,
⟨some 7, .mov (.k (.int .i64 0)), none⟩]
[0, 4, 5, 6])
(.seq (.seq (.reg [⟨some 8, .mov (.t 0), none⟩,
⟨some 9, .bin .lss (.t 8) (.k (.int .i64 4)), none⟩,
⟨some 10, .mov (.t 9), none⟩,
⟨some 11, .mov (.t 0), (some (10, false))⟩,
⟨some 12, .bin .gtr (.t 11) (.k (.int .i64 16)), (some (10, false))⟩,
⟨some 13, .pick (.t 10) (.k (.bool true)) (.t 12), none⟩]
[0, 4, 5, 6, 13])
(.cond (.t 13)
(.seq (.reg [⟨some 14, .build [.int .i64 0, .int .i64 0, .str [], .bool false] [], none⟩,
⟨none, .store (.t 6) (.t 14) 4, none⟩,
⟨some 7, .mov (.k (.int .i64 1)), none⟩]
[6, 7])
.ret)
.skip))
(.seq (.seq (.reg [⟨some 15, .mov (.t 0), none⟩,
⟨some 16, .bin .eql (.t 15) (.k (.int .i64 4)), none⟩]
[0, 4, 5, 6, 16])
(.cond (.t 16)
(.seq (.seq (.reg [⟨some 17, .faddr (.t 4) 0, none⟩,
⟨some 18, .load (.t 17), none⟩,
⟨some 19, .bin .neq (.t 18) (.k (.int .i64 3)), none⟩]
[4, 6, 19])
(.cond (.t 19)
(.seq (.reg [⟨some 20, .build [.int .i64 0, .int .i64 0, .str [], .bool false] [], none⟩,
⟨none, .store (.t 6) (.t 20) 4, none⟩,
⟨some 7, .mov (.k (.int .i64 8)), none⟩]
[6, 7])
.ret)
.skip))
(.seq (.reg [⟨some 21, .faddr (.t 4) 3, none⟩,
⟨some 22, .load (.t 21), none⟩,
⟨some 23, .un .not (.t 22), none⟩,
⟨some 24, .call n_proctorref03_truth [.t 23], none⟩,
⟨some 25, .ext (.t 24) 0, none⟩,
⟨some 26, .ext (.t 24) 1, none⟩,
⟨none, .store (.t 6) (.t 25) 4, none⟩,
⟨some 7, .mov (.t 26), none⟩]
[6, 7])
.ret))
.skip))
(.seq (.seq (.reg [⟨some 27, .mov (.t 0), none⟩,
⟨some 28, .bin .eql (.t 27) (.k (.int .i64 5)), none⟩]
[0, 4, 5, 6, 28])
(.cond (.t 28)
(.seq (.seq (.reg [⟨some 29, .faddr (.t 4) 0, none⟩,
⟨some 30, .load (.t 29), none⟩,
⟨some 31, .bin .neq (.t 30) (.k (.int .i64 1)), none⟩]
[4, 6, 31])
(.cond (.t 31)
(.seq (.reg [⟨some 32, .build [.int .i64 0, .int .i64 0, .str [], .bool false] [], none⟩,
⟨none, .store (.t 6) (.t 32) 4, none⟩,
⟨some 7, .mov (.k (.int .i64 8)), none⟩]
[6, 7])
.ret)
.skip))
(.seq (.reg [⟨some 33, .faddr (.t 4) 1, none⟩,
⟨some 34, .load (.t 33), none⟩,
⟨some 35, .call n_proctorref03_arith [.k (.int .i64 9), .k (.int .i64 0), .t 34], none⟩,
⟨some 36, .ext (.t 35) 0, none⟩,
⟨some 37, .ext (.t 35) 1, none⟩,
⟨none, .store (.t 6) (.t 36) 4, none⟩,
⟨some 7, .mov (.t 37), none⟩]
[6, 7])
.ret))
.skip))
(.seq (.seq (.reg [⟨some 38, .faddr (.t 4) 0, none⟩,
⟨some 39, .load (.t 38), none⟩,
⟨some 40, .faddr (.t 5) 0, none⟩,
⟨some 41, .load (.t 40), none⟩,
⟨some 42, .bin .neq (.t 39) (.t 41), none⟩]
[0, 4, 5, 6, 42])
(.cond (.t 42)
(.seq (.reg [⟨some 43, .build [.int .i64 0, .int .i64 0, .str [], .bool false] [], none⟩,
⟨none, .store (.t 6) (.t 43) 4, none⟩,
⟨some 7, .mov (.k (.int .i64 8)), none⟩]
[6, 7])
.ret)
.skip))
(.seq (.seq (.reg [⟨some 44, .mov (.t 0), none⟩,
⟨some 45, .bin .eql (.t 44) (.k (.int .i64 13)), none⟩]
[0, 4, 5, 6, 45])
(.cond (.t 45)
(.seq (.reg [⟨some 46, .loadN (.t 4) 4, none⟩,
⟨some 47, .loadN (.t 5) 4, none⟩,
⟨some 48, .eqA false [0, 0, 1, 2] (.t 46) (.t 47), none⟩,
⟨some 49, .call n_proctorref03_truth [.t 48], none⟩,
⟨some 50, .ext (.t 49) 0, none⟩,
⟨some 51, .ext (.t 49) 1, none⟩,
⟨none, .store (.t 6) (.t 50) 4, none⟩,
⟨some 7, .mov (.t 51), none⟩]
[6, 7])
.ret)
.skip))
(.seq (.seq (.reg [⟨some 52, .mov (.t 0), none⟩,
⟨some 53, .bin .eql (.t 52) (.k (.int .i64 14)), none⟩]
[0, 4, 5, 6, 53])
(.cond (.t 53)
(.seq (.reg [⟨some 54, .loadN (.t 4) 4, none⟩,
⟨some 55, .loadN (.t 5) 4, none⟩,
⟨some 56, .eqA true [0, 0, 1, 2] (.t 54) (.t 55), none⟩,
⟨some 57, .call n_proctorref03_truth [.t 56], none⟩,
⟨some 58, .ext (.t 57) 0, none⟩,
⟨some 59, .ext (.t 57) 1, none⟩,
⟨none, .store (.t 6) (.t 58) 4, none⟩,
⟨some 7, .mov (.t 59), none⟩]
[6, 7])
.ret)
.skip))
(.seq (.seq (.reg [⟨some 60, .faddr (.t 4) 0, none⟩,
⟨some 61, .load (.t 60), none⟩,
⟨some 62, .bin .eql (.t 61) (.k (.int .i64 3)), none⟩]
[0, 4, 5, 6, 62])
(.cond (.t 62)
(.seq (.seq (.reg [⟨some 63, .mov (.t 0), none⟩,
⟨some 64, .bin .eql (.t 63) (.k (.int .i64 6)), none⟩]
[0, 4, 5, 6, 64])
(.cond (.t 64)
(.seq (.reg [⟨some 65, .faddr (.t 4) 3, none⟩,
⟨some 66, .load (.t 65), none⟩,
⟨some 67, .mov (.t 66), none⟩,
⟨some 68, .faddr (.t 5) 3, (some (67, true))⟩,
⟨some 69, .load (.t 68), (some (67, true))⟩,
⟨some 70, .pick (.t 67) (.t 69) (.k (.bool false)), none⟩,
⟨some 71, .call n_proctorref03_truth [.t 70], none⟩,
⟨some 72, .ext (.t 71) 0, none⟩,
⟨some 73, .ext (.t 71) 1, none⟩,
⟨none, .store (.t 6) (.t 72) 4, none⟩,
⟨some 7, .mov (.t 73), none⟩]
[6, 7])
.ret)
.skip))
(.seq (.seq (.reg [⟨some 74, .mov (.t 0), none⟩,
⟨some 75, .bin .eql (.t 74) (.k (.int .i64 7)), none⟩]
[4, 5, 6, 75])
(.cond (.t 75)
(.seq (.reg [⟨some 76, .faddr (.t 4) 3, none⟩,
⟨some 77, .load (.t 76), none⟩,
⟨some 78, .mov (.t 77), none⟩,
⟨some 79, .faddr (.t 5) 3, (some (78, false))⟩,
⟨some 80, .load (.t 79), (some (78, false))⟩,
⟨some 81, .pick (.t 78) (.k (.bool true)) (.t 80), none⟩,
⟨some 82, .call n_proctorref03_truth [.t 81], none⟩,
⟨some 83, .ext (.t 82) 0, none⟩,
⟨some 84, .ext (.t 82) 1, none⟩,
⟨none, .store (.t 6) (.t 83) 4, none⟩,
⟨some 7, .mov (.t 84), none⟩]
[6, 7])
.ret)
.skip))
(.seq (.reg [⟨some 85, .build [.int .i64 0, .int .i64 0, .str [], .bool false] [], none⟩,
⟨none, .store (.t 6) (.t 85) 4, none⟩,
⟨some 7, .mov (.k (.int .i64 8)), none⟩]
[6, 7])
.ret)))
.skip))
(.seq (.seq (.reg [⟨some 86, .mov (.t 0), none⟩,
⟨some 87, .bin .eql (.t 86) (.k (.int .i64 15)), none⟩]
[0, 4, 5, 6, 87])
(.cond (.t 87)
(.seq (.reg [⟨some 88, .loadN (.t 4) 4, none⟩,
⟨some 89, .loadN (.t 5) 4, none⟩,
⟨some 90, .call n_proctorref03_Less [.t 88, .t 89], none⟩,
⟨some 91, .call n_proctorref03_truth [.t 90], none⟩,
⟨some 92, .ext (.t 91) 0, none⟩,
⟨some 93, .ext (.t 91) 1, none⟩,
⟨none, .store (.t 6) (.t 92) 4, none⟩,
⟨some 7, .mov (.t 93), none⟩]
[6, 7])
.ret)
.skip))
(.seq (.seq (.reg [⟨some 94, .mov (.t 0), none⟩,
⟨some 95, .bin .eql (.t 94) (.k (.int .i64 16)), none⟩]
[0, 4, 5, 6, 95])
(.cond (.t 95)
(.seq (.reg [⟨some 96, .loadN (.t 5) 4, none⟩,
⟨some 97, .loadN (.t 4) 4, none⟩,
⟨some 98, .call n_proctorref03_Less [.t 96, .t 97], none⟩,
⟨some 99, .un .not (.t 98), none⟩,
⟨some 100, .call n_proctorref03_truth [.t 99], none⟩,
⟨some 101, .ext (.t 100) 0, none⟩,
⟨some 102, .ext (.t 100) 1, none⟩,
⟨none, .store (.t 6) (.t 101) 4, none⟩,
⟨some 7, .mov (.t 102), none⟩]
[6, 7])
.ret)
.skip))
(.seq (.seq (.reg [⟨some 103, .faddr (.t 4) 0, none⟩,
⟨some 104, .load (.t 103), none⟩,
⟨some 105, .bin .eql (.t 104) (.k (.int .i64 1)), none⟩,
⟨some 106, .mov (.t 105), none⟩,
⟨some 107, .mov (.t 0), (some (106, true))⟩,
⟨some 108, .bin .geq (.t 107) (.k (.int .i64 8)), (some (106, true))⟩,
⟨some 109, .pick (.t 106) (.t 108) (.k (.bool false)), none⟩,
⟨some 110, .mov (.t 109), none⟩,
⟨some 111, .mov (.t 0), (some (110, true))⟩,
⟨some 112, .bin .leq (.t 111) (.k (.int .i64 12)), (some (110, true))⟩,
⟨some 113, .pick (.t 110) (.t 112) (.k (.bool false)), none⟩]
[0, 4, 5, 6, 113])
(.cond (.t 113)
(.seq (.reg [⟨some 114, .mov (.t 0), none⟩,
⟨some 115, .faddr (.t 4) 1, none⟩,
⟨some 116, .load (.t 115), none⟩,
⟨some 117, .faddr (.t 5) 1, none⟩,
⟨some 118, .load (.t 117), none⟩,
⟨some 119, .call n_proctorref03_arith [.t 114, .t 116, .t 118], none⟩,
⟨some 120, .ext (.t 119) 0, none⟩,
⟨some 121, .ext (.t 119) 1, none⟩,
⟨none, .store (.t 6) (.t 120) 4, none⟩,
⟨some 7, .mov (.t 121), none⟩]
[6, 7])
.ret)
.skip))
(.seq (.seq (.reg [⟨some 122, .faddr (.t 4) 0, none⟩,
⟨some 123, .load (.t 122), none⟩,
⟨some 124, .bin .eql (.t 123) (.k (.int .i64 2)), none⟩,
⟨some 125, .mov (.t 124), none⟩,
⟨some 126, .mov (.t 0), (some (125, true))⟩,
⟨some 127, .bin .eql (.t 126) (.k (.int .i64 8)), (some (125, true))⟩,
⟨some 128, .pick (.t 125) (.t 127) (.k (.bool false)), none⟩]
[4, 5, 6, 128])
(.cond (.t 128)
(.seq (.seq (.reg [⟨some 129, .faddr (.t 4) 2, none⟩,
⟨some 130, .load (.t 129), none⟩,
⟨some 131, .len true (.t 130), none⟩,
⟨some 132, .faddr (.t 5) 2, none⟩,
⟨some 133, .load (.t 132), none⟩,
⟨some 134, .len true (.t 133), none⟩,
⟨some 135, .bin .add (.t 131) (.t 134), none⟩,
⟨some 136, .bin .gtr (.t 135) (.k (.int .i64 4096)), none⟩]
[4, 5, 6, 136])
(.cond (.t 136)
(.seq (.reg [⟨some 137, .build [.int .i64 0, .int .i64 0, .str [], .bool false] [], none⟩,
⟨none, .store (.t 6) (.t 137) 4, none⟩,
⟨some 7, .mov (.k (.int .i64 3)), none⟩]
[6, 7])
.ret)
.skip))
(.seq (.reg [⟨some 138, .faddr (.t 4) 2, none⟩,
⟨some 139, .load (.t 138), none⟩,
⟨some 140, .faddr (.t 5) 2, none⟩,
⟨some 141, .load (.t 140), none⟩,
⟨some 142, .bin .add (.t 139) (.t 141), none⟩,
⟨some 143, .build [.int .i64 0, .int .i64 0, .str [], .bool false] [(0, 1, .k (.int .i64 2)), (2, 1, .t 142)], none⟩,
⟨none, .store (.t 6) (.t 143) 4, none⟩,
⟨some 7, .mov (.k (.int .i64 0)), none⟩]
[6, 7])
.ret))
.skip))
(.seq (.reg [⟨some 144, .build [.int .i64 0, .int .i64 0, .str [], .bool false] [], none⟩,
⟨none, .store (.t 6) (.t 144) 4, none⟩,
⟨some 7, .mov (.k (.int .i64 8)), none⟩]
[6, 7])
.ret)))))))))))))⟩
theorem k_proctorref03_Op : chkF Tryz.prog Tryz.f231 c_proctorref03_Op = true := by kernel_rfl
theorem pc_proctorref03_Op {G : Nat → Option AV} {args : List AV} {r : AV} (h : Runs Tryz.prog G c_proctorref03_Op args r) (hk : args.length = c_proctorref03_Op.k := by rfl) : PureC Tryz.prog G n_proctorref03_Op args r := PureC.of_runs (fn := Tryz.f231) (A := c_proctorref03_Op) Tryz.func231 k_proctorref03_Op hk h
def c_proctorref03_Right : AFun := ⟨44, 1, [.t 2],
  (.seq (.reg [⟨some 1, .box t_api_Value 4 (.t 0), none⟩,
⟨some 2, .mov (.k (.bool false)), none⟩]
[1])
(.seq (.seq (.reg [⟨some 3, .faddr (.t 1) 0, none⟩,
⟨some 4, .load (.t 3), none⟩,
⟨some 5, .bin .eql (.t 4) (.k (.int .i64 1)), none⟩]
[1, 5])
(.cond (.t 5)
(.seq (.reg [⟨some 6, .faddr (.t 1) 2, none⟩,
⟨some 7, .load (.t 6), none⟩,
⟨some 8, .bin .eql (.t 7) (.k (.str [])), none⟩,
⟨some 9, .mov (.t 8), none⟩,
⟨some 10, .faddr (.t 1) 3, (some (9, true))⟩,
⟨some 11, .load (.t 10), (some (9, true))⟩,
⟨some 12, .un .not (.t 11), (some (9, true))⟩,
⟨some 13, .pick (.t 9) (.t 12) (.k (.bool false)), none⟩,
⟨some 2, .mov (.t 13), none⟩]
[2])
.ret)
.skip))
(.seq (.seq (.reg [⟨some 14, .faddr (.t 1) 0, none⟩,
⟨some 15, .load (.t 14), none⟩,
⟨some 16, .bin .eql (.t 15) (.k (.int .i64 2)), none⟩]
[1, 16])
(.cond (.t 16)
(.seq (.reg [⟨some 17, .faddr (.t 1) 1, none⟩,
⟨some 18, .load (.t 17), none⟩,
⟨some 19, .bin .eql (.t 18) (.k (.int .i64 0)), none⟩,
⟨some 20, .mov (.t 19), none⟩,
⟨some 21, .faddr (.t 1) 3, (some (20, true))⟩,
⟨some 22, .load (.t 21), (some (20, true))⟩,
⟨some 23, .un .not (.t 22), (some (20, true))⟩,
⟨some 24, .pick (.t 20) (.t 23) (.k (.bool false)), none⟩,
⟨some 25, .mov (.t 24), none⟩,
⟨some 26, .faddr (.t 1) 2, (some (25, true))⟩,
⟨some 27, .load (.t 26), (some (25, true))⟩,
⟨some 28, .len true (.t 27), (some (25, true))⟩,
⟨some 29, .bin .leq (.t 28) (.k (.int .i64 4096)), (some (25, true))⟩,
⟨some 30, .pick (.t 25) (.t 29) (.k (.bool false)), none⟩,
⟨some 2, .mov (.t 30), none⟩]
[2])
.ret)
.skip))
(.seq (.reg [⟨some 31, .faddr (.t 1) 0, none⟩,
⟨some 32, .load (.t 31), none⟩,
⟨some 33, .bin .eql (.t 32) (.k (.int .i64 3)), none⟩,
⟨some 34, .mov (.t 33), none⟩,
⟨some 35, .faddr (.t 1) 1, (some (34, true))⟩,
⟨some 36, .load (.t 35), (some (34, true))⟩,
⟨some 37, .bin .eql (.t 36) (.k (.int .i64 0)), (some (34, true))⟩,
⟨some 38, .pick (.t 34) (.t 37) (.k (.bool false)), none⟩,
⟨some 39, .mov (.t 38), none⟩,
⟨some 40, .faddr (.t 1) 2, (some (39, true))⟩,
⟨some 41, .load (.t 40), (some (39, true))⟩,
⟨some 42, .bin .eql (.t 41) (.k (.str [])), (some (39, true))⟩,
⟨some 43, .pick (.t 39) (.t 42) (.k (.bool false)), none⟩,
⟨some 2, .mov (.t 43), none⟩]
[2])
.ret))))⟩
theorem k_proctorref03_Right : chkF Tryz.prog Tryz.f76 c_proctorref03_Right = true := by kernel_rfl
theorem pc_proctorref03_Right {G : Nat → Option AV} {args : List AV} {r : AV} (h : Runs Tryz.prog G c_proctorref03_Right args r) (hk : args.length = c_proctorref03_Right.k := by rfl) : PureC Tryz.prog G n_proctorref03_Right args r := PureC.of_runs (fn := Tryz.f76) (A := c_proctorref03_Right) Tryz.func76 k_proctorref03_Right hk h
def c_proctorref03_Text : AFun := ⟨17, 1, [.t 2],
  (.seq (.reg [⟨some 1, .box t_api_Value 4 (.t 0), none⟩,
⟨some 2, .mov (.k (.str [])), none⟩]
[1])
(.seq (.seq (.reg [⟨some 3, .faddr (.t 1) 0, none⟩,
⟨some 4, .load (.t 3), none⟩,
⟨some 5, .bin .eql (.t 4) (.k (.int .i64 1)), none⟩]
[1, 5])
(.cond (.t 5)
(.seq (.reg [⟨some 6, .faddr (.t 1) 1, none⟩,
⟨some 7, .load (.t 6), none⟩,
⟨some 8, .call n_proctorref01_Text [.t 7], none⟩,
⟨some 2, .mov (.t 8), none⟩]
[2])
.ret)
.skip))
(.seq (.seq (.reg [⟨some 9, .faddr (.t 1) 0, none⟩,
⟨some 10, .load (.t 9), none⟩,
⟨some 11, .bin .eql (.t 10) (.k (.int .i64 2)), none⟩]
[1, 11])
(.cond (.t 11)
(.seq (.reg [⟨some 12, .faddr (.t 1) 2, none⟩,
⟨some 13, .load (.t 12), none⟩,
⟨some 14, .call n_proctorref02_Quote [.t 13], none⟩,
⟨some 2, .mov (.t 14), none⟩]
[2])
.ret)
.skip))
(.seq (.seq (.reg [⟨some 15, .faddr (.t 1) 3, none⟩,
⟨some 16, .load (.t 15), none⟩]
[16])
(.cond (.t 16)
(.seq (.reg [⟨some 2, .mov (.k (.str [116, 114, 117, 101])), none⟩]
[2])
.ret)
.skip))
(.seq (.reg [⟨some 2, .mov (.k (.str [102, 97, 108, 115, 101])), none⟩]
[2])
.ret)))))⟩
theorem k_proctorref03_Text : chkF Tryz.prog Tryz.f65 c_proctorref03_Text = true := by kernel_rfl
theorem pc_proctorref03_Text {G : Nat → Option AV} {args : List AV} {r : AV} (h : Runs Tryz.prog G c_proctorref03_Text args r) (hk : args.length = c_proctorref03_Text.k := by rfl) : PureC Tryz.prog G n_proctorref03_Text args r := PureC.of_runs (fn := Tryz.f65) (A := c_proctorref03_Text) Tryz.func65 k_proctorref03_Text hk h
def c_proctorref03_arith : AFun := ⟨76, 3, [.cells 6 4, .t 7],
  (.seq (.reg [⟨some 6, .alloc t_api_Value 4 (.agg [.int .i64 0, .int .i64 0, .str [], .bool false]), none⟩,
⟨some 7, .mov (.k (.int .i64 0)), none⟩]
[0, 1, 2, 6])
(.seq (.seq (.reg [⟨some 17, .mov (.t 0), none⟩,
⟨some 18, .bin .eql (.t 17) (.k (.int .i64 8)), none⟩]
[0, 1, 2, 6, 18])
(.cond (.t 18)
(.seq (.reg [⟨some 20, .mov (.t 1), none⟩,
⟨some 21, .mov (.t 2), none⟩,
⟨some 22, .call n_proctorref01_Add [.t 20, .t 21], none⟩,
⟨some 19, .mov (.t 22), none⟩,
⟨some 23, .ext (.t 19) 0, none⟩,
⟨some 24, .ext (.t 19) 1, none⟩,
⟨some 8, .mov (.t 23), none⟩,
⟨some 9, .mov (.t 24), none⟩]
[6, 8, 9])
(.seq (.reg [⟨some 25, .mov (.t 8), none⟩,
⟨some 26, .mov (.t 9), none⟩,
⟨some 27, .call n_proctorref03_number [.t 25, .t 26], none⟩,
⟨some 28, .ext (.t 27) 0, none⟩,
⟨some 29, .ext (.t 27) 1, none⟩,
⟨none, .store (.t 6) (.t 28) 4, none⟩,
⟨some 7, .mov (.t 29), none⟩]
[6, 7])
.ret))
.skip))
(.seq (.seq (.reg [⟨some 30, .mov (.t 0), none⟩,
⟨some 31, .bin .eql (.t 30) (.k (.int .i64 9)), none⟩]
[0, 1, 2, 6, 31])
(.cond (.t 31)
(.seq (.reg [⟨some 33, .mov (.t 1), none⟩,
⟨some 34, .mov (.t 2), none⟩,
⟨some 35, .call n_proctorref01_Sub [.t 33, .t 34], none⟩,
⟨some 32, .mov (.t 35), none⟩,
⟨some 36, .ext (.t 32) 0, none⟩,
⟨some 37, .ext (.t 32) 1, none⟩,
⟨some 10, .mov (.t 36), none⟩,
⟨some 11, .mov (.t 37), none⟩]
[6, 10, 11])
(.seq (.reg [⟨some 38, .mov (.t 10), none⟩,
⟨some 39, .mov (.t 11), none⟩,
⟨some 40, .call n_proctorref03_number [.t 38, .t 39], none⟩,
⟨some 41, .ext (.t 40) 0, none⟩,
⟨some 42, .ext (.t 40) 1, none⟩,
⟨none, .store (.t 6) (.t 41) 4, none⟩,
⟨some 7, .mov (.t 42), none⟩]
[6, 7])
.ret))
.skip))
(.seq (.seq (.reg [⟨some 43, .mov (.t 0), none⟩,
⟨some 44, .bin .eql (.t 43) (.k (.int .i64 10)), none⟩]
[0, 1, 2, 6, 44])
(.cond (.t 44)
(.seq (.reg [⟨some 46, .mov (.t 1), none⟩,
⟨some 47, .mov (.t 2), none⟩,
⟨some 48, .call n_proctorref01_Mul [.t 46, .t 47], none⟩,
⟨some 45, .mov (.t 48), none⟩,
⟨some 49, .ext (.t 45) 0, none⟩,
⟨some 50, .ext (.t 45) 1, none⟩,
⟨some 12, .mov (.t 49), none⟩,
⟨some 13, .mov (.t 50), none⟩]
[6, 12, 13])
(.seq (.reg [⟨some 51, .mov (.t 12), none⟩,
⟨some 52, .mov (.t 13), none⟩,
⟨some 53, .call n_proctorref03_number [.t 51, .t 52], none⟩,
⟨some 54, .ext (.t 53) 0, none⟩,
⟨some 55, .ext (.t 53) 1, none⟩,
⟨none, .store (.t 6) (.t 54) 4, none⟩,
⟨some 7, .mov (.t 55), none⟩]
[6, 7])
.ret))
.skip))
(.seq (.reg [⟨some 57, .mov (.t 1), none⟩,
⟨some 58, .mov (.t 2), none⟩,
⟨some 59, .call n_proctorref01_Div [.t 57, .t 58], none⟩,
⟨some 56, .mov (.t 59), none⟩,
⟨some 60, .ext (.t 56) 0, none⟩,
⟨some 61, .ext (.t 56) 1, none⟩,
⟨some 62, .ext (.t 56) 2, none⟩,
⟨some 14, .mov (.t 60), none⟩,
⟨some 15, .mov (.t 61), none⟩,
⟨some 16, .mov (.t 62), none⟩]
[0, 6, 14, 15, 16])
(.seq (.seq (.reg [⟨some 63, .mov (.t 16), none⟩,
⟨some 64, .bin .eql (.t 63) (.k (.int .i64 7)), none⟩]
[0, 6, 14, 15, 16, 64])
(.cond (.t 64)
(.seq (.reg [⟨some 65, .build [.int .i64 0, .int .i64 0, .str [], .bool false] [], none⟩,
⟨none, .store (.t 6) (.t 65) 4, none⟩,
⟨some 7, .mov (.k (.int .i64 7)), none⟩]
[6, 7])
.ret)
.skip))
(.seq (.seq (.reg [⟨some 66, .mov (.t 0), none⟩,
⟨some 67, .bin .eql (.t 66) (.k (.int .i64 12)), none⟩]
[6, 14, 15, 16, 67])
(.cond (.t 67)
(.seq (.reg [⟨some 68, .mov (.t 15), none⟩,
⟨some 69, .build [.int .i64 0, .int .i64 0, .str [], .bool false] [(0, 1, .k (.int .i64 1)), (1, 1, .t 68)], none⟩,
⟨none, .store (.t 6) (.t 69) 4, none⟩,
⟨some 7, .mov (.k (.int .i64 0)), none⟩]
[6, 7])
.ret)
.skip))
(.seq (.reg [⟨some 70, .mov (.t 14), none⟩,
⟨some 71, .mov (.t 16), none⟩,
⟨some 72, .bin .eql (.t 71) (.k (.int .i64 0)), none⟩,
⟨some 73, .call n_proctorref03_number [.t 70, .t 72], none⟩,
⟨some 74, .ext (.t 73) 0, none⟩,
⟨some 75, .ext (.t 73) 1, none⟩,
⟨none, .store (.t 6) (.t 74) 4, none⟩,
⟨some 7, .mov (.t 75), none⟩]
[6, 7])
.ret))))))))⟩
theorem k_proctorref03_arith : chkF Tryz.prog Tryz.f262 c_proctorref03_arith = true := by kernel_rfl
theorem pc_proctorref03_arith {G : Nat → Option AV} {args : List AV} {r : AV} (h : Runs Tryz.prog G c_proctorref03_arith args r) (hk : args.length = c_proctorref03_arith.k := by rfl) : PureC Tryz.prog G n_proctorref03_arith args r := PureC.of_runs (fn := Tryz.f262) (A := c_proctorref03_arith) Tryz.func262 k_proctorref03_arith hk h
def c_proctorref03_number : AFun := ⟨11, 2, [.cells 4 4, .t 5],
  (.seq (.reg [⟨some 4, .alloc t_api_Value 4 (.agg [.int .i64 0, .int .i64 0, .str [], .bool false]), none⟩,
⟨some 5, .mov (.k (.int .i64 0)), none⟩]
[0, 1, 4])
(.seq (.seq (.reg [⟨some 6, .mov (.t 1), none⟩,
⟨some 7, .un .not (.t 6), none⟩]
[0, 4, 7])
(.cond (.t 7)
(.seq (.reg [⟨some 8, .build [.int .i64 0, .int .i64 0, .str [], .bool false] [], none⟩,
⟨none, .store (.t 4) (.t 8) 4, none⟩,
⟨some 5, .mov (.k (.int .i64 6)), none⟩]
[4, 5])
.ret)
.skip))
(.seq (.reg [⟨some 9, .mov (.t 0), none⟩,
⟨some 10, .build [.int .i64 0, .int .i64 0, .str [], .bool false] [(0, 1, .k (.int .i64 1)), (1, 1, .t 9)], none⟩,
⟨none, .store (.t 4) (.t 10) 4, none⟩,
⟨some 5, .mov (.k (.int .i64 0)), none⟩]
[4, 5])
.ret)))⟩
theorem k_proctorref03_number : chkF Tryz.prog Tryz.f286 c_proctorref03_number = true := by kernel_rfl
theorem pc_proctorref03_number {G : Nat → Option AV} {args : List AV} {r : AV} (h : Runs Tryz.prog G c_proctorref03_number args r) (hk : args.length = c_proctorref03_number.k := by rfl) : PureC Tryz.prog G n_proctorref03_number args r := PureC.of_runs (fn := Tryz.f286) (A := c_proctorref03_number) Tryz.func286 k_proctorref03_number hk h
def c_proctorref03_truth : AFun := ⟨6, 1, [.cells 2 4, .t 3],
  (.seq (.reg [⟨some 2, .alloc t_api_Value 4 (.agg [.int .i64 0, .int .i64 0, .str [], .bool false]), none⟩,
⟨some 3, .mov (.k (.int .i64 0)), none⟩]
[0, 2])
(.seq (.reg [⟨some 4, .mov (.t 0), none⟩,
⟨some 5, .build [.int .i64 0, .int .i64 0, .str [], .bool false] [(0, 1, .k (.int .i64 3)), (3, 1, .t 4)], none⟩,
⟨none, .store (.t 2) (.t 5) 4, none⟩,
⟨some 3, .mov (.k (.int .i64 0)), none⟩]
[2, 3])
.ret))⟩
theorem k_proctorref03_truth : chkF Tryz.prog Tryz.f261 c_proctorref03_truth = true := by kernel_rfl
theorem pc_proctorref03_truth {G : Nat → Option AV} {args : List AV} {r : AV} (h : Runs Tryz.prog G c_proctorref03_truth args r) (hk : args.length = c_proctorref03_truth.k := by rfl) : PureC Tryz.prog G n_proctorref03_truth args r := PureC.of_runs (fn := Tryz.f261) (A := c_proctorref03_truth) Tryz.func261 k_proctorref03_truth hk h
def c_proctorref04_Key : AFun := ⟨70, 1, [.t 2],
  (.seq (.reg [⟨some 1, .box t_api_Value 4 (.t 0), none⟩,
⟨some 2, .nilrow t_uint8 1, none⟩]
[1])
(.seq (.reg [⟨some 8, .faddr (.t 1) 0, none⟩,
⟨some 9, .load (.t 8), none⟩,
⟨some 10, .conv .u8 (.t 9), none⟩,
⟨some 11, .mkrow t_uint8 1 1 (.int .u8 0) [(0, .t 10)], none⟩,
⟨some 3, .mov (.t 11), none⟩]
[1, 3])
(.seq (.seq (.reg [⟨some 12, .faddr (.t 1) 0, none⟩,
⟨some 13, .load (.t 12), none⟩,
⟨some 14, .bin .eql (.t 13) (.k (.int .i64 3)), none⟩]
[1, 3, 14])
(.cond (.t 14)
(.seq (.seq (.reg [⟨some 15, .faddr (.t 1) 3, none⟩,
⟨some 16, .load (.t 15), none⟩]
[3, 16])
(.cond (.t 16)
(.seq (.reg [⟨some 17, .mov (.t 3), none⟩,
⟨some 18, .mkrow t_uint8 1 1 (.int .u8 0) [(0, .k (.int .u8 1))], none⟩,
⟨some 19, .app t_uint8 1 1 (.t 17) (.t 18), none⟩,
⟨some 2, .mov (.t 19), none⟩]
[2])
.ret)
.skip))
(.seq (.reg [⟨some 20, .mov (.t 3), none⟩,
⟨some 21, .mkrow t_uint8 1 1 (.int .u8 0) [(0, .k (.int .u8 0))], none⟩,
⟨some 22, .app t_uint8 1 1 (.t 20) (.t 21), none⟩,
⟨some 2, .mov (.t 22), none⟩]
[2])
.ret))
.skip))
(.seq (.seq (.reg [⟨some 23, .faddr (.t 1) 0, none⟩,
⟨some 24, .load (.t 23), none⟩,
⟨some 25, .bin .eql (.t 24) (.k (.int .i64 2)), none⟩]
[1, 3, 25])
(.cond (.t 25)
(.seq (.seq (.reg [⟨some 4, .mov (.k (.int .i64 0)), none⟩]
[1, 3, 4])
(.block 0
(.loop [1, 3, 4] [1, 2, 11, 18, 19, 21, 22, 39, 47]
  (.seq (.seq (.reg [⟨some 26, .mov (.t 4), none⟩,
⟨some 27, .faddr (.t 1) 2, none⟩,
⟨some 28, .load (.t 27), none⟩,
⟨some 29, .len true (.t 28), none⟩,
⟨some 30, .bin .lss (.t 26) (.t 29), none⟩]
[1, 3, 4, 30])
(.cond (.t 30)
.skip
(.exit 0)))
(.seq (.block 1
(.seq (.reg [⟨some 33, .mov (.t 3), none⟩,
⟨some 34, .faddr (.t 1) 2, none⟩,
⟨some 35, .load (.t 34), none⟩,
⟨some 36, .mov (.t 4), none⟩,
⟨some 37, .idx (.t 35) (.t 36), none⟩,
⟨some 38, .mkrow t_uint8 1 1 (.int .u8 0) [(0, .t 37)], none⟩,
⟨some 39, .app t_uint8 1 1 (.t 33) (.t 38), none⟩,
⟨some 3, .mov (.t 39), none⟩]
[1, 3, 4])
(.seq (.reg [⟨some 40, .faddr (.t 1) 2, none⟩,
⟨some 41, .load (.t 40), none⟩,
⟨some 42, .mov (.t 4), none⟩,
⟨some 43, .idx (.t 41) (.t 42), none⟩,
⟨some 44, .bin .eql (.t 43) (.k (.int .u8 0)), none⟩]
[1, 3, 4, 44])
(.cond (.t 44)
(.reg [⟨some 45, .mov (.t 3), none⟩,
⟨some 46, .mkrow t_uint8 1 1 (.int .u8 0) [(0, .k (.int .u8 255))], none⟩,
⟨some 47, .app t_uint8 1 1 (.t 45) (.t 46), none⟩,
⟨some 3, .mov (.t 47), none⟩]
[1, 3, 4])
.skip))))
(.reg [⟨some 31, .mov (.t 4), none⟩,
⟨some 32, .bin .add (.t 31) (.k (.int .i64 1)), none⟩,
⟨some 4, .mov (.t 32), none⟩]
[1, 3, 4]))))))
(.seq (.reg [⟨some 48, .mov (.t 3), none⟩,
⟨some 49, .mkrow t_uint8 1 2 (.int .u8 0) [(0, .k (.int .u8 0)), (1, .k (.int .u8 1))], none⟩,
⟨some 50, .app t_uint8 1 1 (.t 48) (.t 49), none⟩,
⟨some 2, .mov (.t 50), none⟩]
[2])
.ret))
.skip))
(.seq (.reg [⟨some 51, .faddr (.t 1) 1, none⟩,
⟨some 52, .load (.t 51), none⟩,
⟨some 53, .conv .u64 (.t 52), none⟩,
⟨some 54, .bin .add (.t 53) (.k (.int .u64 9223372036854775808)), none⟩,
⟨some 5, .mov (.t 54), none⟩]
[3, 5])
(.seq (.reg [⟨some 6, .mov (.k (.int .u64 72057594037927936)), none⟩]
[3, 5, 6])
(.seq (.seq (.reg [⟨some 7, .mov (.k (.int .i64 0)), none⟩]
[3, 5, 6, 7])
(.block 2
(.loop [3, 5, 6, 7] [1, 2, 11, 18, 19, 21, 22, 29, 38, 39, 46, 47, 49, 50, 66]
  (.seq (.seq (.reg [⟨some 55, .mov (.t 7), none⟩,
⟨some 56, .bin .lss (.t 55) (.k (.int .i64 8)), none⟩]
[3, 5, 6, 7, 56])
(.cond (.t 56)
.skip
(.exit 2)))
(.seq (.block 3
(.seq (.reg [⟨some 59, .mov (.t 3), none⟩,
⟨some 60, .mov (.t 5), none⟩,
⟨some 61, .mov (.t 6), none⟩,
⟨some 62, .bin .quo (.t 60) (.t 61), none⟩,
⟨some 63, .bin .rem (.t 62) (.k (.int .u64 256)), none⟩,
⟨some 64, .conv .u8 (.t 63), none⟩,
⟨some 65, .mkrow t_uint8 1 1 (.int .u8 0) [(0, .t 64)], none⟩,
⟨some 66, .app t_uint8 1 1 (.t 59) (.t 65), none⟩,
⟨some 3, .mov (.t 66), none⟩]
[3, 5, 6, 7])
(.reg [⟨some 67, .mov (.t 6), none⟩,
⟨some 68, .bin .quo (.t 67) (.k (.int .u64 256)), none⟩,
⟨some 6, .mov (.t 68), none⟩]
[3, 5, 6, 7])))
(.reg [⟨some 57, .mov (.t 7), none⟩,
⟨some 58, .bin .add (.t 57) (.k (.int .i64 1)), none⟩,
⟨some 7, .mov (.t 58), none⟩]
[3, 5, 6, 7]))))))
(.seq (.reg [⟨some 69, .mov (.t 3), none⟩,
⟨some 2, .mov (.t 69), none⟩]
[2])
.ret))))))))⟩
theorem k_proctorref04_Key : chkF Tryz.prog Tryz.f62 c_proctorref04_Key = true := by kernel_rfl
theorem pc_proctorref04_Key {G : Nat → Option AV} {args : List AV} {r : AV} (h : Runs Tryz.prog G c_proctorref04_Key args r) (hk : args.length = c_proctorref04_Key.k := by rfl) : PureC Tryz.prog G n_proctorref04_Key args r := PureC.of_runs (fn := Tryz.f62) (A := c_proctorref04_Key) Tryz.func62 k_proctorref04_Key hk h
def c_proctorref04_Keys : AFun := ⟨19, 1, [.t 2],
  (.seq (.reg [⟨some 2, .nilrow t_uint8 1, none⟩]
[0])
(.seq (.reg [⟨some 3, .nilrow t_uint8 1, none⟩]
[0, 3])
(.seq (.seq (.reg [⟨some 4, .mov (.k (.int .i64 0)), none⟩]
[0, 3, 4])
(.block 0
(.loop [0, 3, 4] [2, 3, 17]
  (.seq (.seq (.reg [⟨some 5, .mov (.t 4), none⟩,
⟨some 6, .mov (.t 0), none⟩,
⟨some 7, .len false (.t 6), none⟩,
⟨some 8, .bin .lss (.t 5) (.t 7), none⟩]
[0, 3, 4, 8])
(.cond (.t 8)
.skip
(.exit 0)))
(.seq (.block 1
(.reg [⟨some 11, .mov (.t 3), none⟩,
⟨some 12, .mov (.t 0), none⟩,
⟨some 13, .mov (.t 4), none⟩,
⟨some 14, .iaddr 4 (.t 12) (.t 13), none⟩,
⟨some 15, .loadN (.t 14) 4, none⟩,
⟨some 16, .call n_proctorref04_Key [.t 15], none⟩,
⟨some 17, .app t_uint8 1 1 (.t 11) (.t 16), none⟩,
⟨some 3, .mov (.t 17), none⟩]
[0, 3, 4]))
(.reg [⟨some 9, .mov (.t 4), none⟩,
⟨some 10, .bin .add (.t 9) (.k (.int .i64 1)), none⟩,
⟨some 4, .mov (.t 10), none⟩]
[0, 3, 4]))))))
(.seq (.reg [⟨some 18, .mov (.t 3), none⟩,
⟨some 2, .mov (.t 18), none⟩]
[2])
.ret))))⟩
theorem k_proctorref04_Keys : chkF Tryz.prog Tryz.f18 c_proctorref04_Keys = true := by kernel_rfl
theorem pc_proctorref04_Keys {G : Nat → Option AV} {args : List AV} {r : AV} (h : Runs Tryz.prog G c_proctorref04_Keys args r) (hk : args.length = c_proctorref04_Keys.k := by rfl) : PureC Tryz.prog G n_proctorref04_Keys args r := PureC.of_runs (fn := Tryz.f18) (A := c_proctorref04_Keys) Tryz.func18 k_proctorref04_Keys hk h
def c_proctorref07_Check : AFun := ⟨72, 1, [.t 2, .t 3],
  (.seq (.reg [⟨some 2, .mov (.k (.int .i64 0)), none⟩,
⟨some 3, .mov (.k (.int .i64 0)), none⟩]
[0])
(.seq (.seq (.reg [⟨some 6, .mov (.t 0), none⟩,
⟨some 7, .len false (.t 6), none⟩,
⟨some 8, .bin .gtr (.t 7) (.k (.int .i64 32)), none⟩]
[0, 8])
(.cond (.t 8)
(.seq (.reg [⟨some 2, .mov (.k (.int .i64 14)), none⟩,
⟨some 3, .mov (.k (.int .i64 32)), none⟩]
[2, 3])
.ret)
.skip))
(.seq (.seq (.reg [⟨some 4, .mov (.k (.int .i64 0)), none⟩]
[0, 4])
(.block 0
(.loop [0, 4] [7]
  (.seq (.seq (.reg [⟨some 9, .mov (.t 4), none⟩,
⟨some 10, .mov (.t 0), none⟩,
⟨some 11, .len false (.t 10), none⟩,
⟨some 12, .bin .lss (.t 9) (.t 11), none⟩]
[0, 4, 12])
(.cond (.t 12)
.skip
(.exit 0)))
(.seq (.block 1
(.seq (.seq (.reg [⟨some 15, .mov (.t 0), none⟩,
⟨some 16, .mov (.t 4), none⟩,
⟨some 17, .iaddr 2 (.t 15) (.t 16), none⟩,
⟨some 18, .faddr (.t 17) 0, none⟩,
⟨some 19, .load (.t 18), none⟩,
⟨some 20, .call n_proctorref07_Name [.t 19], none⟩,
⟨some 21, .un .not (.t 20), none⟩]
[0, 4, 21])
(.cond (.t 21)
(.seq (.reg [⟨some 22, .mov (.t 4), none⟩,
⟨some 2, .mov (.k (.int .i64 11)), none⟩,
⟨some 3, .mov (.t 22), none⟩]
[2, 3])
.ret)
.skip))
(.seq (.seq (.reg [⟨some 23, .mov (.t 0), none⟩,
⟨some 24, .mov (.t 0), none⟩,
⟨some 25, .mov (.t 4), none⟩,
⟨some 26, .iaddr 2 (.t 24) (.t 25), none⟩,
⟨some 27, .faddr (.t 26) 0, none⟩,
⟨some 28, .load (.t 27), none⟩,
⟨some 29, .call n_proctorref07_Find [.t 23, .t 28], none⟩,
⟨some 30, .mov (.t 4), none⟩,
⟨some 31, .bin .lss (.t 29) (.t 30), none⟩]
[0, 4, 31])
(.cond (.t 31)
(.seq (.reg [⟨some 32, .mov (.t 4), none⟩,
⟨some 2, .mov (.k (.int .i64 10)), none⟩,
⟨some 3, .mov (.t 32), none⟩]
[2, 3])
.ret)
.skip))
(.seq (.seq (.reg [⟨some 33, .mov (.t 0), none⟩,
⟨some 34, .mov (.t 4), none⟩,
⟨some 35, .iaddr 2 (.t 33) (.t 34), none⟩,
⟨some 36, .faddr (.t 35) 1, none⟩,
⟨some 37, .load (.t 36), none⟩,
⟨some 38, .len false (.t 37), none⟩,
⟨some 39, .bin .gtr (.t 38) (.k (.int .i64 8)), none⟩]
[0, 4, 39])
(.cond (.t 39)
(.seq (.reg [⟨some 40, .mov (.t 4), none⟩,
⟨some 2, .mov (.k (.int .i64 14)), none⟩,
⟨some 3, .mov (.t 40), none⟩]
[2, 3])
.ret)
.skip))
(.seq (.reg [⟨some 5, .mov (.k (.int .i64 0)), none⟩]
[0, 4, 5])
(.block 2
(.loop [0, 4, 5] [7, 11, 20, 29, 38]
  (.seq (.seq (.reg [⟨some 41, .mov (.t 5), none⟩,
⟨some 42, .mov (.t 0), none⟩,
⟨some 43, .mov (.t 4), none⟩,
⟨some 44, .iaddr 2 (.t 42) (.t 43), none⟩,
⟨some 45, .faddr (.t 44) 1, none⟩,
⟨some 46, .load (.t 45), none⟩,
⟨some 47, .len false (.t 46), none⟩,
⟨some 48, .bin .lss (.t 41) (.t 47), none⟩]
[0, 4, 5, 48])
(.cond (.t 48)
.skip
(.exit 2)))
(.seq (.block 3
(.seq (.reg [⟨some 51, .mov (.t 0), none⟩,
⟨some 52, .mov (.t 4), none⟩,
⟨some 53, .iaddr 2 (.t 51) (.t 52), none⟩,
⟨some 54, .faddr (.t 53) 1, none⟩,
⟨some 55, .load (.t 54), none⟩,
⟨some 56, .mov (.t 5), none⟩,
⟨some 57, .iaddr 1 (.t 55) (.t 56), none⟩,
⟨some 58, .load (.t 57), none⟩,
⟨some 59, .bin .lss (.t 58) (.k (.int .i64 1)), none⟩,
⟨some 60, .mov (.t 59), none⟩,
⟨some 61, .mov (.t 0), (some (60, false))⟩,
⟨some 62, .mov (.t 4), (some (60, false))⟩,
⟨some 63, .iaddr 2 (.t 61) (.t 62), (some (60, false))⟩,
⟨some 64, .faddr (.t 63) 1, (some (60, false))⟩,
⟨some 65, .load (.t 64), (some (60, false))⟩,
⟨some 66, .mov (.t 5), (some (60, false))⟩,
⟨some 67, .iaddr 1 (.t 65) (.t 66), (some (60, false))⟩,
⟨some 68, .load (.t 67), (some (60, false))⟩,
⟨some 69, .bin .gtr (.t 68) (.k (.int .i64 3)), (some (60, false))⟩,
⟨some 70, .pick (.t 60) (.k (.bool true)) (.t 69), none⟩]
[0, 4, 5, 70])
(.cond (.t 70)
(.seq (.reg [⟨some 71, .mov (.t 4), none⟩,
⟨some 2, .mov (.k (.int .i64 8)), none⟩,
⟨some 3, .mov (.t 71), none⟩]
[2, 3])
.ret)
.skip)))
(.reg [⟨some 49, .mov (.t 5), none⟩,
⟨some 50, .bin .add (.t 49) (.k (.int .i64 1)), none⟩,
⟨some 5, .mov (.t 50), none⟩]
[0, 4, 5]))))))))))
(.reg [⟨some 13, .mov (.t 4), none⟩,
⟨some 14, .bin .add (.t 13) (.k (.int .i64 1)), none⟩,
⟨some 4, .mov (.t 14), none⟩]
[0, 4]))))))
(.seq (.reg [⟨some 2, .mov (.k (.int .i64 0)), none⟩,
⟨some 3, .mov (.k (.int .i64 (-1))), none⟩]
[2, 3])
.ret))))⟩
theorem k_proctorref07_Check : chkF Tryz.prog Tryz.f71 c_proctorref07_Check = true := by kernel_rfl
theorem pc_proctorref07_Check {G : Nat → Option AV} {args : List AV} {r : AV} (h : Runs Tryz.prog G c_proctorref07_Check args r) (hk : args.length = c_proctorref07_Check.k := by rfl) : PureC Tryz.prog G n_proctorref07_Check args r := PureC.of_runs (fn := Tryz.f71) (A := c_proctorref07_Check) Tryz.func71 k_proctorref07_Check hk h
def c_proctorref07_Find : AFun := ⟨20, 2, [.t 4],
  (.seq (.reg [⟨some 4, .mov (.k (.int .i64 0)), none⟩]
[0, 1])
(.seq (.seq (.reg [⟨some 5, .mov (.k (.int .i64 0)), none⟩]
[0, 1, 5])
(.block 0
(.loop [0, 1, 5] []
  (.seq (.seq (.reg [⟨some 6, .mov (.t 5), none⟩,
⟨some 7, .mov (.t 0), none⟩,
⟨some 8, .len false (.t 7), none⟩,
⟨some 9, .bin .lss (.t 6) (.t 8), none⟩]
[0, 1, 5, 9])
(.cond (.t 9)
.skip
(.exit 0)))
(.seq (.block 1
(.seq (.reg [⟨some 12, .mov (.t 0), none⟩,
⟨some 13, .mov (.t 5), none⟩,
⟨some 14, .iaddr 2 (.t 12) (.t 13), none⟩,
⟨some 15, .faddr (.t 14) 0, none⟩,
⟨some 16, .load (.t 15), none⟩,
⟨some 17, .mov (.t 1), none⟩,
⟨some 18, .bin .eql (.t 16) (.t 17), none⟩]
[0, 1, 5, 18])
(.cond (.t 18)
(.seq (.reg [⟨some 19, .mov (.t 5), none⟩,
⟨some 4, .mov (.t 19), none⟩]
[4])
.ret)
.skip)))
(.reg [⟨some 10, .mov (.t 5), none⟩,
⟨some 11, .bin .add (.t 10) (.k (.int .i64 1)), none⟩,
⟨some 5, .mov (.t 11), none⟩]
[0, 1, 5]))))))
(.seq (.reg [⟨some 4, .mov (.k (.int .i64 (-1))), none⟩]
[4])
.ret)))⟩
theorem k_proctorref07_Find : chkF Tryz.prog Tryz.f77 c_proctorref07_Find = true := by kernel_rfl
theorem pc_proctorref07_Find {G : Nat → Option AV} {args : List AV} {r : AV} (h : Runs Tryz.prog G c_proctorref07_Find args r) (hk : args.length = c_proctorref07_Find.k := by rfl) : PureC Tryz.prog G n_proctorref07_Find args r := PureC.of_runs (fn := Tryz.f77) (A := c_proctorref07_Find) Tryz.func77 k_proctorref07_Find hk h
end Go.Proofs.YtjbcfpkibnhodaaGreatDoor.Ab
