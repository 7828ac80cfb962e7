/-
  The functions' abstract code, by program (acgen.py), and that the model's code is it, reckoned by the kernel. No claim is proved here.
-/
import Derived.Test.YtjbcfpkibnhodaaGreatDoorUAcR0
namespace Go.Proofs.YtjbcfpkibnhodaaGreatDoor.Ab
open Go
def c_proctorlaw28_SubsetSteps : AFun := ⟨148, 3, [.t 6],
  (.seq (.reg [⟨some 3, .box t_api_Qea 9 (.t 0), none⟩,
⟨some 6, .mov (.k (.bool false)), none⟩]
[1, 2, 3])
(.seq (.seq (.reg [⟨some 13, .loadN (.t 3) 9, none⟩,
⟨some 14, .call n_proctorref13_Few [.t 13], none⟩,
⟨some 15, .bin .eql (.t 14) (.k (.int .i64 0)), none⟩,
⟨some 16, .mov (.t 15), none⟩,
⟨some 17, .mov (.t 2), (some (16, false))⟩,
⟨some 18, .len false (.t 17), (some (16, false))⟩,
⟨some 19, .bin .gtr (.t 18) (.k (.int .i64 30)), (some (16, false))⟩,
⟨some 20, .pick (.t 16) (.k (.bool true)) (.t 19), none⟩]
[1, 2, 3, 20])
(.cond (.t 20)
(.seq (.reg [⟨some 21, .call n_proctorlaw28_awake [], none⟩,
⟨some 6, .mov (.t 21), none⟩]
[6])
.ret)
.skip))
(.seq (.reg [⟨some 22, .loadN (.t 3) 9, none⟩,
⟨some 23, .call n_subset_New [.t 22], none⟩,
⟨some 7, .mov (.t 23), none⟩]
[1, 2, 3, 7])
(.seq (.seq (.reg [⟨some 24, .loadN (.t 3) 9, none⟩,
⟨some 25, .call n_proctorref13_Right [.t 24], none⟩,
⟨some 26, .un .not (.t 25), none⟩,
⟨some 27, .mov (.t 26), none⟩,
⟨some 28, .loadN (.t 3) 9, (some (27, false))⟩,
⟨some 29, .call n_proctorref28_Plain [.t 28], (some (27, false))⟩,
⟨some 30, .un .not (.t 29), (some (27, false))⟩,
⟨some 31, .pick (.t 27) (.k (.bool true)) (.t 30), none⟩]
[1, 2, 3, 7, 31])
(.cond (.t 31)
(.seq (.reg [⟨some 32, .mov (.t 7), none⟩,
⟨some 33, .eqP false (.t 32) (.k (.nilp)), none⟩,
⟨some 34, .mov (.t 33), none⟩,
⟨some 35, .mov (.t 7), (some (34, true))⟩,
⟨some 36, .call n_subset_Auto_Start [.t 35], (some (34, true))⟩,
⟨some 37, .bin .eql (.t 36) (.k (.int .u32 0)), (some (34, true))⟩,
⟨some 38, .pick (.t 34) (.t 37) (.k (.bool false)), none⟩,
⟨some 39, .mov (.t 38), none⟩,
⟨some 40, .mov (.t 7), (some (39, true))⟩,
⟨some 41, .mov (.t 1), (some (39, true))⟩,
⟨some 42, .call n_subset_Auto_Next [.t 40, .t 41, .k (.int .u64 1)], (some (39, true))⟩,
⟨some 43, .bin .eql (.t 42) (.k (.int .u32 0)), (some (39, true))⟩,
⟨some 44, .pick (.t 39) (.t 43) (.k (.bool false)), none⟩,
⟨some 45, .mov (.t 44), none⟩,
⟨some 46, .mov (.t 7), (some (45, true))⟩,
⟨some 47, .mov (.t 1), (some (45, true))⟩,
⟨some 48, .call n_subset_Auto_Set [.t 46, .t 47], (some (45, true))⟩,
⟨some 49, .len false (.t 48), (some (45, true))⟩,
⟨some 50, .bin .eql (.t 49) (.k (.int .i64 0)), (some (45, true))⟩,
⟨some 51, .pick (.t 45) (.t 50) (.k (.bool false)), none⟩,
⟨some 52, .mov (.t 51), none⟩,
⟨some 53, .mov (.t 7), (some (52, true))⟩,
⟨some 54, .mov (.t 1), (some (52, true))⟩,
⟨some 55, .call n_subset_Auto_Accepts [.t 53, .t 54], (some (52, true))⟩,
⟨some 56, .un .not (.t 55), (some (52, true))⟩,
⟨some 57, .pick (.t 52) (.t 56) (.k (.bool false)), none⟩,
⟨some 58, .mov (.t 57), none⟩,
⟨some 59, .mov (.t 7), (some (58, true))⟩,
⟨some 60, .call n_subset_Auto_Known [.t 59], (some (58, true))⟩,
⟨some 61, .bin .eql (.t 60) (.k (.int .i64 0)), (some (58, true))⟩,
⟨some 62, .pick (.t 58) (.t 61) (.k (.bool false)), none⟩,
⟨some 63, .mov (.t 62), none⟩,
⟨some 64, .call n_proctorlaw28_awake [], (some (63, true))⟩,
⟨some 65, .pick (.t 63) (.t 64) (.k (.bool false)), none⟩,
⟨some 6, .mov (.t 65), none⟩]
[6])
.ret)
.skip))
(.seq (.seq (.dreg [⟨some 66, .mov (.t 7), none⟩,
⟨some 67, .eqP false (.t 66) (.k (.nilp)), none⟩,
⟨some 68, .mov (.t 67), none⟩,
⟨some 69, .mov (.t 7), (some (68, false))⟩,
⟨some 70, .call n_subset_Auto_Start [.t 69], (some (68, false))⟩,
⟨some 71, .faddr (.t 3) 5, (some (68, false))⟩,
⟨some 72, .load (.t 71), (some (68, false))⟩,
⟨some 73, .conv .u64 (.t 72), (some (68, false))⟩,
⟨some 74, .bin .shl (.k (.int .u32 1)) (.t 73), (some (68, false))⟩,
⟨some 75, .bin .neq (.t 70) (.t 74), (some (68, false))⟩,
⟨some 76, .pick (.t 68) (.k (.bool true)) (.t 75), none⟩]
[1, 2, 3, 7, 76])
(.cond (.t 76)
(.seq (.reg [⟨some 6, .mov (.k (.bool false)), none⟩]
[6])
.ret)
.skip))
(.seq (.reg [⟨some 8, .nilrow t_proctorref28_Pair 2, none⟩]
[1, 2, 3, 7, 8])
(.seq (.reg [⟨some 77, .mov (.t 1), none⟩,
⟨some 9, .mov (.t 77), none⟩]
[2, 3, 7, 8, 9])
(.seq (.seq (.reg [⟨some 10, .mov (.k (.int .i64 0)), none⟩]
[2, 3, 7, 8, 9, 10])
(.block 0
(.loop [2, 3, 7, 8, 9, 10] [3, 14, 18, 21, 23, 25, 29, 36, 42, 48, 49, 55, 60, 64, 70, 8, 110]
  (.seq (.seq (.reg [⟨some 78, .mov (.t 10), none⟩,
⟨some 79, .mov (.t 2), none⟩,
⟨some 80, .len false (.t 79), none⟩,
⟨some 81, .bin .lss (.t 78) (.t 80), none⟩]
[2, 3, 7, 8, 9, 10, 81])
(.cond (.t 81)
.skip
(.exit 0)))
(.seq (.block 1
(.seq (.dregA [⟨some 84, .loadN (.t 3) 9, none⟩,
⟨some 85, .mov (.t 9), none⟩,
⟨some 86, .mov (.t 2), none⟩,
⟨some 87, .mov (.t 10), none⟩,
⟨some 88, .iaddr 1 (.t 86) (.t 87), none⟩,
⟨some 89, .load (.t 88), none⟩,
⟨some 90, .build [.int .u32 0, .int .u64 0] [(0, 1, .t 85), (1, 1, .t 89)], none⟩,
⟨some 91, .call n_proctorref28_Own [.t 84, .t 90], none⟩,
⟨some 11, .alloc t_proctorref28_Pair 2 (.agg [.int .u32 0, .int .u64 0]), none⟩,
⟨none, .store (.t 11) (.t 91) 2, none⟩] 8 9 [2, 3, 7, 8, 9, 10, 11, 84, 85, 86, 87, 88, 89, 90, 91]
[2, 3, 7, 8, 9, 10, 11])
(.seq (.reg [⟨some 92, .faddr (.t 11) 0, none⟩,
⟨some 93, .load (.t 92), none⟩,
⟨some 12, .mov (.t 93), none⟩]
[2, 3, 7, 8, 9, 10, 11, 12])
(.seq (.seq (.reg [⟨some 94, .faddr (.t 11) 1, none⟩,
⟨some 95, .load (.t 94), none⟩,
⟨some 96, .bin .neq (.t 95) (.k (.int .u64 0)), none⟩]
[2, 3, 7, 8, 9, 10, 11, 12, 96])
(.cond (.t 96)
(.seq (.reg [⟨some 97, .loadN (.t 3) 9, none⟩,
⟨some 98, .faddr (.t 11) 0, none⟩,
⟨some 99, .load (.t 98), none⟩,
⟨some 100, .faddr (.t 11) 1, none⟩,
⟨some 101, .load (.t 100), none⟩,
⟨some 102, .call n_proctorref22_Next [.t 97, .t 99, .t 101], none⟩,
⟨some 12, .mov (.t 102), none⟩]
[2, 3, 7, 8, 9, 10, 11, 12])
(.seq (.reg [⟨some 103, .mov (.t 8), none⟩,
⟨some 104, .loadN (.t 11) 2, none⟩,
⟨some 105, .call n_proctorref28_Has [.t 103, .t 104], none⟩,
⟨some 106, .un .not (.t 105), none⟩]
[2, 3, 7, 8, 9, 10, 11, 12, 106])
(.cond (.t 106)
(.reg [⟨some 107, .mov (.t 8), none⟩,
⟨some 108, .loadN (.t 11) 2, none⟩,
⟨some 109, .mkrow t_proctorref28_Pair 2 1 (.agg [.int .u32 0, .int .u64 0]) [(0, .t 108)], none⟩,
⟨some 110, .app t_proctorref28_Pair 2 16 (.t 107) (.t 109), none⟩,
⟨some 8, .mov (.t 110), none⟩]
[2, 3, 7, 8, 9, 10, 12])
.skip)))
.skip))
(.seq (.reg [⟨some 111, .mov (.t 7), none⟩,
⟨some 112, .mov (.t 9), none⟩,
⟨some 113, .mov (.t 2), none⟩,
⟨some 114, .mov (.t 10), none⟩,
⟨some 115, .iaddr 1 (.t 113) (.t 114), none⟩,
⟨some 116, .load (.t 115), none⟩,
⟨some 117, .call n_subset_Auto_Next [.t 111, .t 112, .t 116], none⟩,
⟨some 9, .mov (.t 117), none⟩]
[2, 3, 7, 8, 9, 10, 12])
(.seq (.dreg [⟨some 118, .mov (.t 9), none⟩,
⟨some 119, .mov (.t 12), none⟩,
⟨some 120, .bin .neq (.t 118) (.t 119), none⟩,
⟨some 121, .mov (.t 120), none⟩,
⟨some 122, .mov (.t 7), (some (121, false))⟩,
⟨some 123, .call n_subset_Auto_Known [.t 122], (some (121, false))⟩,
⟨some 124, .mov (.t 8), (some (121, false))⟩,
⟨some 125, .len false (.t 124), (some (121, false))⟩,
⟨some 126, .bin .neq (.t 123) (.t 125), (some (121, false))⟩,
⟨some 127, .pick (.t 121) (.k (.bool true)) (.t 126), none⟩,
⟨some 128, .mov (.t 127), none⟩,
⟨some 129, .mov (.t 7), (some (128, false))⟩,
⟨some 130, .mov (.t 9), (some (128, false))⟩,
⟨some 131, .call n_subset_Auto_Accepts [.t 129, .t 130], (some (128, false))⟩,
⟨some 132, .loadN (.t 3) 9, (some (128, false))⟩,
⟨some 133, .mov (.t 9), (some (128, false))⟩,
⟨some 134, .call n_proctorref23_Accepts [.t 132, .t 133], (some (128, false))⟩,
⟨some 135, .eqB true (.t 131) (.t 134), (some (128, false))⟩,
⟨some 136, .pick (.t 128) (.k (.bool true)) (.t 135), none⟩,
⟨some 137, .mov (.t 136), none⟩,
⟨some 138, .mov (.t 7), (some (137, false))⟩,
⟨some 139, .mov (.t 9), (some (137, false))⟩,
⟨some 140, .call n_subset_Auto_Set [.t 138, .t 139], (some (137, false))⟩,
⟨some 141, .loadN (.t 3) 9, (some (137, false))⟩,
⟨some 142, .mov (.t 9), (some (137, false))⟩,
⟨some 143, .call n_proctorref28_Set [.t 141, .t 142], (some (137, false))⟩,
⟨some 144, .call n_proctorref18_Same [.t 140, .t 143], (some (137, false))⟩,
⟨some 145, .un .not (.t 144), (some (137, false))⟩,
⟨some 146, .pick (.t 137) (.k (.bool true)) (.t 145), none⟩]
[2, 3, 7, 8, 9, 10, 146])
(.cond (.t 146)
(.seq (.reg [⟨some 6, .mov (.k (.bool false)), none⟩]
[6])
.ret)
.skip)))))))
(.reg [⟨some 82, .mov (.t 10), none⟩,
⟨some 83, .bin .add (.t 82) (.k (.int .i64 1)), none⟩,
⟨some 10, .mov (.t 83), none⟩]
[2, 3, 7, 8, 9, 10]))))))
(.seq (.reg [⟨some 147, .call n_proctorlaw28_awake [], none⟩,
⟨some 6, .mov (.t 147), none⟩]
[6])
.ret)))))))))⟩
theorem k_proctorlaw28_SubsetSteps : chkF Tryz.prog Tryz.f4 c_proctorlaw28_SubsetSteps = true := by kernel_rfl
theorem pc_proctorlaw28_SubsetSteps {G : Nat → Option AV} {args : List AV} {r : AV} (h : Runs Tryz.prog G c_proctorlaw28_SubsetSteps args r) (hk : args.length = c_proctorlaw28_SubsetSteps.k := by rfl) : PureC Tryz.prog G n_proctorlaw28_SubsetSteps args r := PureC.of_runs (fn := Tryz.f4) (A := c_proctorlaw28_SubsetSteps) Tryz.func4 k_proctorlaw28_SubsetSteps hk h
def c_proctorlaw28_awake : AFun := ⟨28, 0, [.t 0],
  (.seq (.reg [⟨some 0, .mov (.k (.bool false)), none⟩]
[])
(.seq (.reg [⟨some 2, .build [.str [], .bool false, .bool false] [(0, 1, .k (.str [115]))], none⟩,
⟨some 3, .build [.str [], .bool false, .bool false] [(0, 1, .k (.str [116])), (2, 1, .k (.bool true))], none⟩,
⟨some 4, .mkrow t_api_State 3 2 (.agg [.str [], .bool false, .bool false]) [(0, .t 2), (1, .t 3)], none⟩,
⟨some 5, .build [.str [], .nils, .nils, .nils, .nils, .int .i64 0, .nils, .nils, .nils] [(0, 1, .k (.str [113])), (4, 1, .t 4), (5, 1, .k (.int .i64 1))], none⟩,
⟨some 6, .call n_subset_New [.t 5], none⟩,
⟨some 1, .mov (.t 6), none⟩]
[1])
(.seq (.reg [⟨some 7, .mov (.t 1), none⟩,
⟨some 8, .eqP true (.t 7) (.k (.nilp)), none⟩,
⟨some 9, .mov (.t 8), none⟩,
⟨some 10, .mov (.t 1), (some (9, true))⟩,
⟨some 11, .call n_subset_Auto_Start [.t 10], (some (9, true))⟩,
⟨some 12, .bin .eql (.t 11) (.k (.int .u32 2)), (some (9, true))⟩,
⟨some 13, .pick (.t 9) (.t 12) (.k (.bool false)), none⟩,
⟨some 14, .mov (.t 13), none⟩,
⟨some 15, .mov (.t 1), (some (14, true))⟩,
⟨some 16, .call n_subset_Auto_Next [.t 15, .k (.int .u32 3), .k (.int .u64 1)], (some (14, true))⟩,
⟨some 17, .bin .eql (.t 16) (.k (.int .u32 3)), (some (14, true))⟩,
⟨some 18, .pick (.t 14) (.t 17) (.k (.bool false)), none⟩,
⟨some 19, .mov (.t 18), none⟩,
⟨some 20, .mov (.t 1), (some (19, true))⟩,
⟨some 21, .call n_subset_Auto_Accepts [.t 20, .k (.int .u32 2)], (some (19, true))⟩,
⟨some 22, .pick (.t 19) (.t 21) (.k (.bool false)), none⟩,
⟨some 23, .mov (.t 22), none⟩,
⟨some 24, .mov (.t 1), (some (23, true))⟩,
⟨some 25, .call n_subset_Auto_Known [.t 24], (some (23, true))⟩,
⟨some 26, .bin .eql (.t 25) (.k (.int .i64 0)), (some (23, true))⟩,
⟨some 27, .pick (.t 23) (.t 26) (.k (.bool false)), none⟩,
⟨some 0, .mov (.t 27), none⟩]
[0])
.ret)))⟩
theorem k_proctorlaw28_awake : chkF Tryz.prog Tryz.f26 c_proctorlaw28_awake = true := by kernel_rfl
theorem pc_proctorlaw28_awake {G : Nat → Option AV} {args : List AV} {r : AV} (h : ∀ c, c = c_proctorlaw28_awake → Runs Tryz.prog G c args r) (hk : args.length = c_proctorlaw28_awake.k := by rfl) : PureC Tryz.prog G n_proctorlaw28_awake args r := by
  generalize hc : c_proctorlaw28_awake = c at *
  have k := k_proctorlaw28_awake
  rw [hc] at k
  generalize hf : Tryz.f26 = f at *
  have h := h _ rfl
  exact PureC.of_runs (fn := f) (A := c) (hf ▸ Tryz.func26) k hk h
def c_proctorref01_Add : AFun := ⟨27, 2, [.t 4, .t 5],
  (.seq (.reg [⟨some 4, .mov (.k (.int .i64 0)), none⟩,
⟨some 5, .mov (.k (.bool false)), none⟩]
[0, 1])
(.seq (.seq (.reg [⟨some 6, .mov (.t 1), none⟩,
⟨some 7, .bin .gtr (.t 6) (.k (.int .i64 0)), none⟩,
⟨some 8, .mov (.t 7), none⟩,
⟨some 9, .mov (.t 0), (some (8, true))⟩,
⟨some 10, .mov (.t 1), (some (8, true))⟩,
⟨some 11, .bin .sub (.k (.int .i64 9223372036854775807)) (.t 10), (some (8, true))⟩,
⟨some 12, .bin .gtr (.t 9) (.t 11), (some (8, true))⟩,
⟨some 13, .pick (.t 8) (.t 12) (.k (.bool false)), none⟩,
⟨some 14, .mov (.t 13), none⟩,
⟨some 15, .mov (.t 1), (some (14, false))⟩,
⟨some 16, .bin .lss (.t 15) (.k (.int .i64 0)), (some (14, false))⟩,
⟨some 17, .mov (.t 16), (some (14, false))⟩,
⟨some 18, .mov (.t 0), (some (17, true))⟩,
⟨some 19, .mov (.t 1), (some (17, true))⟩,
⟨some 20, .bin .sub (.k (.int .i64 (-9223372036854775808))) (.t 19), (some (17, true))⟩,
⟨some 21, .bin .lss (.t 18) (.t 20), (some (17, true))⟩,
⟨some 22, .pick (.t 17) (.t 21) (.k (.bool false)), (some (14, false))⟩,
⟨some 23, .pick (.t 14) (.k (.bool true)) (.t 22), none⟩]
[0, 1, 23])
(.cond (.t 23)
(.seq (.reg [⟨some 4, .mov (.k (.int .i64 0)), none⟩,
⟨some 5, .mov (.k (.bool false)), none⟩]
[4, 5])
.ret)
.skip))
(.seq (.reg [⟨some 24, .mov (.t 0), none⟩,
⟨some 25, .mov (.t 1), none⟩,
⟨some 26, .bin .add (.t 24) (.t 25), none⟩,
⟨some 4, .mov (.t 26), none⟩,
⟨some 5, .mov (.k (.bool true)), none⟩]
[4, 5])
.ret)))⟩
theorem k_proctorref01_Add : chkF Tryz.prog Tryz.f285 c_proctorref01_Add = true := by kernel_rfl
theorem pc_proctorref01_Add {G : Nat → Option AV} {args : List AV} {r : AV} (h : Runs Tryz.prog G c_proctorref01_Add args r) (hk : args.length = c_proctorref01_Add.k := by rfl) : PureC Tryz.prog G n_proctorref01_Add args r := PureC.of_runs (fn := Tryz.f285) (A := c_proctorref01_Add) Tryz.func285 k_proctorref01_Add hk h
def c_proctorref01_Div : AFun := ⟨27, 2, [.t 4, .t 5, .t 6],
  (.seq (.reg [⟨some 4, .mov (.k (.int .i64 0)), none⟩,
⟨some 5, .mov (.k (.int .i64 0)), none⟩,
⟨some 6, .mov (.k (.int .i64 0)), none⟩]
[0, 1])
(.seq (.seq (.reg [⟨some 9, .mov (.t 1), none⟩,
⟨some 10, .bin .eql (.t 9) (.k (.int .i64 0)), none⟩]
[0, 1, 10])
(.cond (.t 10)
(.seq (.reg [⟨some 4, .mov (.k (.int .i64 0)), none⟩,
⟨some 5, .mov (.k (.int .i64 0)), none⟩,
⟨some 6, .mov (.k (.int .i64 7)), none⟩]
[4, 5, 6])
.ret)
.skip))
(.seq (.seq (.reg [⟨some 11, .mov (.t 1), none⟩,
⟨some 12, .bin .eql (.t 11) (.k (.int .i64 (-1))), none⟩]
[0, 1, 12])
(.cond (.t 12)
(.seq (.reg [⟨some 14, .mov (.t 0), none⟩,
⟨some 15, .call n_proctorref01_Sub [.k (.int .i64 0), .t 14], none⟩,
⟨some 13, .mov (.t 15), none⟩,
⟨some 16, .ext (.t 13) 0, none⟩,
⟨some 17, .ext (.t 13) 1, none⟩,
⟨some 7, .mov (.t 16), none⟩,
⟨some 8, .mov (.t 17), none⟩]
[7, 8])
(.seq (.seq (.reg [⟨some 18, .mov (.t 8), none⟩,
⟨some 19, .un .not (.t 18), none⟩]
[7, 19])
(.cond (.t 19)
(.seq (.reg [⟨some 4, .mov (.k (.int .i64 0)), none⟩,
⟨some 5, .mov (.k (.int .i64 0)), none⟩,
⟨some 6, .mov (.k (.int .i64 6)), none⟩]
[4, 5, 6])
.ret)
.skip))
(.seq (.reg [⟨some 20, .mov (.t 7), none⟩,
⟨some 4, .mov (.t 20), none⟩,
⟨some 5, .mov (.k (.int .i64 0)), none⟩,
⟨some 6, .mov (.k (.int .i64 0)), none⟩]
[4, 5, 6])
.ret)))
.skip))
(.seq (.dreg [⟨some 21, .mov (.t 0), none⟩,
⟨some 22, .mov (.t 1), none⟩,
⟨some 23, .bin .quo (.t 21) (.t 22), none⟩,
⟨some 24, .mov (.t 0), none⟩,
⟨some 25, .mov (.t 1), none⟩,
⟨some 26, .bin .rem (.t 24) (.t 25), none⟩,
⟨some 4, .mov (.t 23), none⟩,
⟨some 5, .mov (.t 26), none⟩,
⟨some 6, .mov (.k (.int .i64 0)), none⟩]
[4, 5, 6])
.ret))))⟩
theorem k_proctorref01_Div : chkF Tryz.prog Tryz.f289 c_proctorref01_Div = true := by kernel_rfl
theorem pc_proctorref01_Div {G : Nat → Option AV} {args : List AV} {r : AV} (h : Runs Tryz.prog G c_proctorref01_Div args r) (hk : args.length = c_proctorref01_Div.k := by rfl) : PureC Tryz.prog G n_proctorref01_Div args r := PureC.of_runs (fn := Tryz.f289) (A := c_proctorref01_Div) Tryz.func289 k_proctorref01_Div hk h
def c_proctorref01_Mul : AFun := ⟨81, 2, [.t 4, .t 5],
  (.seq (.reg [⟨some 4, .mov (.k (.int .i64 0)), none⟩,
⟨some 5, .mov (.k (.bool false)), none⟩]
[0, 1])
(.seq (.seq (.reg [⟨some 6, .mov (.t 0), none⟩,
⟨some 7, .bin .eql (.t 6) (.k (.int .i64 0)), none⟩,
⟨some 8, .mov (.t 7), none⟩,
⟨some 9, .mov (.t 1), (some (8, false))⟩,
⟨some 10, .bin .eql (.t 9) (.k (.int .i64 0)), (some (8, false))⟩,
⟨some 11, .pick (.t 8) (.k (.bool true)) (.t 10), none⟩]
[0, 1, 11])
(.cond (.t 11)
(.seq (.reg [⟨some 4, .mov (.k (.int .i64 0)), none⟩,
⟨some 5, .mov (.k (.bool true)), none⟩]
[4, 5])
.ret)
.skip))
(.seq (.seq (.reg [⟨some 12, .mov (.t 0), none⟩,
⟨some 13, .bin .eql (.t 12) (.k (.int .i64 (-1))), none⟩]
[0, 1, 13])
(.cond (.t 13)
(.seq (.reg [⟨some 14, .mov (.t 1), none⟩,
⟨some 15, .call n_proctorref01_Sub [.k (.int .i64 0), .t 14], none⟩,
⟨some 16, .ext (.t 15) 0, none⟩,
⟨some 17, .ext (.t 15) 1, none⟩,
⟨some 4, .mov (.t 16), none⟩,
⟨some 5, .mov (.t 17), none⟩]
[4, 5])
.ret)
.skip))
(.seq (.seq (.reg [⟨some 18, .mov (.t 1), none⟩,
⟨some 19, .bin .eql (.t 18) (.k (.int .i64 (-1))), none⟩]
[0, 1, 19])
(.cond (.t 19)
(.seq (.reg [⟨some 20, .mov (.t 0), none⟩,
⟨some 21, .call n_proctorref01_Sub [.k (.int .i64 0), .t 20], none⟩,
⟨some 22, .ext (.t 21) 0, none⟩,
⟨some 23, .ext (.t 21) 1, none⟩,
⟨some 4, .mov (.t 22), none⟩,
⟨some 5, .mov (.t 23), none⟩]
[4, 5])
.ret)
.skip))
(.seq (.seq (.reg [⟨some 24, .mov (.t 0), none⟩,
⟨some 25, .bin .gtr (.t 24) (.k (.int .i64 0)), none⟩,
⟨some 26, .mov (.t 25), none⟩,
⟨some 27, .mov (.t 1), (some (26, true))⟩,
⟨some 28, .bin .gtr (.t 27) (.k (.int .i64 0)), (some (26, true))⟩,
⟨some 29, .pick (.t 26) (.t 28) (.k (.bool false)), none⟩,
⟨some 30, .mov (.t 29), none⟩,
⟨some 31, .mov (.t 0), (some (30, true))⟩,
⟨some 32, .mov (.t 1), (some (30, true))⟩,
⟨some 33, .bin .quo (.k (.int .i64 9223372036854775807)) (.t 32), (some (30, true))⟩,
⟨some 34, .bin .gtr (.t 31) (.t 33), (some (30, true))⟩,
⟨some 35, .pick (.t 30) (.t 34) (.k (.bool false)), none⟩,
⟨some 36, .mov (.t 35), none⟩,
⟨some 37, .mov (.t 0), (some (36, false))⟩,
⟨some 38, .bin .gtr (.t 37) (.k (.int .i64 0)), (some (36, false))⟩,
⟨some 39, .mov (.t 38), (some (36, false))⟩,
⟨some 40, .mov (.t 1), (some (39, true))⟩,
⟨some 41, .bin .lss (.t 40) (.k (.int .i64 0)), (some (39, true))⟩,
⟨some 42, .pick (.t 39) (.t 41) (.k (.bool false)), (some (36, false))⟩,
⟨some 43, .mov (.t 42), (some (36, false))⟩,
⟨some 44, .mov (.t 1), (some (43, true))⟩,
⟨some 45, .mov (.t 0), (some (43, true))⟩,
⟨some 46, .bin .quo (.k (.int .i64 (-9223372036854775808))) (.t 45), (some (43, true))⟩,
⟨some 47, .bin .lss (.t 44) (.t 46), (some (43, true))⟩,
⟨some 48, .pick (.t 43) (.t 47) (.k (.bool false)), (some (36, false))⟩,
⟨some 49, .pick (.t 36) (.k (.bool true)) (.t 48), none⟩,
⟨some 50, .mov (.t 49), none⟩,
⟨some 51, .mov (.t 0), (some (50, false))⟩,
⟨some 52, .bin .lss (.t 51) (.k (.int .i64 0)), (some (50, false))⟩,
⟨some 53, .mov (.t 52), (some (50, false))⟩,
⟨some 54, .mov (.t 1), (some (53, true))⟩,
⟨some 55, .bin .gtr (.t 54) (.k (.int .i64 0)), (some (53, true))⟩,
⟨some 56, .pick (.t 53) (.t 55) (.k (.bool false)), (some (50, false))⟩,
⟨some 57, .mov (.t 56), (some (50, false))⟩,
⟨some 58, .mov (.t 0), (some (57, true))⟩,
⟨some 59, .mov (.t 1), (some (57, true))⟩,
⟨some 60, .bin .quo (.k (.int .i64 (-9223372036854775808))) (.t 59), (some (57, true))⟩,
⟨some 61, .bin .lss (.t 58) (.t 60), (some (57, true))⟩,
⟨some 62, .pick (.t 57) (.t 61) (.k (.bool false)), (some (50, false))⟩,
⟨some 63, .pick (.t 50) (.k (.bool true)) (.t 62), none⟩,
⟨some 64, .mov (.t 63), none⟩,
⟨some 65, .mov (.t 0), (some (64, false))⟩,
⟨some 66, .bin .lss (.t 65) (.k (.int .i64 0)), (some (64, false))⟩,
⟨some 67, .mov (.t 66), (some (64, false))⟩,
⟨some 68, .mov (.t 1), (some (67, true))⟩,
⟨some 69, .bin .lss (.t 68) (.k (.int .i64 0)), (some (67, true))⟩,
⟨some 70, .pick (.t 67) (.t 69) (.k (.bool false)), (some (64, false))⟩,
⟨some 71, .mov (.t 70), (some (64, false))⟩,
⟨some 72, .mov (.t 0), (some (71, true))⟩,
⟨some 73, .mov (.t 1), (some (71, true))⟩,
⟨some 74, .bin .quo (.k (.int .i64 9223372036854775807)) (.t 73), (some (71, true))⟩,
⟨some 75, .bin .lss (.t 72) (.t 74), (some (71, true))⟩,
⟨some 76, .pick (.t 71) (.t 75) (.k (.bool false)), (some (64, false))⟩,
⟨some 77, .pick (.t 64) (.k (.bool true)) (.t 76), none⟩]
[0, 1, 77])
(.cond (.t 77)
(.seq (.reg [⟨some 4, .mov (.k (.int .i64 0)), none⟩,
⟨some 5, .mov (.k (.bool false)), none⟩]
[4, 5])
.ret)
.skip))
(.seq (.reg [⟨some 78, .mov (.t 0), none⟩,
⟨some 79, .mov (.t 1), none⟩,
⟨some 80, .bin .mul (.t 78) (.t 79), none⟩,
⟨some 4, .mov (.t 80), none⟩,
⟨some 5, .mov (.k (.bool true)), none⟩]
[4, 5])
.ret))))))⟩
theorem k_proctorref01_Mul : chkF Tryz.prog Tryz.f288 c_proctorref01_Mul = true := by kernel_rfl
theorem pc_proctorref01_Mul {G : Nat → Option AV} {args : List AV} {r : AV} (h : Runs Tryz.prog G c_proctorref01_Mul args r) (hk : args.length = c_proctorref01_Mul.k := by rfl) : PureC Tryz.prog G n_proctorref01_Mul args r := PureC.of_runs (fn := Tryz.f288) (A := c_proctorref01_Mul) Tryz.func288 k_proctorref01_Mul hk h
def c_proctorref01_Sub : AFun := ⟨27, 2, [.t 4, .t 5],
  (.seq (.reg [⟨some 4, .mov (.k (.int .i64 0)), none⟩,
⟨some 5, .mov (.k (.bool false)), none⟩]
[0, 1])
(.seq (.seq (.reg [⟨some 6, .mov (.t 1), none⟩,
⟨some 7, .bin .lss (.t 6) (.k (.int .i64 0)), none⟩,
⟨some 8, .mov (.t 7), none⟩,
⟨some 9, .mov (.t 0), (some (8, true))⟩,
⟨some 10, .mov (.t 1), (some (8, true))⟩,
⟨some 11, .bin .add (.k (.int .i64 9223372036854775807)) (.t 10), (some (8, true))⟩,
⟨some 12, .bin .gtr (.t 9) (.t 11), (some (8, true))⟩,
⟨some 13, .pick (.t 8) (.t 12) (.k (.bool false)), none⟩,
⟨some 14, .mov (.t 13), none⟩,
⟨some 15, .mov (.t 1), (some (14, false))⟩,
⟨some 16, .bin .gtr (.t 15) (.k (.int .i64 0)), (some (14, false))⟩,
⟨some 17, .mov (.t 16), (some (14, false))⟩,
⟨some 18, .mov (.t 0), (some (17, true))⟩,
⟨some 19, .mov (.t 1), (some (17, true))⟩,
⟨some 20, .bin .add (.k (.int .i64 (-9223372036854775808))) (.t 19), (some (17, true))⟩,
⟨some 21, .bin .lss (.t 18) (.t 20), (some (17, true))⟩,
⟨some 22, .pick (.t 17) (.t 21) (.k (.bool false)), (some (14, false))⟩,
⟨some 23, .pick (.t 14) (.k (.bool true)) (.t 22), none⟩]
[0, 1, 23])
(.cond (.t 23)
(.seq (.reg [⟨some 4, .mov (.k (.int .i64 0)), none⟩,
⟨some 5, .mov (.k (.bool false)), none⟩]
[4, 5])
.ret)
.skip))
(.seq (.reg [⟨some 24, .mov (.t 0), none⟩,
⟨some 25, .mov (.t 1), none⟩,
⟨some 26, .bin .sub (.t 24) (.t 25), none⟩,
⟨some 4, .mov (.t 26), none⟩,
⟨some 5, .mov (.k (.bool true)), none⟩]
[4, 5])
.ret)))⟩
theorem k_proctorref01_Sub : chkF Tryz.prog Tryz.f287 c_proctorref01_Sub = true := by kernel_rfl
theorem pc_proctorref01_Sub {G : Nat → Option AV} {args : List AV} {r : AV} (h : Runs Tryz.prog G c_proctorref01_Sub args r) (hk : args.length = c_proctorref01_Sub.k := by rfl) : PureC Tryz.prog G n_proctorref01_Sub args r := PureC.of_runs (fn := Tryz.f287) (A := c_proctorref01_Sub) Tryz.func287 k_proctorref01_Sub hk h
def c_proctorref03_Below : AFun := ⟨37, 2, [.t 4],
  (.seq (.reg [⟨some 4, .mov (.k (.bool false)), none⟩]
[0, 1])
(.seq (.seq (.reg [⟨some 5, .mov (.k (.int .i64 0)), none⟩]
[0, 1, 5])
(.block 0
(.loop [0, 1, 5] []
  (.seq (.seq (.reg [⟨some 6, .mov (.t 5), none⟩,
⟨some 7, .mov (.t 0), none⟩,
⟨some 8, .len true (.t 7), none⟩,
⟨some 9, .bin .lss (.t 6) (.t 8), none⟩,
⟨some 10, .mov (.t 9), none⟩,
⟨some 11, .mov (.t 5), (some (10, true))⟩,
⟨some 12, .mov (.t 1), (some (10, true))⟩,
⟨some 13, .len true (.t 12), (some (10, true))⟩,
⟨some 14, .bin .lss (.t 11) (.t 13), (some (10, true))⟩,
⟨some 15, .pick (.t 10) (.t 14) (.k (.bool false)), none⟩]
[0, 1, 5, 15])
(.cond (.t 15)
.skip
(.exit 0)))
(.seq (.block 1
(.seq (.dreg [⟨some 18, .mov (.t 0), none⟩,
⟨some 19, .mov (.t 5), none⟩,
⟨some 20, .idx (.t 18) (.t 19), none⟩,
⟨some 21, .mov (.t 1), none⟩,
⟨some 22, .mov (.t 5), none⟩,
⟨some 23, .idx (.t 21) (.t 22), none⟩,
⟨some 24, .bin .neq (.t 20) (.t 23), none⟩]
[0, 1, 5, 24])
(.cond (.t 24)
(.seq (.dreg [⟨some 25, .mov (.t 0), none⟩,
⟨some 26, .mov (.t 5), none⟩,
⟨some 27, .idx (.t 25) (.t 26), none⟩,
⟨some 28, .mov (.t 1), none⟩,
⟨some 29, .mov (.t 5), none⟩,
⟨some 30, .idx (.t 28) (.t 29), none⟩,
⟨some 31, .bin .lss (.t 27) (.t 30), none⟩,
⟨some 4, .mov (.t 31), none⟩]
[4])
.ret)
.skip)))
(.reg [⟨some 16, .mov (.t 5), none⟩,
⟨some 17, .bin .add (.t 16) (.k (.int .i64 1)), none⟩,
⟨some 5, .mov (.t 17), none⟩]
[0, 1, 5]))))))
(.seq (.reg [⟨some 32, .mov (.t 0), none⟩,
⟨some 33, .len true (.t 32), none⟩,
⟨some 34, .mov (.t 1), none⟩,
⟨some 35, .len true (.t 34), none⟩,
⟨some 36, .bin .lss (.t 33) (.t 35), none⟩,
⟨some 4, .mov (.t 36), none⟩]
[4])
.ret)))⟩
theorem k_proctorref03_Below : chkF Tryz.prog Tryz.f233 c_proctorref03_Below = true := by kernel_rfl
theorem pc_proctorref03_Below {G : Nat → Option AV} {args : List AV} {r : AV} (h : Runs Tryz.prog G c_proctorref03_Below args r) (hk : args.length = c_proctorref03_Below.k := by rfl) : PureC Tryz.prog G n_proctorref03_Below args r := PureC.of_runs (fn := Tryz.f233) (A := c_proctorref03_Below) Tryz.func233 k_proctorref03_Below hk h
def c_proctorref03_Less : AFun := ⟨38, 2, [.t 4],
  (.seq (.reg [⟨some 2, .box t_api_Value 4 (.t 0), none⟩,
⟨some 3, .box t_api_Value 4 (.t 1), none⟩,
⟨some 4, .mov (.k (.bool false)), none⟩]
[2, 3])
(.seq (.seq (.reg [⟨some 5, .faddr (.t 2) 0, none⟩,
⟨some 6, .load (.t 5), none⟩,
⟨some 7, .faddr (.t 3) 0, none⟩,
⟨some 8, .load (.t 7), none⟩,
⟨some 9, .bin .neq (.t 6) (.t 8), none⟩]
[2, 3, 9])
(.cond (.t 9)
(.seq (.reg [⟨some 10, .faddr (.t 2) 0, none⟩,
⟨some 11, .load (.t 10), none⟩,
⟨some 12, .faddr (.t 3) 0, none⟩,
⟨some 13, .load (.t 12), none⟩,
⟨some 14, .bin .lss (.t 11) (.t 13), none⟩,
⟨some 4, .mov (.t 14), none⟩]
[4])
.ret)
.skip))
(.seq (.seq (.reg [⟨some 15, .faddr (.t 2) 0, none⟩,
⟨some 16, .load (.t 15), none⟩,
⟨some 17, .bin .eql (.t 16) (.k (.int .i64 1)), none⟩]
[2, 3, 17])
(.cond (.t 17)
(.seq (.reg [⟨some 18, .faddr (.t 2) 1, none⟩,
⟨some 19, .load (.t 18), none⟩,
⟨some 20, .faddr (.t 3) 1, none⟩,
⟨some 21, .load (.t 20), none⟩,
⟨some 22, .bin .lss (.t 19) (.t 21), none⟩,
⟨some 4, .mov (.t 22), none⟩]
[4])
.ret)
.skip))
(.seq (.seq (.reg [⟨some 23, .faddr (.t 2) 0, none⟩,
⟨some 24, .load (.t 23), none⟩,
⟨some 25, .bin .eql (.t 24) (.k (.int .i64 2)), none⟩]
[2, 3, 25])
(.cond (.t 25)
(.seq (.reg [⟨some 26, .faddr (.t 2) 2, none⟩,
⟨some 27, .load (.t 26), none⟩,
⟨some 28, .faddr (.t 3) 2, none⟩,
⟨some 29, .load (.t 28), none⟩,
⟨some 30, .call n_proctorref03_Below [.t 27, .t 29], none⟩,
⟨some 4, .mov (.t 30), none⟩]
[4])
.ret)
.skip))
(.seq (.reg [⟨some 31, .faddr (.t 2) 3, none⟩,
⟨some 32, .load (.t 31), none⟩,
⟨some 33, .un .not (.t 32), none⟩,
⟨some 34, .mov (.t 33), none⟩,
⟨some 35, .faddr (.t 3) 3, (some (34, true))⟩,
⟨some 36, .load (.t 35), (some (34, true))⟩,
⟨some 37, .pick (.t 34) (.t 36) (.k (.bool false)), none⟩,
⟨some 4, .mov (.t 37), none⟩]
[4])
.ret)))))⟩
theorem k_proctorref03_Less : chkF Tryz.prog Tryz.f167 c_proctorref03_Less = true := by kernel_rfl
theorem pc_proctorref03_Less {G : Nat → Option AV} {args : List AV} {r : AV} (h : Runs Tryz.prog G c_proctorref03_Less args r) (hk : args.length = c_proctorref03_Less.k := by rfl) : PureC Tryz.prog G n_proctorref03_Less args r := PureC.of_runs (fn := Tryz.f167) (A := c_proctorref03_Less) Tryz.func167 k_proctorref03_Less hk h
def c_proctorref03_Op : AFun := ⟨145, 3, [.cells 6 4, .t 7],
  (.seq (.reg [⟨some 4, .box t_api_Value 4 (.t 1), none⟩,
⟨some 5, .box t_api_Value 4 (.t 2), none⟩,
⟨some 6, .alloc t_api_Value 4 (.agg [.int .i64 0, .int .i64 0, .str [], .bool false]), none⟩,
⟨some 7, .mov (.k (.int .i64 0)), none⟩]
[0, 4, 5, 6])
(.seq (.seq (.reg [⟨some 8, .mov (.t 0), none⟩,
⟨some 9, .bin .lss (.t 8) (.k (.int .i64 4)), none⟩,
⟨some 10, .mov (.t 9), none⟩,
⟨some 11, .mov (.t 0), (some (10, false))⟩,
⟨some 12, .bin .gtr (.t 11) (.k (.int .i64 16)), (some (10, false))⟩,
⟨some 13, .pick (.t 10) (.k (.bool true)) (.t 12), none⟩]
[0, 4, 5, 6, 13])
(.cond (.t 13)
(.seq (.reg [⟨some 14, .build [.int .i64 0, .int .i64 0, .str [], .bool false] [], none⟩,
⟨none, .store (.t 6) (.t 14) 4, none⟩,
⟨some 7, .mov (.k (.int .i64 1)), none⟩]
[6, 7])
.ret)
.skip))
(.seq (.seq (.reg [⟨some 15, .mov (.t 0), none⟩,
⟨some 16, .bin .eql (.t 15) (.k (.int .i64 4)), none⟩]
[0, 4, 5, 6, 16])
(.cond (.t 16)
(.seq (.seq (.reg [⟨some 17, .faddr (.t 4) 0, none⟩,
⟨some 18, .load (.t 17), none⟩,
⟨some 19, .bin .neq (.t 18) (.k (.int .i64 3)), none⟩]
[4, 6, 19])
(.cond (.t 19)
(.seq (.reg [⟨some 20, .build [.int .i64 0, .int .i64 0, .str [], .bool false] [], none⟩,
⟨none, .store (.t 6) (.t 20) 4, none⟩,
⟨some 7, .mov (.k (.int .i64 8)), none⟩]
[6, 7])
.ret)
.skip))
(.seq (.reg [⟨some 21, .faddr (.t 4) 3, none⟩,
⟨some 22, .load (.t 21), none⟩,
⟨some 23, .un .not (.t 22), none⟩,
⟨some 24, .call n_proctorref03_truth [.t 23], none⟩,
⟨some 25, .ext (.t 24) 0, none⟩,
⟨some 26, .ext (.t 24) 1, none⟩,
⟨none, .store (.t 6) (.t 25) 4, none⟩,
⟨some 7, .mov (.t 26), none⟩]
[6, 7])
.ret))
.skip))
(.seq (.seq (.reg [⟨some 27, .mov (.t 0), none⟩,
⟨some 28, .bin .eql (.t 27) (.k (.int .i64 5)), none⟩]
[0, 4, 5, 6, 28])
(.cond (.t 28)
(.seq (.seq (.reg [⟨some 29, .faddr (.t 4) 0, none⟩,
⟨some 30, .load (.t 29), none⟩,
⟨some 31, .bin .neq (.t 30) (.k (.int .i64 1)), none⟩]
[4, 6, 31])
(.cond (.t 31)
(.seq (.reg [⟨some 32, .build [.int .i64 0, .int .i64 0, .str [], .bool false] [], none⟩,
⟨none, .store (.t 6) (.t 32) 4, none⟩,
⟨some 7, .mov (.k (.int .i64 8)), none⟩]
[6, 7])
.ret)
.skip))
(.seq (.reg [⟨some 33, .faddr (.t 4) 1, none⟩,
⟨some 34, .load (.t 33), none⟩,
⟨some 35, .call n_proctorref03_arith [.k (.int .i64 9), .k (.int .i64 0), .t 34], none⟩,
⟨some 36, .ext (.t 35) 0, none⟩,
⟨some 37, .ext (.t 35) 1, none⟩,
⟨none, .store (.t 6) (.t 36) 4, none⟩,
⟨some 7, .mov (.t 37), none⟩]
[6, 7])
.ret))
.skip))
(.seq (.seq (.reg [⟨some 38, .faddr (.t 4) 0, none⟩,
⟨some 39, .load (.t 38), none⟩,
⟨some 40, .faddr (.t 5) 0, none⟩,
⟨some 41, .load (.t 40), none⟩,
⟨some 42, .bin .neq (.t 39) (.t 41), none⟩]
[0, 4, 5, 6, 42])
(.cond (.t 42)
(.seq (.reg [⟨some 43, .build [.int .i64 0, .int .i64 0, .str [], .bool false] [], none⟩,
⟨none, .store (.t 6) (.t 43) 4, none⟩,
⟨some 7, .mov (.k (.int .i64 8)), none⟩]
[6, 7])
.ret)
.skip))
(.seq (.seq (.reg [⟨some 44, .mov (.t 0), none⟩,
⟨some 45, .bin .eql (.t 44) (.k (.int .i64 13)), none⟩]
[0, 4, 5, 6, 45])
(.cond (.t 45)
(.seq (.reg [⟨some 46, .loadN (.t 4) 4, none⟩,
⟨some 47, .loadN (.t 5) 4, none⟩,
⟨some 48, .eqA false [0, 0, 1, 2] (.t 46) (.t 47), none⟩,
⟨some 49, .call n_proctorref03_truth [.t 48], none⟩,
⟨some 50, .ext (.t 49) 0, none⟩,
⟨some 51, .ext (.t 49) 1, none⟩,
⟨none, .store (.t 6) (.t 50) 4, none⟩,
⟨some 7, .mov (.t 51), none⟩]
[6, 7])
.ret)
.skip))
(.seq (.seq (.reg [⟨some 52, .mov (.t 0), none⟩,
⟨some 53, .bin .eql (.t 52) (.k (.int .i64 14)), none⟩]
[0, 4, 5, 6, 53])
(.cond (.t 53)
(.seq (.reg [⟨some 54, .loadN (.t 4) 4, none⟩,
⟨some 55, .loadN (.t 5) 4, none⟩,
⟨some 56, .eqA true [0, 0, 1, 2] (.t 54) (.t 55), none⟩,
⟨some 57, .call n_proctorref03_truth [.t 56], none⟩,
⟨some 58, .ext (.t 57) 0, none⟩,
⟨some 59, .ext (.t 57) 1, none⟩,
⟨none, .store (.t 6) (.t 58) 4, none⟩,
⟨some 7, .mov (.t 59), none⟩]
[6, 7])
.ret)
.skip))
(.seq (.seq (.reg [⟨some 60, .faddr (.t 4) 0, none⟩,
⟨some 61, .load (.t 60), none⟩,
⟨some 62, .bin .eql (.t 61) (.k (.int .i64 3)), none⟩]
[0, 4, 5, 6, 62])
(.cond (.t 62)
(.seq (.seq (.reg [⟨some 63, .mov (.t 0), none⟩,
⟨some 64, .bin .eql (.t 63) (.k (.int .i64 6)), none⟩]
[0, 4, 5, 6, 64])
(.cond (.t 64)
(.seq (.reg [⟨some 65, .faddr (.t 4) 3, none⟩,
⟨some 66, .load (.t 65), none⟩,
⟨some 67, .mov (.t 66), none⟩,
⟨some 68, .faddr (.t 5) 3, (some (67, true))⟩,
⟨some 69, .load (.t 68), (some (67, true))⟩,
⟨some 70, .pick (.t 67) (.t 69) (.k (.bool false)), none⟩,
⟨some 71, .call n_proctorref03_truth [.t 70], none⟩,
⟨some 72, .ext (.t 71) 0, none⟩,
⟨some 73, .ext (.t 71) 1, none⟩,
⟨none, .store (.t 6) (.t 72) 4, none⟩,
⟨some 7, .mov (.t 73), none⟩]
[6, 7])
.ret)
.skip))
(.seq (.seq (.reg [⟨some 74, .mov (.t 0), none⟩,
⟨some 75, .bin .eql (.t 74) (.k (.int .i64 7)), none⟩]
[4, 5, 6, 75])
(.cond (.t 75)
(.seq (.reg [⟨some 76, .faddr (.t 4) 3, none⟩,
⟨some 77, .load (.t 76), none⟩,
⟨some 78, .mov (.t 77), none⟩,
⟨some 79, .faddr (.t 5) 3, (some (78, false))⟩,
⟨some 80, .load (.t 79), (some (78, false))⟩,
⟨some 81, .pick (.t 78) (.k (.bool true)) (.t 80), none⟩,
⟨some 82, .call n_proctorref03_truth [.t 81], none⟩,
⟨some 83, .ext (.t 82) 0, none⟩,
⟨some 84, .ext (.t 82) 1, none⟩,
⟨none, .store (.t 6) (.t 83) 4, none⟩,
⟨some 7, .mov (.t 84), none⟩]
[6, 7])
.ret)
.skip))
(.seq (.reg [⟨some 85, .build [.int .i64 0, .int .i64 0, .str [], .bool false] [], none⟩,
⟨none, .store (.t 6) (.t 85) 4, none⟩,
⟨some 7, .mov (.k (.int .i64 8)), none⟩]
[6, 7])
.ret)))
.skip))
(.seq (.seq (.reg [⟨some 86, .mov (.t 0), none⟩,
⟨some 87, .bin .eql (.t 86) (.k (.int .i64 15)), none⟩]
[0, 4, 5, 6, 87])
(.cond (.t 87)
(.seq (.reg [⟨some 88, .loadN (.t 4) 4, none⟩,
⟨some 89, .loadN (.t 5) 4, none⟩,
⟨some 90, .call n_proctorref03_Less [.t 88, .t 89], none⟩,
⟨some 91, .call n_proctorref03_truth [.t 90], none⟩,
⟨some 92, .ext (.t 91) 0, none⟩,
⟨some 93, .ext (.t 91) 1, none⟩,
⟨none, .store (.t 6) (.t 92) 4, none⟩,
⟨some 7, .mov (.t 93), none⟩]
[6, 7])
.ret)
.skip))
(.seq (.seq (.reg [⟨some 94, .mov (.t 0), none⟩,
⟨some 95, .bin .eql (.t 94) (.k (.int .i64 16)), none⟩]
[0, 4, 5, 6, 95])
(.cond (.t 95)
(.seq (.reg [⟨some 96, .loadN (.t 5) 4, none⟩,
⟨some 97, .loadN (.t 4) 4, none⟩,
⟨some 98, .call n_proctorref03_Less [.t 96, .t 97], none⟩,
⟨some 99, .un .not (.t 98), none⟩,
⟨some 100, .call n_proctorref03_truth [.t 99], none⟩,
⟨some 101, .ext (.t 100) 0, none⟩,
⟨some 102, .ext (.t 100) 1, none⟩,
⟨none, .store (.t 6) (.t 101) 4, none⟩,
⟨some 7, .mov (.t 102), none⟩]
[6, 7])
.ret)
.skip))
(.seq (.seq (.reg [⟨some 103, .faddr (.t 4) 0, none⟩,
⟨some 104, .load (.t 103), none⟩,
⟨some 105, .bin .eql (.t 104) (.k (.int .i64 1)), none⟩,
⟨some 106, .mov (.t 105), none⟩,
⟨some 107, .mov (.t 0), (some (106, true))⟩,
⟨some 108, .bin .geq (.t 107) (.k (.int .i64 8)), (some (106, true))⟩,
⟨some 109, .pick (.t 106) (.t 108) (.k (.bool false)), none⟩,
⟨some 110, .mov (.t 109), none⟩,
⟨some 111, .mov (.t 0), (some (110, true))⟩,
⟨some 112, .bin .leq (.t 111) (.k (.int .i64 12)), (some (110, true))⟩,
⟨some 113, .pick (.t 110) (.t 112) (.k (.bool false)), none⟩]
[0, 4, 5, 6, 113])
(.cond (.t 113)
(.seq (.reg [⟨some 114, .mov (.t 0), none⟩,
⟨some 115, .faddr (.t 4) 1, none⟩,
⟨some 116, .load (.t 115), none⟩,
⟨some 117, .faddr (.t 5) 1, none⟩,
⟨some 118, .load (.t 117), none⟩,
⟨some 119, .call n_proctorref03_arith [.t 114, .t 116, .t 118], none⟩,
⟨some 120, .ext (.t 119) 0, none⟩,
⟨some 121, .ext (.t 119) 1, none⟩,
⟨none, .store (.t 6) (.t 120) 4, none⟩,
⟨some 7, .mov (.t 121), none⟩]
[6, 7])
.ret)
.skip))
(.seq (.seq (.reg [⟨some 122, .faddr (.t 4) 0, none⟩,
⟨some 123, .load (.t 122), none⟩,
⟨some 124, .bin .eql (.t 123) (.k (.int .i64 2)), none⟩,
⟨some 125, .mov (.t 124), none⟩,
⟨some 126, .mov (.t 0), (some (125, true))⟩,
⟨some 127, .bin .eql (.t 126) (.k (.int .i64 8)), (some (125, true))⟩,
⟨some 128, .pick (.t 125) (.t 127) (.k (.bool false)), none⟩]
[4, 5, 6, 128])
(.cond (.t 128)
(.seq (.seq (.reg [⟨some 129, .faddr (.t 4) 2, none⟩,
⟨some 130, .load (.t 129), none⟩,
⟨some 131, .len true (.t 130), none⟩,
⟨some 132, .faddr (.t 5) 2, none⟩,
⟨some 133, .load (.t 132), none⟩,
⟨some 134, .len true (.t 133), none⟩,
⟨some 135, .bin .add (.t 131) (.t 134), none⟩,
⟨some 136, .bin .gtr (.t 135) (.k (.int .i64 4096)), none⟩]
[4, 5, 6, 136])
(.cond (.t 136)
(.seq (.reg [⟨some 137, .build [.int .i64 0, .int .i64 0, .str [], .bool false] [], none⟩,
⟨none, .store (.t 6) (.t 137) 4, none⟩,
⟨some 7, .mov (.k (.int .i64 3)), none⟩]
[6, 7])
.ret)
.skip))
(.seq (.reg [⟨some 138, .faddr (.t 4) 2, none⟩,
⟨some 139, .load (.t 138), none⟩,
⟨some 140, .faddr (.t 5) 2, none⟩,
⟨some 141, .load (.t 140), none⟩,
⟨some 142, .bin .add (.t 139) (.t 141), none⟩,
⟨some 143, .build [.int .i64 0, .int .i64 0, .str [], .bool false] [(0, 1, .k (.int .i64 2)), (2, 1, .t 142)], none⟩,
⟨none, .store (.t 6) (.t 143) 4, none⟩,
⟨some 7, .mov (.k (.int .i64 0)), none⟩]
[6, 7])
.ret))
.skip))
(.seq (.reg [⟨some 144, .build [.int .i64 0, .int .i64 0, .str [], .bool false] [], none⟩,
⟨none, .store (.t 6) (.t 144) 4, none⟩,
⟨some 7, .mov (.k (.int .i64 8)), none⟩]
[6, 7])
.ret)))))))))))))⟩
theorem k_proctorref03_Op : chkF Tryz.prog Tryz.f231 c_proctorref03_Op = true := by kernel_rfl
theorem pc_proctorref03_Op {G : Nat → Option AV} {args : List AV} {r : AV} (h : Runs Tryz.prog G c_proctorref03_Op args r) (hk : args.length = c_proctorref03_Op.k := by rfl) : PureC Tryz.prog G n_proctorref03_Op args r := PureC.of_runs (fn := Tryz.f231) (A := c_proctorref03_Op) Tryz.func231 k_proctorref03_Op hk h
def c_proctorref03_Right : AFun := ⟨44, 1, [.t 2],
  (.seq (.reg [⟨some 1, .box t_api_Value 4 (.t 0), none⟩,
⟨some 2, .mov (.k (.bool false)), none⟩]
[1])
(.seq (.seq (.reg [⟨some 3, .faddr (.t 1) 0, none⟩,
⟨some 4, .load (.t 3), none⟩,
⟨some 5, .bin .eql (.t 4) (.k (.int .i64 1)), none⟩]
[1, 5])
(.cond (.t 5)
(.seq (.reg [⟨some 6, .faddr (.t 1) 2, none⟩,
⟨some 7, .load (.t 6), none⟩,
⟨some 8, .bin .eql (.t 7) (.k (.str [])), none⟩,
⟨some 9, .mov (.t 8), none⟩,
⟨some 10, .faddr (.t 1) 3, (some (9, true))⟩,
⟨some 11, .load (.t 10), (some (9, true))⟩,
⟨some 12, .un .not (.t 11), (some (9, true))⟩,
⟨some 13, .pick (.t 9) (.t 12) (.k (.bool false)), none⟩,
⟨some 2, .mov (.t 13), none⟩]
[2])
.ret)
.skip))
(.seq (.seq (.reg [⟨some 14, .faddr (.t 1) 0, none⟩,
⟨some 15, .load (.t 14), none⟩,
⟨some 16, .bin .eql (.t 15) (.k (.int .i64 2)), none⟩]
[1, 16])
(.cond (.t 16)
(.seq (.reg [⟨some 17, .faddr (.t 1) 1, none⟩,
⟨some 18, .load (.t 17), none⟩,
⟨some 19, .bin .eql (.t 18) (.k (.int .i64 0)), none⟩,
⟨some 20, .mov (.t 19), none⟩,
⟨some 21, .faddr (.t 1) 3, (some (20, true))⟩,
⟨some 22, .load (.t 21), (some (20, true))⟩,
⟨some 23, .un .not (.t 22), (some (20, true))⟩,
⟨some 24, .pick (.t 20) (.t 23) (.k (.bool false)), none⟩,
⟨some 25, .mov (.t 24), none⟩,
⟨some 26, .faddr (.t 1) 2, (some (25, true))⟩,
⟨some 27, .load (.t 26), (some (25, true))⟩,
⟨some 28, .len true (.t 27), (some (25, true))⟩,
⟨some 29, .bin .leq (.t 28) (.k (.int .i64 4096)), (some (25, true))⟩,
⟨some 30, .pick (.t 25) (.t 29) (.k (.bool false)), none⟩,
⟨some 2, .mov (.t 30), none⟩]
[2])
.ret)
.skip))
(.seq (.reg [⟨some 31, .faddr (.t 1) 0, none⟩,
⟨some 32, .load (.t 31), none⟩,
⟨some 33, .bin .eql (.t 32) (.k (.int .i64 3)), none⟩,
⟨some 34, .mov (.t 33), none⟩,
⟨some 35, .faddr (.t 1) 1, (some (34, true))⟩,
⟨some 36, .load (.t 35), (some (34, true))⟩,
⟨some 37, .bin .eql (.t 36) (.k (.int .i64 0)), (some (34, true))⟩,
⟨some 38, .pick (.t 34) (.t 37) (.k (.bool false)), none⟩,
⟨some 39, .mov (.t 38), none⟩,
⟨some 40, .faddr (.t 1) 2, (some (39, true))⟩,
⟨some 41, .load (.t 40), (some (39, true))⟩,
⟨some 42, .bin .eql (.t 41) (.k (.str [])), (some (39, true))⟩,
⟨some 43, .pick (.t 39) (.t 42) (.k (.bool false)), none⟩,
⟨some 2, .mov (.t 43), none⟩]
[2])
.ret))))⟩
theorem k_proctorref03_Right : chkF Tryz.prog Tryz.f76 c_proctorref03_Right = true := by kernel_rfl
theorem pc_proctorref03_Right {G : Nat → Option AV} {args : List AV} {r : AV} (h : Runs Tryz.prog G c_proctorref03_Right args r) (hk : args.length = c_proctorref03_Right.k := by rfl) : PureC Tryz.prog G n_proctorref03_Right args r := PureC.of_runs (fn := Tryz.f76) (A := c_proctorref03_Right) Tryz.func76 k_proctorref03_Right hk h
def c_proctorref03_arith : AFun := ⟨76, 3, [.cells 6 4, .t 7],
  (.seq (.reg [⟨some 6, .alloc t_api_Value 4 (.agg [.int .i64 0, .int .i64 0, .str [], .bool false]), none⟩,
⟨some 7, .mov (.k (.int .i64 0)), none⟩]
[0, 1, 2, 6])
(.seq (.seq (.reg [⟨some 17, .mov (.t 0), none⟩,
⟨some 18, .bin .eql (.t 17) (.k (.int .i64 8)), none⟩]
[0, 1, 2, 6, 18])
(.cond (.t 18)
(.seq (.reg [⟨some 20, .mov (.t 1), none⟩,
⟨some 21, .mov (.t 2), none⟩,
⟨some 22, .call n_proctorref01_Add [.t 20, .t 21], none⟩,
⟨some 19, .mov (.t 22), none⟩,
⟨some 23, .ext (.t 19) 0, none⟩,
⟨some 24, .ext (.t 19) 1, none⟩,
⟨some 8, .mov (.t 23), none⟩,
⟨some 9, .mov (.t 24), none⟩]
[6, 8, 9])
(.seq (.reg [⟨some 25, .mov (.t 8), none⟩,
⟨some 26, .mov (.t 9), none⟩,
⟨some 27, .call n_proctorref03_number [.t 25, .t 26], none⟩,
⟨some 28, .ext (.t 27) 0, none⟩,
⟨some 29, .ext (.t 27) 1, none⟩,
⟨none, .store (.t 6) (.t 28) 4, none⟩,
⟨some 7, .mov (.t 29), none⟩]
[6, 7])
.ret))
.skip))
(.seq (.seq (.reg [⟨some 30, .mov (.t 0), none⟩,
⟨some 31, .bin .eql (.t 30) (.k (.int .i64 9)), none⟩]
[0, 1, 2, 6, 31])
(.cond (.t 31)
(.seq (.reg [⟨some 33, .mov (.t 1), none⟩,
⟨some 34, .mov (.t 2), none⟩,
⟨some 35, .call n_proctorref01_Sub [.t 33, .t 34], none⟩,
⟨some 32, .mov (.t 35), none⟩,
⟨some 36, .ext (.t 32) 0, none⟩,
⟨some 37, .ext (.t 32) 1, none⟩,
⟨some 10, .mov (.t 36), none⟩,
⟨some 11, .mov (.t 37), none⟩]
[6, 10, 11])
(.seq (.reg [⟨some 38, .mov (.t 10), none⟩,
⟨some 39, .mov (.t 11), none⟩,
⟨some 40, .call n_proctorref03_number [.t 38, .t 39], none⟩,
⟨some 41, .ext (.t 40) 0, none⟩,
⟨some 42, .ext (.t 40) 1, none⟩,
⟨none, .store (.t 6) (.t 41) 4, none⟩,
⟨some 7, .mov (.t 42), none⟩]
[6, 7])
.ret))
.skip))
(.seq (.seq (.reg [⟨some 43, .mov (.t 0), none⟩,
⟨some 44, .bin .eql (.t 43) (.k (.int .i64 10)), none⟩]
[0, 1, 2, 6, 44])
(.cond (.t 44)
(.seq (.reg [⟨some 46, .mov (.t 1), none⟩,
⟨some 47, .mov (.t 2), none⟩,
⟨some 48, .call n_proctorref01_Mul [.t 46, .t 47], none⟩,
⟨some 45, .mov (.t 48), none⟩,
⟨some 49, .ext (.t 45) 0, none⟩,
⟨some 50, .ext (.t 45) 1, none⟩,
⟨some 12, .mov (.t 49), none⟩,
⟨some 13, .mov (.t 50), none⟩]
[6, 12, 13])
(.seq (.reg [⟨some 51, .mov (.t 12), none⟩,
⟨some 52, .mov (.t 13), none⟩,
⟨some 53, .call n_proctorref03_number [.t 51, .t 52], none⟩,
⟨some 54, .ext (.t 53) 0, none⟩,
⟨some 55, .ext (.t 53) 1, none⟩,
⟨none, .store (.t 6) (.t 54) 4, none⟩,
⟨some 7, .mov (.t 55), none⟩]
[6, 7])
.ret))
.skip))
(.seq (.reg [⟨some 57, .mov (.t 1), none⟩,
⟨some 58, .mov (.t 2), none⟩,
⟨some 59, .call n_proctorref01_Div [.t 57, .t 58], none⟩,
⟨some 56, .mov (.t 59), none⟩,
⟨some 60, .ext (.t 56) 0, none⟩,
⟨some 61, .ext (.t 56) 1, none⟩,
⟨some 62, .ext (.t 56) 2, none⟩,
⟨some 14, .mov (.t 60), none⟩,
⟨some 15, .mov (.t 61), none⟩,
⟨some 16, .mov (.t 62), none⟩]
[0, 6, 14, 15, 16])
(.seq (.seq (.reg [⟨some 63, .mov (.t 16), none⟩,
⟨some 64, .bin .eql (.t 63) (.k (.int .i64 7)), none⟩]
[0, 6, 14, 15, 16, 64])
(.cond (.t 64)
(.seq (.reg [⟨some 65, .build [.int .i64 0, .int .i64 0, .str [], .bool false] [], none⟩,
⟨none, .store (.t 6) (.t 65) 4, none⟩,
⟨some 7, .mov (.k (.int .i64 7)), none⟩]
[6, 7])
.ret)
.skip))
(.seq (.seq (.reg [⟨some 66, .mov (.t 0), none⟩,
⟨some 67, .bin .eql (.t 66) (.k (.int .i64 12)), none⟩]
[6, 14, 15, 16, 67])
(.cond (.t 67)
(.seq (.reg [⟨some 68, .mov (.t 15), none⟩,
⟨some 69, .build [.int .i64 0, .int .i64 0, .str [], .bool false] [(0, 1, .k (.int .i64 1)), (1, 1, .t 68)], none⟩,
⟨none, .store (.t 6) (.t 69) 4, none⟩,
⟨some 7, .mov (.k (.int .i64 0)), none⟩]
[6, 7])
.ret)
.skip))
(.seq (.reg [⟨some 70, .mov (.t 14), none⟩,
⟨some 71, .mov (.t 16), none⟩,
⟨some 72, .bin .eql (.t 71) (.k (.int .i64 0)), none⟩,
⟨some 73, .call n_proctorref03_number [.t 70, .t 72], none⟩,
⟨some 74, .ext (.t 73) 0, none⟩,
⟨some 75, .ext (.t 73) 1, none⟩,
⟨none, .store (.t 6) (.t 74) 4, none⟩,
⟨some 7, .mov (.t 75), none⟩]
[6, 7])
.ret))))))))⟩
theorem k_proctorref03_arith : chkF Tryz.prog Tryz.f262 c_proctorref03_arith = true := by kernel_rfl
theorem pc_proctorref03_arith {G : Nat → Option AV} {args : List AV} {r : AV} (h : Runs Tryz.prog G c_proctorref03_arith args r) (hk : args.length = c_proctorref03_arith.k := by rfl) : PureC Tryz.prog G n_proctorref03_arith args r := PureC.of_runs (fn := Tryz.f262) (A := c_proctorref03_arith) Tryz.func262 k_proctorref03_arith hk h
def c_proctorref03_number : AFun := ⟨11, 2, [.cells 4 4, .t 5],
  (.seq (.reg [⟨some 4, .alloc t_api_Value 4 (.agg [.int .i64 0, .int .i64 0, .str [], .bool false]), none⟩,
⟨some 5, .mov (.k (.int .i64 0)), none⟩]
[0, 1, 4])
(.seq (.seq (.reg [⟨some 6, .mov (.t 1), none⟩,
⟨some 7, .un .not (.t 6), none⟩]
[0, 4, 7])
(.cond (.t 7)
(.seq (.reg [⟨some 8, .build [.int .i64 0, .int .i64 0, .str [], .bool false] [], none⟩,
⟨none, .store (.t 4) (.t 8) 4, none⟩,
⟨some 5, .mov (.k (.int .i64 6)), none⟩]
[4, 5])
.ret)
.skip))
(.seq (.reg [⟨some 9, .mov (.t 0), none⟩,
⟨some 10, .build [.int .i64 0, .int .i64 0, .str [], .bool false] [(0, 1, .k (.int .i64 1)), (1, 1, .t 9)], none⟩,
⟨none, .store (.t 4) (.t 10) 4, none⟩,
⟨some 5, .mov (.k (.int .i64 0)), none⟩]
[4, 5])
.ret)))⟩
theorem k_proctorref03_number : chkF Tryz.prog Tryz.f286 c_proctorref03_number = true := by kernel_rfl
theorem pc_proctorref03_number {G : Nat → Option AV} {args : List AV} {r : AV} (h : Runs Tryz.prog G c_proctorref03_number args r) (hk : args.length = c_proctorref03_number.k := by rfl) : PureC Tryz.prog G n_proctorref03_number args r := PureC.of_runs (fn := Tryz.f286) (A := c_proctorref03_number) Tryz.func286 k_proctorref03_number hk h
def c_proctorref03_truth : AFun := ⟨6, 1, [.cells 2 4, .t 3],
  (.seq (.reg [⟨some 2, .alloc t_api_Value 4 (.agg [.int .i64 0, .int .i64 0, .str [], .bool false]), none⟩,
⟨some 3, .mov (.k (.int .i64 0)), none⟩]
[0, 2])
(.seq (.reg [⟨some 4, .mov (.t 0), none⟩,
⟨some 5, .build [.int .i64 0, .int .i64 0, .str [], .bool false] [(0, 1, .k (.int .i64 3)), (3, 1, .t 4)], none⟩,
⟨none, .store (.t 2) (.t 5) 4, none⟩,
⟨some 3, .mov (.k (.int .i64 0)), none⟩]
[2, 3])
.ret))⟩
theorem k_proctorref03_truth : chkF Tryz.prog Tryz.f261 c_proctorref03_truth = true := by kernel_rfl
theorem pc_proctorref03_truth {G : Nat → Option AV} {args : List AV} {r : AV} (h : Runs Tryz.prog G c_proctorref03_truth args r) (hk : args.length = c_proctorref03_truth.k := by rfl) : PureC Tryz.prog G n_proctorref03_truth args r := PureC.of_runs (fn := Tryz.f261) (A := c_proctorref03_truth) Tryz.func261 k_proctorref03_truth hk h
def c_proctorref07_Check : AFun := ⟨72, 1, [.t 2, .t 3],
  (.seq (.reg [⟨some 2, .mov (.k (.int .i64 0)), none⟩,
⟨some 3, .mov (.k (.int .i64 0)), none⟩]
[0])
(.seq (.seq (.reg [⟨some 6, .mov (.t 0), none⟩,
⟨some 7, .len false (.t 6), none⟩,
⟨some 8, .bin .gtr (.t 7) (.k (.int .i64 32)), none⟩]
[0, 8])
(.cond (.t 8)
(.seq (.reg [⟨some 2, .mov (.k (.int .i64 14)), none⟩,
⟨some 3, .mov (.k (.int .i64 32)), none⟩]
[2, 3])
.ret)
.skip))
(.seq (.seq (.reg [⟨some 4, .mov (.k (.int .i64 0)), none⟩]
[0, 4])
(.block 0
(.loop [0, 4] [7]
  (.seq (.seq (.reg [⟨some 9, .mov (.t 4), none⟩,
⟨some 10, .mov (.t 0), none⟩,
⟨some 11, .len false (.t 10), none⟩,
⟨some 12, .bin .lss (.t 9) (.t 11), none⟩]
[0, 4, 12])
(.cond (.t 12)
.skip
(.exit 0)))
(.seq (.block 1
(.seq (.seq (.reg [⟨some 15, .mov (.t 0), none⟩,
⟨some 16, .mov (.t 4), none⟩,
⟨some 17, .iaddr 2 (.t 15) (.t 16), none⟩,
⟨some 18, .faddr (.t 17) 0, none⟩,
⟨some 19, .load (.t 18), none⟩,
⟨some 20, .call n_proctorref07_Name [.t 19], none⟩,
⟨some 21, .un .not (.t 20), none⟩]
[0, 4, 21])
(.cond (.t 21)
(.seq (.reg [⟨some 22, .mov (.t 4), none⟩,
⟨some 2, .mov (.k (.int .i64 11)), none⟩,
⟨some 3, .mov (.t 22), none⟩]
[2, 3])
.ret)
.skip))
(.seq (.seq (.reg [⟨some 23, .mov (.t 0), none⟩,
⟨some 24, .mov (.t 0), none⟩,
⟨some 25, .mov (.t 4), none⟩,
⟨some 26, .iaddr 2 (.t 24) (.t 25), none⟩,
⟨some 27, .faddr (.t 26) 0, none⟩,
⟨some 28, .load (.t 27), none⟩,
⟨some 29, .call n_proctorref07_Find [.t 23, .t 28], none⟩,
⟨some 30, .mov (.t 4), none⟩,
⟨some 31, .bin .lss (.t 29) (.t 30), none⟩]
[0, 4, 31])
(.cond (.t 31)
(.seq (.reg [⟨some 32, .mov (.t 4), none⟩,
⟨some 2, .mov (.k (.int .i64 10)), none⟩,
⟨some 3, .mov (.t 32), none⟩]
[2, 3])
.ret)
.skip))
(.seq (.seq (.reg [⟨some 33, .mov (.t 0), none⟩,
⟨some 34, .mov (.t 4), none⟩,
⟨some 35, .iaddr 2 (.t 33) (.t 34), none⟩,
⟨some 36, .faddr (.t 35) 1, none⟩,
⟨some 37, .load (.t 36), none⟩,
⟨some 38, .len false (.t 37), none⟩,
⟨some 39, .bin .gtr (.t 38) (.k (.int .i64 8)), none⟩]
[0, 4, 39])
(.cond (.t 39)
(.seq (.reg [⟨some 40, .mov (.t 4), none⟩,
⟨some 2, .mov (.k (.int .i64 14)), none⟩,
⟨some 3, .mov (.t 40), none⟩]
[2, 3])
.ret)
.skip))
(.seq (.reg [⟨some 5, .mov (.k (.int .i64 0)), none⟩]
[0, 4, 5])
(.block 2
(.loop [0, 4, 5] [7, 11, 20, 29, 38]
  (.seq (.seq (.reg [⟨some 41, .mov (.t 5), none⟩,
⟨some 42, .mov (.t 0), none⟩,
⟨some 43, .mov (.t 4), none⟩,
⟨some 44, .iaddr 2 (.t 42) (.t 43), none⟩,
⟨some 45, .faddr (.t 44) 1, none⟩,
⟨some 46, .load (.t 45), none⟩,
⟨some 47, .len false (.t 46), none⟩,
⟨some 48, .bin .lss (.t 41) (.t 47), none⟩]
[0, 4, 5, 48])
(.cond (.t 48)
.skip
(.exit 2)))
(.seq (.block 3
(.seq (.reg [⟨some 51, .mov (.t 0), none⟩,
⟨some 52, .mov (.t 4), none⟩,
⟨some 53, .iaddr 2 (.t 51) (.t 52), none⟩,
⟨some 54, .faddr (.t 53) 1, none⟩,
⟨some 55, .load (.t 54), none⟩,
⟨some 56, .mov (.t 5), none⟩,
⟨some 57, .iaddr 1 (.t 55) (.t 56), none⟩,
⟨some 58, .load (.t 57), none⟩,
⟨some 59, .bin .lss (.t 58) (.k (.int .i64 1)), none⟩,
⟨some 60, .mov (.t 59), none⟩,
⟨some 61, .mov (.t 0), (some (60, false))⟩,
⟨some 62, .mov (.t 4), (some (60, false))⟩,
⟨some 63, .iaddr 2 (.t 61) (.t 62), (some (60, false))⟩,
⟨some 64, .faddr (.t 63) 1, (some (60, false))⟩,
⟨some 65, .load (.t 64), (some (60, false))⟩,
⟨some 66, .mov (.t 5), (some (60, false))⟩,
⟨some 67, .iaddr 1 (.t 65) (.t 66), (some (60, false))⟩,
⟨some 68, .load (.t 67), (some (60, false))⟩,
⟨some 69, .bin .gtr (.t 68) (.k (.int .i64 3)), (some (60, false))⟩,
⟨some 70, .pick (.t 60) (.k (.bool true)) (.t 69), none⟩]
[0, 4, 5, 70])
(.cond (.t 70)
(.seq (.reg [⟨some 71, .mov (.t 4), none⟩,
⟨some 2, .mov (.k (.int .i64 8)), none⟩,
⟨some 3, .mov (.t 71), none⟩]
[2, 3])
.ret)
.skip)))
(.reg [⟨some 49, .mov (.t 5), none⟩,
⟨some 50, .bin .add (.t 49) (.k (.int .i64 1)), none⟩,
⟨some 5, .mov (.t 50), none⟩]
[0, 4, 5]))))))))))
(.reg [⟨some 13, .mov (.t 4), none⟩,
⟨some 14, .bin .add (.t 13) (.k (.int .i64 1)), none⟩,
⟨some 4, .mov (.t 14), none⟩]
[0, 4]))))))
(.seq (.reg [⟨some 2, .mov (.k (.int .i64 0)), none⟩,
⟨some 3, .mov (.k (.int .i64 (-1))), none⟩]
[2, 3])
.ret))))⟩
theorem k_proctorref07_Check : chkF Tryz.prog Tryz.f71 c_proctorref07_Check = true := by kernel_rfl
theorem pc_proctorref07_Check {G : Nat → Option AV} {args : List AV} {r : AV} (h : Runs Tryz.prog G c_proctorref07_Check args r) (hk : args.length = c_proctorref07_Check.k := by rfl) : PureC Tryz.prog G n_proctorref07_Check args r := PureC.of_runs (fn := Tryz.f71) (A := c_proctorref07_Check) Tryz.func71 k_proctorref07_Check hk h
def c_proctorref07_Find : AFun := ⟨20, 2, [.t 4],
  (.seq (.reg [⟨some 4, .mov (.k (.int .i64 0)), none⟩]
[0, 1])
(.seq (.seq (.reg [⟨some 5, .mov (.k (.int .i64 0)), none⟩]
[0, 1, 5])
(.block 0
(.loop [0, 1, 5] []
  (.seq (.seq (.reg [⟨some 6, .mov (.t 5), none⟩,
⟨some 7, .mov (.t 0), none⟩,
⟨some 8, .len false (.t 7), none⟩,
⟨some 9, .bin .lss (.t 6) (.t 8), none⟩]
[0, 1, 5, 9])
(.cond (.t 9)
.skip
(.exit 0)))
(.seq (.block 1
(.seq (.reg [⟨some 12, .mov (.t 0), none⟩,
⟨some 13, .mov (.t 5), none⟩,
⟨some 14, .iaddr 2 (.t 12) (.t 13), none⟩,
⟨some 15, .faddr (.t 14) 0, none⟩,
⟨some 16, .load (.t 15), none⟩,
⟨some 17, .mov (.t 1), none⟩,
⟨some 18, .bin .eql (.t 16) (.t 17), none⟩]
[0, 1, 5, 18])
(.cond (.t 18)
(.seq (.reg [⟨some 19, .mov (.t 5), none⟩,
⟨some 4, .mov (.t 19), none⟩]
[4])
.ret)
.skip)))
(.reg [⟨some 10, .mov (.t 5), none⟩,
⟨some 11, .bin .add (.t 10) (.k (.int .i64 1)), none⟩,
⟨some 5, .mov (.t 11), none⟩]
[0, 1, 5]))))))
(.seq (.reg [⟨some 4, .mov (.k (.int .i64 (-1))), none⟩]
[4])
.ret)))⟩
theorem k_proctorref07_Find : chkF Tryz.prog Tryz.f77 c_proctorref07_Find = true := by kernel_rfl
theorem pc_proctorref07_Find {G : Nat → Option AV} {args : List AV} {r : AV} (h : Runs Tryz.prog G c_proctorref07_Find args r) (hk : args.length = c_proctorref07_Find.k := by rfl) : PureC Tryz.prog G n_proctorref07_Find args r := PureC.of_runs (fn := Tryz.f77) (A := c_proctorref07_Find) Tryz.func77 k_proctorref07_Find hk h
end Go.Proofs.YtjbcfpkibnhodaaGreatDoor.Ab
