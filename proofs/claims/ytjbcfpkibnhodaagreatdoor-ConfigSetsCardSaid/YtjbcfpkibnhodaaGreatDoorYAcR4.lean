/-
  The functions' abstract code, by program (acgen.py), and that the model's code is it, reckoned by the kernel. No claim is proved here.
-/
import Derived.Test.YtjbcfpkibnhodaaGreatDoorYAcR1
namespace Go.Proofs.YtjbcfpkibnhodaaGreatDoor.Ab
open Go
def c_quote_shown : AFun := ⟨17, 1, [.t 2],
  (.seq (.reg [⟨some 2, .mov (.k (.bool false)), none⟩]
[0])
(.seq (.reg [⟨some 3, .mov (.t 0), none⟩,
⟨some 4, .bin .geq (.t 3) (.k (.int .u8 32)), none⟩,
⟨some 5, .mov (.t 4), none⟩,
⟨some 6, .mov (.t 0), (some (5, true))⟩,
⟨some 7, .bin .leq (.t 6) (.k (.int .u8 126)), (some (5, true))⟩,
⟨some 8, .pick (.t 5) (.t 7) (.k (.bool false)), none⟩,
⟨some 9, .mov (.t 8), none⟩,
⟨some 10, .mov (.t 0), (some (9, true))⟩,
⟨some 11, .bin .neq (.t 10) (.k (.int .u8 34)), (some (9, true))⟩,
⟨some 12, .pick (.t 9) (.t 11) (.k (.bool false)), none⟩,
⟨some 13, .mov (.t 12), none⟩,
⟨some 14, .mov (.t 0), (some (13, true))⟩,
⟨some 15, .bin .neq (.t 14) (.k (.int .u8 92)), (some (13, true))⟩,
⟨some 16, .pick (.t 13) (.t 15) (.k (.bool false)), none⟩,
⟨some 2, .mov (.t 16), none⟩]
[2])
.ret))⟩
theorem k_quote_shown : chkF Tryz.prog Tryz.f240 c_quote_shown = true := by kernel_rfl
theorem pc_quote_shown {G : Nat → Option AV} {args : List AV} {r : AV} (h : Runs Tryz.prog G c_quote_shown args r) (hk : args.length = c_quote_shown.k := by rfl) : PureC Tryz.prog G n_quote_shown args r := PureC.of_runs (fn := Tryz.f240) (A := c_quote_shown) Tryz.func240 k_quote_shown hk h
def c_value_Bool : AFun := ⟨5, 1, [.cells 2 4],
  (.seq (.reg [⟨some 2, .alloc t_api_Value 4 (.agg [.int .i64 0, .int .i64 0, .str [], .bool false]), none⟩]
[0, 2])
(.seq (.reg [⟨some 3, .mov (.t 0), none⟩,
⟨some 4, .build [.int .i64 0, .int .i64 0, .str [], .bool false] [(0, 1, .k (.int .i64 3)), (3, 1, .t 3)], none⟩,
⟨none, .store (.t 2) (.t 4) 4, none⟩]
[2])
.ret))⟩
theorem k_value_Bool : chkF Tryz.prog Tryz.f180 c_value_Bool = true := by kernel_rfl
theorem pc_value_Bool {G : Nat → Option AV} {args : List AV} {r : AV} (h : Runs Tryz.prog G c_value_Bool args r) (hk : args.length = c_value_Bool.k := by rfl) : PureC Tryz.prog G n_value_Bool args r := PureC.of_runs (fn := Tryz.f180) (A := c_value_Bool) Tryz.func180 k_value_Bool hk h
def c_value_Int : AFun := ⟨5, 1, [.cells 2 4],
  (.seq (.reg [⟨some 2, .alloc t_api_Value 4 (.agg [.int .i64 0, .int .i64 0, .str [], .bool false]), none⟩]
[0, 2])
(.seq (.reg [⟨some 3, .mov (.t 0), none⟩,
⟨some 4, .build [.int .i64 0, .int .i64 0, .str [], .bool false] [(0, 1, .k (.int .i64 1)), (1, 1, .t 3)], none⟩,
⟨none, .store (.t 2) (.t 4) 4, none⟩]
[2])
.ret))⟩
theorem k_value_Int : chkF Tryz.prog Tryz.f178 c_value_Int = true := by kernel_rfl
theorem pc_value_Int {G : Nat → Option AV} {args : List AV} {r : AV} (h : Runs Tryz.prog G c_value_Int args r) (hk : args.length = c_value_Int.k := by rfl) : PureC Tryz.prog G n_value_Int args r := PureC.of_runs (fn := Tryz.f178) (A := c_value_Int) Tryz.func178 k_value_Int hk h
def c_value_Less : AFun := ⟨41, 2, [.t 4],
  (.seq (.reg [⟨some 2, .box t_api_Value 4 (.t 0), none⟩,
⟨some 3, .box t_api_Value 4 (.t 1), none⟩,
⟨some 4, .mov (.k (.bool false)), none⟩]
[2, 3])
(.seq (.block 0
(.seq (.reg [⟨some 6, .faddr (.t 2) 0, none⟩,
⟨some 7, .load (.t 6), none⟩,
⟨some 8, .faddr (.t 3) 0, none⟩,
⟨some 9, .load (.t 8), none⟩,
⟨some 10, .bin .neq (.t 7) (.t 9), none⟩,
⟨some 5, .mov (.t 10), none⟩]
[2, 3, 5])
(.cond (.t 5)
(.seq (.reg [⟨some 11, .faddr (.t 2) 0, none⟩,
⟨some 12, .load (.t 11), none⟩,
⟨some 13, .faddr (.t 3) 0, none⟩,
⟨some 14, .load (.t 13), none⟩,
⟨some 15, .bin .lss (.t 12) (.t 14), none⟩,
⟨some 4, .mov (.t 15), none⟩]
[4])
.ret)
(.seq (.reg [⟨some 17, .faddr (.t 2) 0, none⟩,
⟨some 18, .load (.t 17), none⟩,
⟨some 19, .bin .eql (.t 18) (.k (.int .i64 1)), none⟩,
⟨some 16, .mov (.t 19), none⟩]
[2, 3, 16])
(.cond (.t 16)
(.seq (.reg [⟨some 20, .faddr (.t 2) 1, none⟩,
⟨some 21, .load (.t 20), none⟩,
⟨some 22, .faddr (.t 3) 1, none⟩,
⟨some 23, .load (.t 22), none⟩,
⟨some 24, .bin .lss (.t 21) (.t 23), none⟩,
⟨some 4, .mov (.t 24), none⟩]
[4])
.ret)
(.seq (.reg [⟨some 26, .faddr (.t 2) 0, none⟩,
⟨some 27, .load (.t 26), none⟩,
⟨some 28, .bin .eql (.t 27) (.k (.int .i64 2)), none⟩,
⟨some 25, .mov (.t 28), none⟩]
[2, 3, 25])
(.cond (.t 25)
(.seq (.reg [⟨some 29, .faddr (.t 2) 2, none⟩,
⟨some 30, .load (.t 29), none⟩,
⟨some 31, .faddr (.t 3) 2, none⟩,
⟨some 32, .load (.t 31), none⟩,
⟨some 33, .bin .lss (.t 30) (.t 32), none⟩,
⟨some 4, .mov (.t 33), none⟩]
[4])
.ret)
.skip)))))))
(.seq (.reg [⟨some 34, .faddr (.t 2) 3, none⟩,
⟨some 35, .load (.t 34), none⟩,
⟨some 36, .un .not (.t 35), none⟩,
⟨some 37, .mov (.t 36), none⟩,
⟨some 38, .faddr (.t 3) 3, (some (37, true))⟩,
⟨some 39, .load (.t 38), (some (37, true))⟩,
⟨some 40, .pick (.t 37) (.t 39) (.k (.bool false)), none⟩,
⟨some 4, .mov (.t 40), none⟩]
[4])
.ret)))⟩
theorem k_value_Less : chkF Tryz.prog Tryz.f117 c_value_Less = true := by kernel_rfl
theorem pc_value_Less {G : Nat → Option AV} {args : List AV} {r : AV} (h : Runs Tryz.prog G c_value_Less args r) (hk : args.length = c_value_Less.k := by rfl) : PureC Tryz.prog G n_value_Less args r := PureC.of_runs (fn := Tryz.f117) (A := c_value_Less) Tryz.func117 k_value_Less hk h
def c_value_Right : AFun := ⟨32, 1, [.t 2],
  (.seq (.reg [⟨some 1, .box t_api_Value 4 (.t 0), none⟩,
⟨some 2, .mov (.k (.bool false)), none⟩]
[1])
(.seq (.seq (.reg [⟨some 3, .faddr (.t 1) 0, none⟩,
⟨some 4, .load (.t 3), none⟩]
[1, 4])
(.block 0
(.seq (.reg [⟨some 6, .bin .eql (.t 4) (.k (.int .i64 1)), none⟩,
⟨some 5, .mov (.t 6), none⟩]
[1, 4, 5])
(.cond (.t 5)
(.seq (.dreg [⟨some 7, .loadN (.t 1) 4, none⟩,
⟨some 8, .faddr (.t 1) 1, none⟩,
⟨some 9, .load (.t 8), none⟩,
⟨some 10, .call n_value_Int [.t 9], none⟩,
⟨some 11, .eqA false [0, 0, 1, 2] (.t 7) (.t 10), none⟩,
⟨some 2, .mov (.t 11), none⟩]
[2])
.ret)
(.seq (.reg [⟨some 13, .bin .eql (.t 4) (.k (.int .i64 2)), none⟩,
⟨some 12, .mov (.t 13), none⟩]
[1, 4, 12])
(.cond (.t 12)
(.seq (.dreg [⟨some 14, .loadN (.t 1) 4, none⟩,
⟨some 15, .faddr (.t 1) 2, none⟩,
⟨some 16, .load (.t 15), none⟩,
⟨some 17, .call n_value_Str [.t 16], none⟩,
⟨some 18, .eqA false [0, 0, 1, 2] (.t 14) (.t 17), none⟩,
⟨some 19, .mov (.t 18), none⟩,
⟨some 20, .faddr (.t 1) 2, (some (19, true))⟩,
⟨some 21, .load (.t 20), (some (19, true))⟩,
⟨some 22, .len true (.t 21), (some (19, true))⟩,
⟨some 23, .bin .leq (.t 22) (.k (.int .i64 4096)), (some (19, true))⟩,
⟨some 24, .pick (.t 19) (.t 23) (.k (.bool false)), none⟩,
⟨some 2, .mov (.t 24), none⟩]
[2])
.ret)
(.seq (.reg [⟨some 26, .bin .eql (.t 4) (.k (.int .i64 3)), none⟩,
⟨some 25, .mov (.t 26), none⟩]
[1, 25])
(.cond (.t 25)
(.seq (.dreg [⟨some 27, .loadN (.t 1) 4, none⟩,
⟨some 28, .faddr (.t 1) 3, none⟩,
⟨some 29, .load (.t 28), none⟩,
⟨some 30, .call n_value_Bool [.t 29], none⟩,
⟨some 31, .eqA false [0, 0, 1, 2] (.t 27) (.t 30), none⟩,
⟨some 2, .mov (.t 31), none⟩]
[2])
.ret)
.skip))))))))
(.seq (.reg [⟨some 2, .mov (.k (.bool false)), none⟩]
[2])
.ret)))⟩
theorem k_value_Right : chkF Tryz.prog Tryz.f120 c_value_Right = true := by kernel_rfl
theorem pc_value_Right {G : Nat → Option AV} {args : List AV} {r : AV} (h : Runs Tryz.prog G c_value_Right args r) (hk : args.length = c_value_Right.k := by rfl) : PureC Tryz.prog G n_value_Right args r := PureC.of_runs (fn := Tryz.f120) (A := c_value_Right) Tryz.func120 k_value_Right hk h
def c_value_Str : AFun := ⟨5, 1, [.cells 2 4],
  (.seq (.reg [⟨some 2, .alloc t_api_Value 4 (.agg [.int .i64 0, .int .i64 0, .str [], .bool false]), none⟩]
[0, 2])
(.seq (.reg [⟨some 3, .mov (.t 0), none⟩,
⟨some 4, .build [.int .i64 0, .int .i64 0, .str [], .bool false] [(0, 1, .k (.int .i64 2)), (2, 1, .t 3)], none⟩,
⟨none, .store (.t 2) (.t 4) 4, none⟩]
[2])
.ret))⟩
theorem k_value_Str : chkF Tryz.prog Tryz.f179 c_value_Str = true := by kernel_rfl
theorem pc_value_Str {G : Nat → Option AV} {args : List AV} {r : AV} (h : Runs Tryz.prog G c_value_Str args r) (hk : args.length = c_value_Str.k := by rfl) : PureC Tryz.prog G n_value_Str args r := PureC.of_runs (fn := Tryz.f179) (A := c_value_Str) Tryz.func179 k_value_Str hk h
def c_value_Text : AFun := ⟨24, 1, [.t 2],
  (.seq (.reg [⟨some 1, .box t_api_Value 4 (.t 0), none⟩,
⟨some 2, .mov (.k (.str [])), none⟩]
[1])
(.seq (.block 0
(.seq (.reg [⟨some 4, .loadN (.t 1) 4, none⟩,
⟨some 5, .call n_value_Right [.t 4], none⟩,
⟨some 6, .un .not (.t 5), none⟩,
⟨some 3, .mov (.t 6), none⟩]
[1, 3])
(.cond (.t 3)
(.seq (.reg [⟨some 2, .mov (.k (.str [])), none⟩]
[2])
.ret)
(.seq (.reg [⟨some 8, .faddr (.t 1) 0, none⟩,
⟨some 9, .load (.t 8), none⟩,
⟨some 10, .bin .eql (.t 9) (.k (.int .i64 1)), none⟩,
⟨some 7, .mov (.t 10), none⟩]
[1, 7])
(.cond (.t 7)
(.seq (.reg [⟨some 11, .faddr (.t 1) 1, none⟩,
⟨some 12, .load (.t 11), none⟩,
⟨some 13, .call n_num_Text [.t 12], none⟩,
⟨some 2, .mov (.t 13), none⟩]
[2])
.ret)
(.seq (.reg [⟨some 15, .faddr (.t 1) 0, none⟩,
⟨some 16, .load (.t 15), none⟩,
⟨some 17, .bin .eql (.t 16) (.k (.int .i64 2)), none⟩,
⟨some 14, .mov (.t 17), none⟩]
[1, 14])
(.cond (.t 14)
(.seq (.reg [⟨some 18, .faddr (.t 1) 2, none⟩,
⟨some 19, .load (.t 18), none⟩,
⟨some 20, .call n_quote_Quote [.t 19], none⟩,
⟨some 2, .mov (.t 20), none⟩]
[2])
.ret)
(.seq (.reg [⟨some 22, .faddr (.t 1) 3, none⟩,
⟨some 23, .load (.t 22), none⟩,
⟨some 21, .mov (.t 23), none⟩]
[21])
(.cond (.t 21)
(.seq (.reg [⟨some 2, .mov (.k (.str [116, 114, 117, 101])), none⟩]
[2])
.ret)
.skip)))))))))
(.seq (.reg [⟨some 2, .mov (.k (.str [102, 97, 108, 115, 101])), none⟩]
[2])
.ret)))⟩
theorem k_value_Text : chkF Tryz.prog Tryz.f63 c_value_Text = true := by kernel_rfl
theorem pc_value_Text {G : Nat → Option AV} {args : List AV} {r : AV} (h : Runs Tryz.prog G c_value_Text args r) (hk : args.length = c_value_Text.k := by rfl) : PureC Tryz.prog G n_value_Text args r := PureC.of_runs (fn := Tryz.f63) (A := c_value_Text) Tryz.func63 k_value_Text hk h
def c_slices_CompactFunc_api_Config_api_Config : AFun := ⟨66, 2, [.t 4],
  (.seq (.reg [⟨some 4, .nilrow t_api_Config 2, none⟩]
[0, 1])
(.seq (.seq (.reg [⟨some 8, .mov (.t 0), none⟩,
⟨some 9, .len false (.t 8), none⟩,
⟨some 10, .bin .lss (.t 9) (.k (.int .i64 2)), none⟩]
[0, 1, 10])
(.cond (.t 10)
(.seq (.reg [⟨some 11, .mov (.t 0), none⟩,
⟨some 4, .mov (.t 11), none⟩]
[4])
.ret)
.skip))
(.seq (.seq (.reg [⟨some 5, .mov (.k (.int .i64 1)), none⟩]
[0, 1, 5])
(.block 0
(.loop [0, 1, 5] [4, 9]
  (.seq (.seq (.reg [⟨some 12, .mov (.t 5), none⟩,
⟨some 13, .mov (.t 0), none⟩,
⟨some 14, .len false (.t 13), none⟩,
⟨some 15, .bin .lss (.t 12) (.t 14), none⟩]
[0, 1, 5, 15])
(.cond (.t 15)
.skip
(.exit 0)))
(.seq (.block 1
(.seq (.dreg [⟨some 18, .mov (.t 1), none⟩,
⟨some 19, .mov (.t 0), none⟩,
⟨some 20, .mov (.t 5), none⟩,
⟨some 21, .iaddr 2 (.t 19) (.t 20), none⟩,
⟨some 22, .loadN (.t 21) 2, none⟩,
⟨some 23, .mov (.t 0), none⟩,
⟨some 24, .mov (.t 5), none⟩,
⟨some 25, .bin .sub (.t 24) (.k (.int .i64 1)), none⟩,
⟨some 26, .iaddr 2 (.t 23) (.t 25), none⟩,
⟨some 27, .loadN (.t 26) 2, none⟩,
⟨some 28, .callv (.t 18) [.t 22, .t 27], none⟩]
[0, 1, 5, 28])
(.cond (.t 28)
(.seq (.reg [⟨some 29, .mov (.t 0), none⟩,
⟨some 30, .mov (.t 5), none⟩,
⟨some 31, .slc 2 (.t 29) (some (.t 30)) none, none⟩,
⟨some 6, .mov (.t 31), none⟩]
[0, 1, 5, 6])
(.seq (.seq (.reg [⟨some 7, .mov (.k (.int .i64 1)), none⟩]
[0, 1, 5, 6, 7])
(.block 2
(.loop [0, 1, 5, 6, 7] [4, 9, 14, 28]
  (.seq (.seq (.reg [⟨some 32, .mov (.t 7), none⟩,
⟨some 33, .mov (.t 6), none⟩,
⟨some 34, .len false (.t 33), none⟩,
⟨some 35, .bin .lss (.t 32) (.t 34), none⟩]
[0, 1, 5, 6, 7, 35])
(.cond (.t 35)
.skip
(.exit 2)))
(.seq (.block 3
(.seq (.dreg [⟨some 38, .mov (.t 1), none⟩,
⟨some 39, .mov (.t 6), none⟩,
⟨some 40, .mov (.t 7), none⟩,
⟨some 41, .iaddr 2 (.t 39) (.t 40), none⟩,
⟨some 42, .loadN (.t 41) 2, none⟩,
⟨some 43, .mov (.t 6), none⟩,
⟨some 44, .mov (.t 7), none⟩,
⟨some 45, .bin .sub (.t 44) (.k (.int .i64 1)), none⟩,
⟨some 46, .iaddr 2 (.t 43) (.t 45), none⟩,
⟨some 47, .loadN (.t 46) 2, none⟩,
⟨some 48, .callv (.t 38) [.t 42, .t 47], none⟩,
⟨some 49, .un .not (.t 48), none⟩]
[0, 1, 5, 6, 7, 49])
(.cond (.t 49)
(.seq (.reg [⟨some 50, .mov (.t 0), none⟩,
⟨some 51, .mov (.t 5), none⟩,
⟨some 52, .mov (.t 6), none⟩,
⟨some 53, .mov (.t 7), none⟩,
⟨some 54, .iaddr 2 (.t 52) (.t 53), none⟩,
⟨some 55, .loadN (.t 54) 2, none⟩,
⟨some 56, .iaddr 2 (.t 50) (.t 51), none⟩,
⟨none, .store (.t 56) (.t 55) 2, none⟩]
[0, 1, 5, 6, 7])
(.reg [⟨some 57, .mov (.t 5), none⟩,
⟨some 58, .bin .add (.t 57) (.k (.int .i64 1)), none⟩,
⟨some 5, .mov (.t 58), none⟩]
[0, 1, 5, 6, 7]))
.skip)))
(.reg [⟨some 36, .mov (.t 7), none⟩,
⟨some 37, .bin .add (.t 36) (.k (.int .i64 1)), none⟩,
⟨some 7, .mov (.t 37), none⟩]
[0, 1, 5, 6, 7]))))))
(.seq (.reg [⟨some 59, .mov (.t 0), none⟩,
⟨some 60, .mov (.t 5), none⟩,
⟨some 61, .slc 2 (.t 59) (some (.t 60)) none, none⟩,
⟨none, .clr 2 (.agg [.int .i64 0, .nils]) (.t 61), none⟩]
[0, 5])
(.seq (.reg [⟨some 62, .mov (.t 0), none⟩,
⟨some 63, .mov (.t 5), none⟩,
⟨some 64, .slc 2 (.t 62) none (some (.t 63)), none⟩,
⟨some 4, .mov (.t 64), none⟩]
[4])
.ret))))
.skip)))
(.reg [⟨some 16, .mov (.t 5), none⟩,
⟨some 17, .bin .add (.t 16) (.k (.int .i64 1)), none⟩,
⟨some 5, .mov (.t 17), none⟩]
[0, 1, 5]))))))
(.seq (.reg [⟨some 65, .mov (.t 0), none⟩,
⟨some 4, .mov (.t 65), none⟩]
[4])
.ret))))⟩
theorem k_slices_CompactFunc_api_Config_api_Config : chkF Tryz.prog Tryz.f57 c_slices_CompactFunc_api_Config_api_Config = true := by kernel_rfl
theorem hc_slices_CompactFunc_api_Config_api_Config {G : Nat → Option AV} {args : List AV} {r : AV} {H H1 : List (Nat × Box)} (h : RunsH Tryz.prog G c_slices_CompactFunc_api_Config_api_Config args H r H1) (hk : args.length = c_slices_CompactFunc_api_Config_api_Config.k := by rfl) (hh : highB c_slices_CompactFunc_api_Config_api_Config.N H = true := by rfl) : HeapC Tryz.prog G n_slices_CompactFunc_api_Config_api_Config args H r H1 := HeapC.of_runs (fn := Tryz.f57) (A := c_slices_CompactFunc_api_Config_api_Config) Tryz.func57 k_slices_CompactFunc_api_Config_api_Config hk hh h
def c_slices_CompareFunc_api_Value_api_Value_api_Value_api_Value : AFun := ⟨39, 3, [.t 6],
  (.seq (.reg [⟨some 6, .mov (.k (.int .i64 0)), none⟩]
[0, 1, 2])
(.seq (.seq (.reg [⟨some 11, .mov (.t 0), none⟩,
⟨some 12, .len false (.t 11), none⟩,
⟨some 13, .mov (.k (.int .i64 0)), none⟩]
[0, 1, 2, 11, 12, 13])
(.block 0
(.loop [0, 1, 2, 11, 12, 13] [12]
  (.seq (.reg [⟨some 14, .bin .lss (.t 13) (.t 12), none⟩]
[0, 1, 2, 11, 12, 13, 14])
(.seq (.cond (.t 14)
.skip
(.exit 0))
(.seq (.block 1
(.seq (.reg [⟨some 15, .mov (.t 13), none⟩,
⟨some 16, .iaddr 4 (.t 11) (.t 13), none⟩,
⟨some 17, .loadN (.t 16) 4, none⟩,
⟨some 8, .alloc t_api_Value 4 (.agg [.int .i64 0, .int .i64 0, .str [], .bool false]), none⟩,
⟨some 7, .mov (.t 15), none⟩,
⟨none, .store (.t 8) (.t 17) 4, none⟩]
[0, 1, 2, 7, 8, 11, 12, 13])
(.seq (.seq (.reg [⟨some 18, .mov (.t 7), none⟩,
⟨some 19, .mov (.t 1), none⟩,
⟨some 20, .len false (.t 19), none⟩,
⟨some 21, .bin .geq (.t 18) (.t 20), none⟩]
[0, 1, 2, 7, 8, 11, 12, 13, 21])
(.cond (.t 21)
(.seq (.reg [⟨some 6, .mov (.k (.int .i64 1)), none⟩]
[6])
.ret)
.skip))
(.seq (.reg [⟨some 22, .mov (.t 1), none⟩,
⟨some 23, .mov (.t 7), none⟩,
⟨some 24, .iaddr 4 (.t 22) (.t 23), none⟩,
⟨some 25, .loadN (.t 24) 4, none⟩,
⟨some 9, .alloc t_api_Value 4 (.agg [.int .i64 0, .int .i64 0, .str [], .bool false]), none⟩,
⟨none, .store (.t 9) (.t 25) 4, none⟩]
[0, 1, 2, 8, 9, 11, 12, 13])
(.seq (.reg [⟨some 26, .mov (.t 2), none⟩,
⟨some 27, .loadN (.t 8) 4, none⟩,
⟨some 28, .loadN (.t 9) 4, none⟩,
⟨some 29, .callv (.t 26) [.t 27, .t 28], none⟩,
⟨some 10, .mov (.t 29), none⟩]
[0, 1, 2, 10, 11, 12, 13])
(.seq (.reg [⟨some 30, .mov (.t 10), none⟩,
⟨some 31, .bin .neq (.t 30) (.k (.int .i64 0)), none⟩]
[0, 1, 2, 10, 11, 12, 13, 31])
(.cond (.t 31)
(.seq (.reg [⟨some 32, .mov (.t 10), none⟩,
⟨some 6, .mov (.t 32), none⟩]
[6])
.ret)
.skip)))))))
(.reg [⟨some 33, .bin .add (.t 13) (.k (.int .i64 1)), none⟩,
⟨some 13, .mov (.t 33), none⟩]
[0, 1, 2, 11, 12, 13])))))))
(.seq (.seq (.reg [⟨some 34, .mov (.t 0), none⟩,
⟨some 35, .len false (.t 34), none⟩,
⟨some 36, .mov (.t 1), none⟩,
⟨some 37, .len false (.t 36), none⟩,
⟨some 38, .bin .lss (.t 35) (.t 37), none⟩]
[38])
(.cond (.t 38)
(.seq (.reg [⟨some 6, .mov (.k (.int .i64 (-1))), none⟩]
[6])
.ret)
.skip))
(.seq (.reg [⟨some 6, .mov (.k (.int .i64 0)), none⟩]
[6])
.ret))))⟩
theorem k_slices_CompareFunc_api_Value_api_Value_api_Value_api_Value : chkF Tryz.prog Tryz.f115 c_slices_CompareFunc_api_Value_api_Value_api_Value_api_Value = true := by kernel_rfl
theorem pc_slices_CompareFunc_api_Value_api_Value_api_Value_api_Value {G : Nat → Option AV} {args : List AV} {r : AV} (h : Runs Tryz.prog G c_slices_CompareFunc_api_Value_api_Value_api_Value_api_Value args r) (hk : args.length = c_slices_CompareFunc_api_Value_api_Value_api_Value_api_Value.k := by rfl) : PureC Tryz.prog G n_slices_CompareFunc_api_Value_api_Value_api_Value_api_Value args r := PureC.of_runs (fn := Tryz.f115) (A := c_slices_CompareFunc_api_Value_api_Value_api_Value_api_Value) Tryz.func115 k_slices_CompareFunc_api_Value_api_Value_api_Value_api_Value hk h
def c_slices_ContainsFunc_api_Config_api_Config : AFun := ⟨9, 2, [.t 4],
  (.seq (.reg [⟨some 4, .mov (.k (.bool false)), none⟩]
[0, 1])
(.seq (.reg [⟨some 5, .mov (.t 0), none⟩,
⟨some 6, .mov (.t 1), none⟩,
⟨some 7, .call n_slices_IndexFunc_api_Config_api_Config [.t 5, .t 6], none⟩,
⟨some 8, .bin .geq (.t 7) (.k (.int .i64 0)), none⟩,
⟨some 4, .mov (.t 8), none⟩]
[4])
.ret))⟩
theorem k_slices_ContainsFunc_api_Config_api_Config : chkF Tryz.prog Tryz.f60 c_slices_ContainsFunc_api_Config_api_Config = true := by kernel_rfl
theorem pc_slices_ContainsFunc_api_Config_api_Config {G : Nat → Option AV} {args : List AV} {r : AV} (h : Runs Tryz.prog G c_slices_ContainsFunc_api_Config_api_Config args r) (hk : args.length = c_slices_ContainsFunc_api_Config_api_Config.k := by rfl) : PureC Tryz.prog G n_slices_ContainsFunc_api_Config_api_Config args r := PureC.of_runs (fn := Tryz.f60) (A := c_slices_ContainsFunc_api_Config_api_Config) Tryz.func60 k_slices_ContainsFunc_api_Config_api_Config hk h
def c_slices_EqualFunc_api_Value_api_Free_api_Value_api_Free : AFun := ⟨32, 3, [.t 6],
  (.seq (.reg [⟨some 6, .mov (.k (.bool false)), none⟩]
[0, 1, 2])
(.seq (.seq (.reg [⟨some 10, .mov (.t 0), none⟩,
⟨some 11, .len false (.t 10), none⟩,
⟨some 12, .mov (.t 1), none⟩,
⟨some 13, .len false (.t 12), none⟩,
⟨some 14, .bin .neq (.t 11) (.t 13), none⟩]
[0, 1, 2, 14])
(.cond (.t 14)
(.seq (.reg [⟨some 6, .mov (.k (.bool false)), none⟩]
[6])
.ret)
.skip))
(.seq (.seq (.reg [⟨some 15, .mov (.t 0), none⟩,
⟨some 16, .len false (.t 15), none⟩,
⟨some 17, .mov (.k (.int .i64 0)), none⟩]
[1, 2, 15, 16, 17])
(.block 0
(.loop [1, 2, 15, 16, 17] [11, 13, 16]
  (.seq (.reg [⟨some 18, .bin .lss (.t 17) (.t 16), none⟩]
[1, 2, 15, 16, 17, 18])
(.seq (.cond (.t 18)
.skip
(.exit 0))
(.seq (.block 1
(.seq (.reg [⟨some 19, .mov (.t 17), none⟩,
⟨some 20, .iaddr 4 (.t 15) (.t 17), none⟩,
⟨some 21, .loadN (.t 20) 4, none⟩,
⟨some 8, .alloc t_api_Value 4 (.agg [.int .i64 0, .int .i64 0, .str [], .bool false]), none⟩,
⟨some 7, .mov (.t 19), none⟩,
⟨none, .store (.t 8) (.t 21) 4, none⟩]
[1, 2, 7, 8, 15, 16, 17])
(.seq (.reg [⟨some 22, .mov (.t 1), none⟩,
⟨some 23, .mov (.t 7), none⟩,
⟨some 24, .iaddr 5 (.t 22) (.t 23), none⟩,
⟨some 25, .loadN (.t 24) 5, none⟩,
⟨some 9, .alloc t_api_Free 5 (.agg [.str [], .int .i64 0, .int .i64 0, .str [], .bool false]), none⟩,
⟨none, .store (.t 9) (.t 25) 5, none⟩]
[1, 2, 8, 9, 15, 16, 17])
(.seq (.reg [⟨some 26, .mov (.t 2), none⟩,
⟨some 27, .loadN (.t 8) 4, none⟩,
⟨some 28, .loadN (.t 9) 5, none⟩,
⟨some 29, .callv (.t 26) [.t 27, .t 28], none⟩,
⟨some 30, .un .not (.t 29), none⟩]
[1, 2, 15, 16, 17, 30])
(.cond (.t 30)
(.seq (.reg [⟨some 6, .mov (.k (.bool false)), none⟩]
[6])
.ret)
.skip)))))
(.reg [⟨some 31, .bin .add (.t 17) (.k (.int .i64 1)), none⟩,
⟨some 17, .mov (.t 31), none⟩]
[1, 2, 15, 16, 17])))))))
(.seq (.reg [⟨some 6, .mov (.k (.bool true)), none⟩]
[6])
.ret))))⟩
theorem k_slices_EqualFunc_api_Value_api_Free_api_Value_api_Free : chkF Tryz.prog Tryz.f125 c_slices_EqualFunc_api_Value_api_Free_api_Value_api_Free = true := by kernel_rfl
theorem pc_slices_EqualFunc_api_Value_api_Free_api_Value_api_Free {G : Nat → Option AV} {args : List AV} {r : AV} (h : Runs Tryz.prog G c_slices_EqualFunc_api_Value_api_Free_api_Value_api_Free args r) (hk : args.length = c_slices_EqualFunc_api_Value_api_Free_api_Value_api_Free.k := by rfl) : PureC Tryz.prog G n_slices_EqualFunc_api_Value_api_Free_api_Value_api_Free args r := PureC.of_runs (fn := Tryz.f125) (A := c_slices_EqualFunc_api_Value_api_Free_api_Value_api_Free) Tryz.func125 k_slices_EqualFunc_api_Value_api_Free_api_Value_api_Free hk h
def c_slices_Equal_api_Value_api_Value : AFun := ⟨26, 2, [.t 4],
  (.seq (.reg [⟨some 4, .mov (.k (.bool false)), none⟩]
[0, 1])
(.seq (.seq (.reg [⟨some 6, .mov (.t 0), none⟩,
⟨some 7, .len false (.t 6), none⟩,
⟨some 8, .mov (.t 1), none⟩,
⟨some 9, .len false (.t 8), none⟩,
⟨some 10, .bin .neq (.t 7) (.t 9), none⟩]
[0, 1, 10])
(.cond (.t 10)
(.seq (.reg [⟨some 4, .mov (.k (.bool false)), none⟩]
[4])
.ret)
.skip))
(.seq (.seq (.reg [⟨some 11, .mov (.t 0), none⟩,
⟨some 12, .len false (.t 11), none⟩,
⟨some 13, .mov (.k (.int .i64 0)), none⟩]
[0, 1, 12, 13])
(.block 0
(.loop [0, 1, 12, 13] [7, 9, 12]
  (.seq (.reg [⟨some 14, .bin .lss (.t 13) (.t 12), none⟩]
[0, 1, 12, 13, 14])
(.seq (.cond (.t 14)
.skip
(.exit 0))
(.seq (.block 1
(.seq (.reg [⟨some 15, .mov (.t 13), none⟩,
⟨some 5, .mov (.t 15), none⟩]
[0, 1, 5, 12, 13])
(.seq (.dreg [⟨some 16, .mov (.t 0), none⟩,
⟨some 17, .mov (.t 5), none⟩,
⟨some 18, .iaddr 4 (.t 16) (.t 17), none⟩,
⟨some 19, .loadN (.t 18) 4, none⟩,
⟨some 20, .mov (.t 1), none⟩,
⟨some 21, .mov (.t 5), none⟩,
⟨some 22, .iaddr 4 (.t 20) (.t 21), none⟩,
⟨some 23, .loadN (.t 22) 4, none⟩,
⟨some 24, .eqA true [0, 0, 1, 2] (.t 19) (.t 23), none⟩]
[0, 1, 12, 13, 24])
(.cond (.t 24)
(.seq (.reg [⟨some 4, .mov (.k (.bool false)), none⟩]
[4])
.ret)
.skip))))
(.reg [⟨some 25, .bin .add (.t 13) (.k (.int .i64 1)), none⟩,
⟨some 13, .mov (.t 25), none⟩]
[0, 1, 12, 13])))))))
(.seq (.reg [⟨some 4, .mov (.k (.bool true)), none⟩]
[4])
.ret))))⟩
theorem k_slices_Equal_api_Value_api_Value : chkF Tryz.prog Tryz.f118 c_slices_Equal_api_Value_api_Value = true := by kernel_rfl
theorem pc_slices_Equal_api_Value_api_Value {G : Nat → Option AV} {args : List AV} {r : AV} (h : Runs Tryz.prog G c_slices_Equal_api_Value_api_Value args r) (hk : args.length = c_slices_Equal_api_Value_api_Value.k := by rfl) : PureC Tryz.prog G n_slices_Equal_api_Value_api_Value args r := PureC.of_runs (fn := Tryz.f118) (A := c_slices_Equal_api_Value_api_Value) Tryz.func118 k_slices_Equal_api_Value_api_Value hk h
def c_slices_IndexFunc_api_Config_api_Config : AFun := ⟨19, 2, [.t 4],
  (.seq (.reg [⟨some 4, .mov (.k (.int .i64 0)), none⟩]
[0, 1])
(.seq (.seq (.reg [⟨some 6, .mov (.t 0), none⟩,
⟨some 7, .len false (.t 6), none⟩,
⟨some 8, .mov (.k (.int .i64 0)), none⟩]
[0, 1, 7, 8])
(.block 0
(.loop [0, 1, 7, 8] [7]
  (.seq (.reg [⟨some 9, .bin .lss (.t 8) (.t 7), none⟩]
[0, 1, 7, 8, 9])
(.seq (.cond (.t 9)
.skip
(.exit 0))
(.seq (.block 1
(.seq (.reg [⟨some 10, .mov (.t 8), none⟩,
⟨some 5, .mov (.t 10), none⟩]
[0, 1, 5, 7, 8])
(.seq (.reg [⟨some 11, .mov (.t 1), none⟩,
⟨some 12, .mov (.t 0), none⟩,
⟨some 13, .mov (.t 5), none⟩,
⟨some 14, .iaddr 2 (.t 12) (.t 13), none⟩,
⟨some 15, .loadN (.t 14) 2, none⟩,
⟨some 16, .callv (.t 11) [.t 15], none⟩]
[0, 1, 5, 7, 8, 16])
(.cond (.t 16)
(.seq (.reg [⟨some 17, .mov (.t 5), none⟩,
⟨some 4, .mov (.t 17), none⟩]
[4])
.ret)
.skip))))
(.reg [⟨some 18, .bin .add (.t 8) (.k (.int .i64 1)), none⟩,
⟨some 8, .mov (.t 18), none⟩]
[0, 1, 7, 8])))))))
(.seq (.reg [⟨some 4, .mov (.k (.int .i64 (-1))), none⟩]
[4])
.ret)))⟩
theorem k_slices_IndexFunc_api_Config_api_Config : chkF Tryz.prog Tryz.f119 c_slices_IndexFunc_api_Config_api_Config = true := by kernel_rfl
theorem pc_slices_IndexFunc_api_Config_api_Config {G : Nat → Option AV} {args : List AV} {r : AV} (h : Runs Tryz.prog G c_slices_IndexFunc_api_Config_api_Config args r) (hk : args.length = c_slices_IndexFunc_api_Config_api_Config.k := by rfl) : PureC Tryz.prog G n_slices_IndexFunc_api_Config_api_Config args r := PureC.of_runs (fn := Tryz.f119) (A := c_slices_IndexFunc_api_Config_api_Config) Tryz.func119 k_slices_IndexFunc_api_Config_api_Config hk h
def c_slices_Index_byte_byte : AFun := ⟨19, 2, [.t 4],
  (.seq (.reg [⟨some 4, .mov (.k (.int .i64 0)), none⟩]
[0, 1])
(.seq (.seq (.reg [⟨some 6, .mov (.t 0), none⟩,
⟨some 7, .len false (.t 6), none⟩,
⟨some 8, .mov (.k (.int .i64 0)), none⟩]
[0, 1, 7, 8])
(.block 0
(.loop [0, 1, 7, 8] [7]
  (.seq (.reg [⟨some 9, .bin .lss (.t 8) (.t 7), none⟩]
[0, 1, 7, 8, 9])
(.seq (.cond (.t 9)
.skip
(.exit 0))
(.seq (.block 1
(.seq (.reg [⟨some 10, .mov (.t 8), none⟩,
⟨some 5, .mov (.t 10), none⟩]
[0, 1, 5, 7, 8])
(.seq (.reg [⟨some 11, .mov (.t 1), none⟩,
⟨some 12, .mov (.t 0), none⟩,
⟨some 13, .mov (.t 5), none⟩,
⟨some 14, .iaddr 1 (.t 12) (.t 13), none⟩,
⟨some 15, .load (.t 14), none⟩,
⟨some 16, .bin .eql (.t 11) (.t 15), none⟩]
[0, 1, 5, 7, 8, 16])
(.cond (.t 16)
(.seq (.reg [⟨some 17, .mov (.t 5), none⟩,
⟨some 4, .mov (.t 17), none⟩]
[4])
.ret)
.skip))))
(.reg [⟨some 18, .bin .add (.t 8) (.k (.int .i64 1)), none⟩,
⟨some 8, .mov (.t 18), none⟩]
[0, 1, 7, 8])))))))
(.seq (.reg [⟨some 4, .mov (.k (.int .i64 (-1))), none⟩]
[4])
.ret)))⟩
theorem k_slices_Index_byte_byte : chkF Tryz.prog Tryz.f241 c_slices_Index_byte_byte = true := by kernel_rfl
theorem pc_slices_Index_byte_byte {G : Nat → Option AV} {args : List AV} {r : AV} (h : Runs Tryz.prog G c_slices_Index_byte_byte args r) (hk : args.length = c_slices_Index_byte_byte.k := by rfl) : PureC Tryz.prog G n_slices_Index_byte_byte args r := PureC.of_runs (fn := Tryz.f241) (A := c_slices_Index_byte_byte) Tryz.func241 k_slices_Index_byte_byte hk h
end Go.Proofs.YtjbcfpkibnhodaaGreatDoor.Ab
