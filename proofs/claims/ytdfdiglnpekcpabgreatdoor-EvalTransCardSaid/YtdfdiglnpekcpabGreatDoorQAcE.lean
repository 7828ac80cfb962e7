/-
  The functions' abstract code, by program (acgen.py), and that the model's code is it, reckoned by the kernel. No claim is proved here.
-/
import Derived.Test.YtdfdiglnpekcpabGreatDoorQAcR
import Derived.Test.YtdfdiglnpekcpabGreatDoorProg
namespace Go.Proofs.YtdfdiglnpekcpabGreatDoor.Ab
open Go
abbrev t_api_Slot : Nat := 121
abbrev t_eval_frame : Nat := 138
abbrev n_slices_Clone_api_Value_api_Value : Nat := 61
abbrev n_proctorlaw16_EvalTrans : Nat := 5
abbrev n_proctorref05_Right : Nat := 23
abbrev n_proctorlaw16_small : Nat := 29
abbrev n_proctorlaw16_awake : Nat := 30
abbrev n_eval_Guard : Nat := 31
abbrev n_eval_Sets : Nat := 32
abbrev n_proctorref16_Fits : Nat := 33
abbrev n_proctorref16_Guard : Nat := 34
abbrev n_proctorref16_Sets : Nat := 35
abbrev n_proctorlaw16_same : Nat := 36
abbrev n_eval_Value : Nat := 57
abbrev n_eval_Fits : Nat := 58
abbrev n_eval_frame_run : Nat := 59
abbrev n_eval_errno : Nat := 60
abbrev n_proctorref16_Value : Nat := 62
abbrev n_proctorref05_Get : Nat := 82
abbrev n_core_Kind : Nat := 87
abbrev n_slices_EqualFunc_api_Value_api_Free_api_Value_api_Free : Nat := 88
abbrev n_eval_Fits_1 : Nat := 89
abbrev n_eval_frame_node : Nat := 92
abbrev n_eval_frame_quant : Nat := 145
abbrev n_eval_must : Nat := 146
abbrev n_value_Op : Nat := 147
abbrev n_binding_Get : Nat := 175
abbrev n_value_truth : Nat := 176
abbrev n_value_Less : Nat := 177
abbrev n_value_text : Nat := 178
abbrev n_num_Op : Nat := 179
abbrev n_num_Sub : Nat := 199
abbrev n_num_Add : Nat := 200
abbrev n_num_Mul : Nat := 201
abbrev n_num_Div : Nat := 202
abbrev n_num_Mod : Nat := 203
abbrev n_math_bits_Mul64 : Nat := 212
abbrev n_num_size : Nat := 213
abbrev n_num_Neg : Nat := 214
def c_eval_frame_node : AFun := ⟨98, 2, [.cells 4 4],
  (.seq (.reg [⟨some 2, .box t_eval_frame 11 (.t 0), none⟩,
⟨some 4, .alloc t_api_Value 4 (.agg [.int .i64 0, .int .i64 0, .str [], .bool false]), none⟩]
[1, 2, 4])
(.seq (.reg [⟨some 13, .faddr (.t 2) 0, none⟩,
⟨some 14, .faddr (.t 13) 7, none⟩,
⟨some 15, .load (.t 14), none⟩,
⟨some 16, .mov (.t 1), none⟩,
⟨some 17, .iaddr 7 (.t 15) (.t 16), none⟩,
⟨some 18, .loadN (.t 17) 7, none⟩,
⟨some 5, .alloc t_api_Node 7 (.agg [.int .i64 0, .int .i64 0, .int .i64 0, .int .i64 0, .int .i64 0, .str [], .bool false]), none⟩,
⟨none, .store (.t 5) (.t 18) 7, none⟩]
[1, 2, 4, 5])
(.seq (.seq (.reg [⟨some 19, .faddr (.t 5) 0, none⟩,
⟨some 20, .load (.t 19), none⟩]
[1, 2, 4, 5, 20])
(.block 0
(.seq (.reg [⟨some 22, .bin .eql (.t 20) (.k (.int .i64 1)), none⟩,
⟨some 21, .mov (.t 22), none⟩]
[1, 2, 4, 5, 20, 21])
(.cond (.t 21)
(.seq (.reg [⟨some 23, .faddr (.t 5) 3, none⟩,
⟨some 24, .loadN (.t 23) 4, none⟩,
⟨none, .store (.t 4) (.t 24) 4, none⟩]
[4])
.ret)
(.seq (.reg [⟨some 26, .bin .eql (.t 20) (.k (.int .i64 2)), none⟩,
⟨some 25, .mov (.t 26), none⟩]
[1, 2, 4, 5, 20, 25])
(.cond (.t 25)
(.seq (.reg [⟨some 28, .loadN (.t 2) 11, none⟩,
⟨some 29, .faddr (.t 5) 1, none⟩,
⟨some 30, .load (.t 29), none⟩,
⟨some 31, .call n_eval_frame_quant [.t 28, .t 30], none⟩,
⟨some 27, .mov (.t 31), none⟩,
⟨some 32, .ext (.t 27) 0, none⟩,
⟨some 33, .ext (.t 27) 1, none⟩,
⟨some 6, .alloc t_api_Value 4 (.agg [.int .i64 0, .int .i64 0, .str [], .bool false]), none⟩,
⟨none, .store (.t 6) (.t 32) 4, none⟩,
⟨some 7, .mov (.t 33), none⟩]
[1, 4, 6, 7])
(.seq (.reg [⟨some 34, .mov (.t 1), none⟩,
⟨some 35, .loadN (.t 6) 4, none⟩,
⟨some 36, .mov (.t 7), none⟩,
⟨some 37, .call n_eval_must [.t 34, .t 35, .t 36], none⟩,
⟨none, .store (.t 4) (.t 37) 4, none⟩]
[4])
.ret))
(.seq (.reg [⟨some 39, .bin .eql (.t 20) (.k (.int .i64 3)), none⟩,
⟨some 38, .mov (.t 39), none⟩]
[1, 2, 4, 5, 38])
(.cond (.t 38)
(.seq (.reg [⟨some 40, .faddr (.t 2) 10, none⟩,
⟨some 41, .load (.t 40), none⟩,
⟨some 42, .faddr (.t 5) 1, none⟩,
⟨some 43, .load (.t 42), none⟩,
⟨some 44, .iaddr 4 (.t 41) (.t 43), none⟩,
⟨some 45, .loadN (.t 44) 4, none⟩,
⟨none, .store (.t 4) (.t 45) 4, none⟩]
[4])
.ret)
.skip))))))))
(.seq (.reg [⟨some 46, .loadN (.t 2) 11, none⟩,
⟨some 47, .faddr (.t 5) 1, none⟩,
⟨some 48, .load (.t 47), none⟩,
⟨some 49, .call n_eval_frame_node [.t 46, .t 48], none⟩,
⟨some 8, .alloc t_api_Value 4 (.agg [.int .i64 0, .int .i64 0, .str [], .bool false]), none⟩,
⟨none, .store (.t 8) (.t 49) 4, none⟩]
[1, 2, 4, 5, 8])
(.seq (.block 1
(.seq (.reg [⟨some 51, .faddr (.t 5) 0, none⟩,
⟨some 52, .load (.t 51), none⟩,
⟨some 53, .bin .leq (.t 52) (.k (.int .i64 5)), none⟩,
⟨some 50, .mov (.t 53), none⟩]
[1, 2, 4, 5, 8, 50])
(.cond (.t 50)
(.seq (.reg [⟨some 55, .faddr (.t 5) 0, none⟩,
⟨some 56, .load (.t 55), none⟩,
⟨some 57, .loadN (.t 8) 4, none⟩,
⟨some 58, .build [.int .i64 0, .int .i64 0, .str [], .bool false] [], none⟩,
⟨some 59, .call n_value_Op [.t 56, .t 57, .t 58], none⟩,
⟨some 54, .mov (.t 59), none⟩,
⟨some 60, .ext (.t 54) 0, none⟩,
⟨some 61, .ext (.t 54) 1, none⟩,
⟨some 9, .alloc t_api_Value 4 (.agg [.int .i64 0, .int .i64 0, .str [], .bool false]), none⟩,
⟨none, .store (.t 9) (.t 60) 4, none⟩,
⟨some 10, .mov (.t 61), none⟩]
[1, 4, 9, 10])
(.seq (.reg [⟨some 62, .mov (.t 1), none⟩,
⟨some 63, .loadN (.t 9) 4, none⟩,
⟨some 64, .mov (.t 10), none⟩,
⟨some 65, .call n_eval_must [.t 62, .t 63, .t 64], none⟩,
⟨none, .store (.t 4) (.t 65) 4, none⟩]
[4])
.ret))
(.seq (.seq (.reg [⟨some 67, .faddr (.t 5) 0, none⟩,
⟨some 68, .load (.t 67), none⟩,
⟨some 69, .bin .eql (.t 68) (.k (.int .i64 6)), none⟩,
⟨some 70, .mov (.t 69), none⟩,
⟨some 71, .faddr (.t 8) 3, (some (70, true))⟩,
⟨some 72, .load (.t 71), (some (70, true))⟩,
⟨some 73, .un .not (.t 72), (some (70, true))⟩,
⟨some 74, .pick (.t 70) (.t 73) (.k (.bool false)), none⟩,
⟨some 66, .mov (.t 74), none⟩]
[1, 2, 4, 5, 8, 66])
(.cond (.t 66)
.skip
(.reg [⟨some 75, .faddr (.t 5) 0, none⟩,
⟨some 76, .load (.t 75), none⟩,
⟨some 77, .bin .eql (.t 76) (.k (.int .i64 7)), none⟩,
⟨some 78, .mov (.t 77), none⟩,
⟨some 79, .faddr (.t 8) 3, (some (78, true))⟩,
⟨some 80, .load (.t 79), (some (78, true))⟩,
⟨some 81, .pick (.t 78) (.t 80) (.k (.bool false)), none⟩,
⟨some 66, .mov (.t 81), none⟩]
[1, 2, 4, 5, 8, 66])))
(.cond (.t 66)
(.seq (.reg [⟨some 82, .loadN (.t 8) 4, none⟩,
⟨none, .store (.t 4) (.t 82) 4, none⟩]
[4])
.ret)
.skip)))))
(.seq (.dregA [⟨some 84, .faddr (.t 5) 0, none⟩,
⟨some 85, .load (.t 84), none⟩,
⟨some 86, .loadN (.t 8) 4, none⟩,
⟨some 87, .loadN (.t 2) 11, none⟩,
⟨some 88, .faddr (.t 5) 2, none⟩,
⟨some 89, .load (.t 88), none⟩,
⟨some 90, .call n_eval_frame_node [.t 87, .t 89], none⟩,
⟨some 91, .call n_value_Op [.t 85, .t 86, .t 90], none⟩,
⟨some 83, .mov (.t 91), none⟩,
⟨some 92, .ext (.t 83) 0, none⟩,
⟨some 93, .ext (.t 83) 1, none⟩,
⟨some 11, .alloc t_api_Value 4 (.agg [.int .i64 0, .int .i64 0, .str [], .bool false]), none⟩,
⟨none, .store (.t 11) (.t 92) 4, none⟩,
⟨some 12, .mov (.t 93), none⟩] 11 12 [1, 4, 11, 12, 83, 84, 85, 86, 87, 88, 89, 90, 91, 92, 93]
[1, 4, 11, 12])
(.seq (.reg [⟨some 94, .mov (.t 1), none⟩,
⟨some 95, .loadN (.t 11) 4, none⟩,
⟨some 96, .mov (.t 12), none⟩,
⟨some 97, .call n_eval_must [.t 94, .t 95, .t 96], none⟩,
⟨none, .store (.t 4) (.t 97) 4, none⟩]
[4])
.ret)))))))⟩
theorem k_eval_frame_node : chkF Go.Proofs.Tryz.prog Go.Proofs.Tryz.f92 c_eval_frame_node = true := by kernel_rfl
theorem pc_eval_frame_node {G : Nat → Option AV} {args : List AV} {r : AV} (h : Runs Go.Proofs.Tryz.prog G c_eval_frame_node args r) (hk : args.length = c_eval_frame_node.k := by rfl) : PureC Go.Proofs.Tryz.prog G n_eval_frame_node args r := PureC.of_runs (fn := Go.Proofs.Tryz.f92) (A := c_eval_frame_node) Go.Proofs.Tryz.func92 k_eval_frame_node hk h
def c_eval_frame_quant : AFun := ⟨31, 2, [.cells 4 4, .t 5],
  (.seq (.reg [⟨some 2, .box t_eval_frame 11 (.t 0), none⟩,
⟨some 4, .alloc t_api_Value 4 (.agg [.int .i64 0, .int .i64 0, .str [], .bool false]), none⟩,
⟨some 5, .mov (.k (.int .i64 0)), none⟩]
[1, 2, 4])
(.seq (.reg [⟨some 9, .faddr (.t 2) 9, none⟩,
⟨some 10, .load (.t 9), none⟩,
⟨some 11, .mov (.t 1), none⟩,
⟨some 12, .call n_binding_Get [.t 10, .t 11], none⟩,
⟨some 8, .mov (.t 12), none⟩,
⟨some 13, .ext (.t 8) 0, none⟩,
⟨some 14, .ext (.t 8) 1, none⟩,
⟨some 6, .alloc t_api_Value 4 (.agg [.int .i64 0, .int .i64 0, .str [], .bool false]), none⟩,
⟨none, .store (.t 6) (.t 13) 4, none⟩,
⟨some 7, .mov (.t 14), none⟩]
[1, 2, 4, 6, 7])
(.seq (.seq (.dreg [⟨some 15, .mov (.t 7), none⟩,
⟨some 16, .un .not (.t 15), none⟩,
⟨some 17, .mov (.t 16), none⟩,
⟨some 18, .faddr (.t 6) 0, (some (17, false))⟩,
⟨some 19, .load (.t 18), (some (17, false))⟩,
⟨some 20, .faddr (.t 2) 0, (some (17, false))⟩,
⟨some 21, .faddr (.t 20) 2, (some (17, false))⟩,
⟨some 22, .load (.t 21), (some (17, false))⟩,
⟨some 23, .mov (.t 1), (some (17, false))⟩,
⟨some 24, .iaddr 3 (.t 22) (.t 23), (some (17, false))⟩,
⟨some 25, .faddr (.t 24) 2, (some (17, false))⟩,
⟨some 26, .load (.t 25), (some (17, false))⟩,
⟨some 27, .bin .neq (.t 19) (.t 26), (some (17, false))⟩,
⟨some 28, .pick (.t 17) (.k (.bool true)) (.t 27), none⟩]
[4, 6, 28])
(.cond (.t 28)
(.seq (.reg [⟨some 29, .build [.int .i64 0, .int .i64 0, .str [], .bool false] [], none⟩,
⟨none, .store (.t 4) (.t 29) 4, none⟩,
⟨some 5, .mov (.k (.int .i64 9)), none⟩]
[4, 5])
.ret)
.skip))
(.seq (.reg [⟨some 30, .loadN (.t 6) 4, none⟩,
⟨none, .store (.t 4) (.t 30) 4, none⟩,
⟨some 5, .mov (.k (.int .i64 0)), none⟩]
[4, 5])
.ret))))⟩
theorem k_eval_frame_quant : chkF Go.Proofs.Tryz.prog Go.Proofs.Tryz.f145 c_eval_frame_quant = true := by kernel_rfl
theorem pc_eval_frame_quant {G : Nat → Option AV} {args : List AV} {r : AV} (h : Runs Go.Proofs.Tryz.prog G c_eval_frame_quant args r) (hk : args.length = c_eval_frame_quant.k := by rfl) : PureC Go.Proofs.Tryz.prog G n_eval_frame_quant args r := PureC.of_runs (fn := Go.Proofs.Tryz.f145) (A := c_eval_frame_quant) Go.Proofs.Tryz.func145 k_eval_frame_quant hk h
def c_binding_Get : AFun := ⟨22, 2, [.cells 4 4, .t 5],
  (.seq (.reg [⟨some 4, .alloc t_api_Value 4 (.agg [.int .i64 0, .int .i64 0, .str [], .bool false]), none⟩,
⟨some 5, .mov (.k (.bool false)), none⟩]
[0, 1, 4])
(.seq (.seq (.reg [⟨some 8, .mov (.t 0), none⟩,
⟨some 9, .len false (.t 8), none⟩,
⟨some 10, .mov (.k (.int .i64 0)), none⟩]
[1, 4, 8, 9, 10])
(.block 0
(.loop [1, 4, 8, 9, 10] [4, 9]
  (.seq (.reg [⟨some 11, .bin .lss (.t 10) (.t 9), none⟩]
[1, 4, 8, 9, 10, 11])
(.seq (.cond (.t 11)
.skip
(.exit 0))
(.seq (.block 1
(.seq (.reg [⟨some 12, .iaddr 5 (.t 8) (.t 10), none⟩,
⟨some 13, .loadN (.t 12) 5, none⟩,
⟨some 7, .alloc t_api_Slot 5 (.agg [.int .i64 0, .int .i64 0, .int .i64 0, .str [], .bool false]), none⟩,
⟨none, .store (.t 7) (.t 13) 5, none⟩]
[1, 4, 7, 8, 9, 10])
(.seq (.reg [⟨some 14, .faddr (.t 7) 0, none⟩,
⟨some 15, .load (.t 14), none⟩,
⟨some 16, .mov (.t 1), none⟩,
⟨some 17, .bin .eql (.t 15) (.t 16), none⟩]
[1, 4, 7, 8, 9, 10, 17])
(.cond (.t 17)
(.seq (.reg [⟨some 18, .faddr (.t 7) 1, none⟩,
⟨some 19, .loadN (.t 18) 4, none⟩,
⟨none, .store (.t 4) (.t 19) 4, none⟩,
⟨some 5, .mov (.k (.bool true)), none⟩]
[4, 5])
.ret)
.skip))))
(.reg [⟨some 20, .bin .add (.t 10) (.k (.int .i64 1)), none⟩,
⟨some 10, .mov (.t 20), none⟩]
[1, 4, 8, 9, 10])))))))
(.seq (.reg [⟨some 21, .build [.int .i64 0, .int .i64 0, .str [], .bool false] [], none⟩,
⟨none, .store (.t 4) (.t 21) 4, none⟩,
⟨some 5, .mov (.k (.bool false)), none⟩]
[4, 5])
.ret)))⟩
theorem k_binding_Get : chkF Go.Proofs.Tryz.prog Go.Proofs.Tryz.f175 c_binding_Get = true := by kernel_rfl
theorem pc_binding_Get {G : Nat → Option AV} {args : List AV} {r : AV} (h : Runs Go.Proofs.Tryz.prog G c_binding_Get args r) (hk : args.length = c_binding_Get.k := by rfl) : PureC Go.Proofs.Tryz.prog G n_binding_Get args r := PureC.of_runs (fn := Go.Proofs.Tryz.f175) (A := c_binding_Get) Go.Proofs.Tryz.func175 k_binding_Get hk h
def c_core_Kind : AFun := ⟨20, 2, [.t 4],
  (.seq (.reg [⟨some 2, .box t_api_Qea 9 (.t 0), none⟩,
⟨some 4, .mov (.k (.int .i64 0)), none⟩]
[1, 2])
(.seq (.seq (.reg [⟨some 5, .mov (.t 1), none⟩,
⟨some 6, .bin .lss (.t 5) (.k (.int .i64 0)), none⟩,
⟨some 7, .mov (.t 6), none⟩,
⟨some 8, .mov (.t 1), (some (7, false))⟩,
⟨some 9, .faddr (.t 2) 7, (some (7, false))⟩,
⟨some 10, .load (.t 9), (some (7, false))⟩,
⟨some 11, .len false (.t 10), (some (7, false))⟩,
⟨some 12, .bin .geq (.t 8) (.t 11), (some (7, false))⟩,
⟨some 13, .pick (.t 7) (.k (.bool true)) (.t 12), none⟩]
[1, 2, 13])
(.cond (.t 13)
(.seq (.reg [⟨some 4, .mov (.k (.int .i64 0)), none⟩]
[4])
.ret)
.skip))
(.seq (.reg [⟨some 14, .loadN (.t 2) 9, none⟩,
⟨some 15, .call n_core_exprs [.t 14], none⟩,
⟨some 16, .mov (.t 1), none⟩,
⟨some 17, .iaddr 3 (.t 15) (.t 16), none⟩,
⟨some 18, .faddr (.t 17) 0, none⟩,
⟨some 19, .load (.t 18), none⟩,
⟨some 4, .mov (.t 19), none⟩]
[4])
.ret)))⟩
theorem k_core_Kind : chkF Go.Proofs.Tryz.prog Go.Proofs.Tryz.f87 c_core_Kind = true := by kernel_rfl
theorem pc_core_Kind {G : Nat → Option AV} {args : List AV} {r : AV} (h : Runs Go.Proofs.Tryz.prog G c_core_Kind args r) (hk : args.length = c_core_Kind.k := by rfl) : PureC Go.Proofs.Tryz.prog G n_core_Kind args r := PureC.of_runs (fn := Go.Proofs.Tryz.f87) (A := c_core_Kind) Go.Proofs.Tryz.func87 k_core_Kind hk h
def c_eval_Fits : AFun := ⟨9, 2, [.t 4],
  (.seq (.reg [⟨some 2, .box t_api_Qea 9 (.t 0), none⟩,
⟨some 4, .mov (.k (.bool false)), none⟩]
[1, 2])
(.seq (.reg [⟨some 5, .mov (.t 1), none⟩,
⟨some 6, .faddr (.t 2) 3, none⟩,
⟨some 7, .load (.t 6), none⟩,
⟨some 8, .call n_slices_EqualFunc_api_Value_api_Free_api_Value_api_Free [.t 5, .t 7, .f n_eval_Fits_1], none⟩,
⟨some 4, .mov (.t 8), none⟩]
[4])
.ret))⟩
theorem k_eval_Fits : chkF Go.Proofs.Tryz.prog Go.Proofs.Tryz.f58 c_eval_Fits = true := by kernel_rfl
theorem pc_eval_Fits {G : Nat → Option AV} {args : List AV} {r : AV} (h : Runs Go.Proofs.Tryz.prog G c_eval_Fits args r) (hk : args.length = c_eval_Fits.k := by rfl) : PureC Go.Proofs.Tryz.prog G n_eval_Fits args r := PureC.of_runs (fn := Go.Proofs.Tryz.f58) (A := c_eval_Fits) Go.Proofs.Tryz.func58 k_eval_Fits hk h
def c_eval_Fits_1 : AFun := ⟨15, 2, [.t 4],
  (.seq (.reg [⟨some 2, .box t_api_Value 4 (.t 0), none⟩,
⟨some 3, .box t_api_Free 5 (.t 1), none⟩,
⟨some 4, .mov (.k (.bool false)), none⟩]
[2, 3])
(.seq (.reg [⟨some 5, .loadN (.t 2) 4, none⟩,
⟨some 6, .call n_value_Right [.t 5], none⟩,
⟨some 7, .mov (.t 6), none⟩,
⟨some 8, .faddr (.t 2) 0, (some (7, true))⟩,
⟨some 9, .load (.t 8), (some (7, true))⟩,
⟨some 10, .faddr (.t 3) 1, (some (7, true))⟩,
⟨some 11, .faddr (.t 10) 0, (some (7, true))⟩,
⟨some 12, .load (.t 11), (some (7, true))⟩,
⟨some 13, .bin .eql (.t 9) (.t 12), (some (7, true))⟩,
⟨some 14, .pick (.t 7) (.t 13) (.k (.bool false)), none⟩,
⟨some 4, .mov (.t 14), none⟩]
[4])
.ret))⟩
theorem k_eval_Fits_1 : chkF Go.Proofs.Tryz.prog Go.Proofs.Tryz.f89 c_eval_Fits_1 = true := by kernel_rfl
theorem pc_eval_Fits_1 {G : Nat → Option AV} {args : List AV} {r : AV} (h : Runs Go.Proofs.Tryz.prog G c_eval_Fits_1 args r) (hk : args.length = c_eval_Fits_1.k := by rfl) : PureC Go.Proofs.Tryz.prog G n_eval_Fits_1 args r := PureC.of_runs (fn := Go.Proofs.Tryz.f89) (A := c_eval_Fits_1) Go.Proofs.Tryz.func89 k_eval_Fits_1 hk h
def c_eval_Guard : AFun := ⟨54, 4, [.t 8, .t 9],
  (.seq (.reg [⟨some 4, .box t_api_Qea 9 (.t 0), none⟩,
⟨some 8, .mov (.k (.bool false)), none⟩,
⟨some 9, .mov (.k (.int .i64 0)), none⟩]
[1, 2, 3, 4])
(.seq (.block 0
(.seq (.reg [⟨some 13, .mov (.t 1), none⟩,
⟨some 14, .bin .lss (.t 13) (.k (.int .i64 0)), none⟩,
⟨some 15, .mov (.t 14), none⟩,
⟨some 16, .mov (.t 1), (some (15, false))⟩,
⟨some 17, .faddr (.t 4) 8, (some (15, false))⟩,
⟨some 18, .load (.t 17), (some (15, false))⟩,
⟨some 19, .len false (.t 18), (some (15, false))⟩,
⟨some 20, .bin .geq (.t 16) (.t 19), (some (15, false))⟩,
⟨some 21, .pick (.t 15) (.k (.bool true)) (.t 20), none⟩,
⟨some 22, .mov (.t 21), none⟩,
⟨some 23, .loadN (.t 4) 9, (some (22, false))⟩,
⟨some 24, .mov (.t 3), (some (22, false))⟩,
⟨some 25, .call n_eval_Fits [.t 23, .t 24], (some (22, false))⟩,
⟨some 26, .un .not (.t 25), (some (22, false))⟩,
⟨some 27, .pick (.t 22) (.k (.bool true)) (.t 26), none⟩,
⟨some 12, .mov (.t 27), none⟩]
[1, 2, 3, 4, 12])
(.cond (.t 12)
(.seq (.reg [⟨some 8, .mov (.k (.bool false)), none⟩,
⟨some 9, .mov (.k (.int .i64 1)), none⟩]
[8, 9])
.ret)
(.seq (.reg [⟨some 29, .faddr (.t 4) 8, none⟩,
⟨some 30, .load (.t 29), none⟩,
⟨some 31, .mov (.t 1), none⟩,
⟨some 32, .iaddr 5 (.t 30) (.t 31), none⟩,
⟨some 33, .faddr (.t 32) 3, none⟩,
⟨some 34, .load (.t 33), none⟩,
⟨some 35, .bin .lss (.t 34) (.k (.int .i64 0)), none⟩,
⟨some 28, .mov (.t 35), none⟩]
[1, 2, 3, 4, 28])
(.cond (.t 28)
(.seq (.reg [⟨some 8, .mov (.k (.bool true)), none⟩,
⟨some 9, .mov (.k (.int .i64 0)), none⟩]
[8, 9])
.ret)
.skip)))))
(.seq (.dregA [⟨some 37, .loadN (.t 4) 9, none⟩,
⟨some 38, .mov (.t 2), none⟩,
⟨some 39, .mov (.t 3), none⟩,
⟨some 40, .build [.str [], .nils, .nils, .nils, .nils, .int .i64 0, .nils, .nils, .nils, .nils, .nils] [(0, 9, .t 37), (9, 1, .t 38), (10, 1, .t 39)], none⟩,
⟨some 41, .faddr (.t 4) 8, none⟩,
⟨some 42, .load (.t 41), none⟩,
⟨some 43, .mov (.t 1), none⟩,
⟨some 44, .iaddr 5 (.t 42) (.t 43), none⟩,
⟨some 45, .faddr (.t 44) 3, none⟩,
⟨some 46, .load (.t 45), none⟩,
⟨some 47, .call n_eval_frame_run [.t 40, .t 46], none⟩,
⟨some 36, .mov (.t 47), none⟩,
⟨some 48, .ext (.t 36) 0, none⟩,
⟨some 49, .ext (.t 36) 1, none⟩,
⟨some 10, .alloc t_api_Value 4 (.agg [.int .i64 0, .int .i64 0, .str [], .bool false]), none⟩,
⟨none, .store (.t 10) (.t 48) 4, none⟩,
⟨some 11, .mov (.t 49), none⟩] 14 15 [10, 11, 36, 37, 38, 39, 40, 41, 42, 43, 44, 45, 46, 47, 48, 49]
[10, 11])
(.seq (.dreg [⟨some 50, .faddr (.t 10) 3, none⟩,
⟨some 51, .load (.t 50), none⟩,
⟨some 52, .mov (.t 11), none⟩,
⟨some 53, .call n_eval_errno [.t 52], none⟩,
⟨some 8, .mov (.t 51), none⟩,
⟨some 9, .mov (.t 53), none⟩]
[8, 9])
.ret))))⟩
theorem k_eval_Guard : chkF Go.Proofs.Tryz.prog Go.Proofs.Tryz.f31 c_eval_Guard = true := by kernel_rfl
theorem pc_eval_Guard {G : Nat → Option AV} {args : List AV} {r : AV} (h : Runs Go.Proofs.Tryz.prog G c_eval_Guard args r) (hk : args.length = c_eval_Guard.k := by rfl) : PureC Go.Proofs.Tryz.prog G n_eval_Guard args r := PureC.of_runs (fn := Go.Proofs.Tryz.f31) (A := c_eval_Guard) Go.Proofs.Tryz.func31 k_eval_Guard hk h
def c_eval_Value : AFun := ⟨35, 4, [.cells 8 4, .t 9],
  (.seq (.reg [⟨some 4, .box t_api_Qea 9 (.t 0), none⟩,
⟨some 8, .alloc t_api_Value 4 (.agg [.int .i64 0, .int .i64 0, .str [], .bool false]), none⟩,
⟨some 9, .mov (.k (.int .i64 0)), none⟩]
[1, 2, 3, 4, 8])
(.seq (.seq (.reg [⟨some 12, .loadN (.t 4) 9, none⟩,
⟨some 13, .mov (.t 3), none⟩,
⟨some 14, .call n_eval_Fits [.t 12, .t 13], none⟩,
⟨some 15, .un .not (.t 14), none⟩,
⟨some 16, .mov (.t 15), none⟩,
⟨some 17, .loadN (.t 4) 9, (some (16, false))⟩,
⟨some 18, .mov (.t 1), (some (16, false))⟩,
⟨some 19, .call n_core_Kind [.t 17, .t 18], (some (16, false))⟩,
⟨some 20, .bin .eql (.t 19) (.k (.int .i64 0)), (some (16, false))⟩,
⟨some 21, .pick (.t 16) (.k (.bool true)) (.t 20), none⟩]
[1, 2, 3, 4, 8, 21])
(.cond (.t 21)
(.seq (.reg [⟨some 22, .build [.int .i64 0, .int .i64 0, .str [], .bool false] [], none⟩,
⟨none, .store (.t 8) (.t 22) 4, none⟩,
⟨some 9, .mov (.k (.int .i64 1)), none⟩]
[8, 9])
.ret)
.skip))
(.seq (.reg [⟨some 24, .loadN (.t 4) 9, none⟩,
⟨some 25, .mov (.t 2), none⟩,
⟨some 26, .mov (.t 3), none⟩,
⟨some 27, .build [.str [], .nils, .nils, .nils, .nils, .int .i64 0, .nils, .nils, .nils, .nils, .nils] [(0, 9, .t 24), (9, 1, .t 25), (10, 1, .t 26)], none⟩,
⟨some 28, .mov (.t 1), none⟩,
⟨some 29, .call n_eval_frame_run [.t 27, .t 28], none⟩,
⟨some 23, .mov (.t 29), none⟩,
⟨some 30, .ext (.t 23) 0, none⟩,
⟨some 31, .ext (.t 23) 1, none⟩,
⟨some 10, .alloc t_api_Value 4 (.agg [.int .i64 0, .int .i64 0, .str [], .bool false]), none⟩,
⟨none, .store (.t 10) (.t 30) 4, none⟩,
⟨some 11, .mov (.t 31), none⟩]
[8, 10, 11])
(.seq (.dreg [⟨some 32, .loadN (.t 10) 4, none⟩,
⟨some 33, .mov (.t 11), none⟩,
⟨some 34, .call n_eval_errno [.t 33], none⟩,
⟨none, .store (.t 8) (.t 32) 4, none⟩,
⟨some 9, .mov (.t 34), none⟩]
[8, 9])
.ret))))⟩
theorem k_eval_Value : chkF Go.Proofs.Tryz.prog Go.Proofs.Tryz.f57 c_eval_Value = true := by kernel_rfl
theorem pc_eval_Value {G : Nat → Option AV} {args : List AV} {r : AV} (h : Runs Go.Proofs.Tryz.prog G c_eval_Value args r) (hk : args.length = c_eval_Value.k := by rfl) : PureC Go.Proofs.Tryz.prog G n_eval_Value args r := PureC.of_runs (fn := Go.Proofs.Tryz.f57) (A := c_eval_Value) Go.Proofs.Tryz.func57 k_eval_Value hk h
def c_num_Add : AFun := ⟨17, 2, [.t 4, .t 5],
  (.seq (.reg [⟨some 4, .mov (.k (.int .i64 0)), none⟩,
⟨some 5, .mov (.k (.int .i64 0)), none⟩]
[0, 1])
(.seq (.seq (.reg [⟨some 7, .mov (.t 0), none⟩,
⟨some 8, .mov (.t 1), none⟩,
⟨some 9, .bin .add (.t 7) (.t 8), none⟩,
⟨some 6, .mov (.t 9), none⟩]
[0, 1, 6])
(.seq (.reg [⟨some 10, .mov (.t 6), none⟩,
⟨some 11, .mov (.t 0), none⟩,
⟨some 12, .bin .lss (.t 10) (.t 11), none⟩,
⟨some 13, .mov (.t 1), none⟩,
⟨some 14, .bin .lss (.t 13) (.k (.int .i64 0)), none⟩,
⟨some 15, .eqB false (.t 12) (.t 14), none⟩]
[6, 15])
(.cond (.t 15)
(.seq (.reg [⟨some 16, .mov (.t 6), none⟩,
⟨some 4, .mov (.t 16), none⟩,
⟨some 5, .mov (.k (.int .i64 0)), none⟩]
[4, 5])
.ret)
.skip)))
(.seq (.reg [⟨some 4, .mov (.k (.int .i64 0)), none⟩,
⟨some 5, .mov (.k (.int .i64 6)), none⟩]
[4, 5])
.ret)))⟩
theorem k_num_Add : chkF Go.Proofs.Tryz.prog Go.Proofs.Tryz.f200 c_num_Add = true := by kernel_rfl
theorem pc_num_Add {G : Nat → Option AV} {args : List AV} {r : AV} (h : Runs Go.Proofs.Tryz.prog G c_num_Add args r) (hk : args.length = c_num_Add.k := by rfl) : PureC Go.Proofs.Tryz.prog G n_num_Add args r := PureC.of_runs (fn := Go.Proofs.Tryz.f200) (A := c_num_Add) Go.Proofs.Tryz.func200 k_num_Add hk h
def c_num_Div : AFun := ⟨19, 2, [.t 4, .t 5],
  (.seq (.reg [⟨some 4, .mov (.k (.int .i64 0)), none⟩,
⟨some 5, .mov (.k (.int .i64 0)), none⟩]
[0, 1])
(.seq (.block 0
(.seq (.reg [⟨some 7, .mov (.t 1), none⟩,
⟨some 8, .bin .eql (.t 7) (.k (.int .i64 0)), none⟩,
⟨some 6, .mov (.t 8), none⟩]
[0, 1, 6])
(.cond (.t 6)
(.seq (.reg [⟨some 4, .mov (.k (.int .i64 0)), none⟩,
⟨some 5, .mov (.k (.int .i64 7)), none⟩]
[4, 5])
.ret)
(.seq (.reg [⟨some 10, .mov (.t 1), none⟩,
⟨some 11, .bin .eql (.t 10) (.k (.int .i64 (-1))), none⟩,
⟨some 9, .mov (.t 11), none⟩]
[0, 1, 9])
(.cond (.t 9)
(.seq (.reg [⟨some 12, .mov (.t 0), none⟩,
⟨some 13, .call n_num_Neg [.t 12], none⟩,
⟨some 14, .ext (.t 13) 0, none⟩,
⟨some 15, .ext (.t 13) 1, none⟩,
⟨some 4, .mov (.t 14), none⟩,
⟨some 5, .mov (.t 15), none⟩]
[4, 5])
.ret)
.skip)))))
(.seq (.reg [⟨some 16, .mov (.t 0), none⟩,
⟨some 17, .mov (.t 1), none⟩,
⟨some 18, .bin .quo (.t 16) (.t 17), none⟩,
⟨some 4, .mov (.t 18), none⟩,
⟨some 5, .mov (.k (.int .i64 0)), none⟩]
[4, 5])
.ret)))⟩
theorem k_num_Div : chkF Go.Proofs.Tryz.prog Go.Proofs.Tryz.f202 c_num_Div = true := by kernel_rfl
theorem pc_num_Div {G : Nat → Option AV} {args : List AV} {r : AV} (h : Runs Go.Proofs.Tryz.prog G c_num_Div args r) (hk : args.length = c_num_Div.k := by rfl) : PureC Go.Proofs.Tryz.prog G n_num_Div args r := PureC.of_runs (fn := Go.Proofs.Tryz.f202) (A := c_num_Div) Go.Proofs.Tryz.func202 k_num_Div hk h
def c_num_Mod : AFun := ⟨15, 2, [.t 4, .t 5],
  (.seq (.reg [⟨some 4, .mov (.k (.int .i64 0)), none⟩,
⟨some 5, .mov (.k (.int .i64 0)), none⟩]
[0, 1])
(.seq (.block 0
(.seq (.reg [⟨some 7, .mov (.t 1), none⟩,
⟨some 8, .bin .eql (.t 7) (.k (.int .i64 0)), none⟩,
⟨some 6, .mov (.t 8), none⟩]
[0, 1, 6])
(.cond (.t 6)
(.seq (.reg [⟨some 4, .mov (.k (.int .i64 0)), none⟩,
⟨some 5, .mov (.k (.int .i64 7)), none⟩]
[4, 5])
.ret)
(.seq (.reg [⟨some 10, .mov (.t 1), none⟩,
⟨some 11, .bin .eql (.t 10) (.k (.int .i64 (-1))), none⟩,
⟨some 9, .mov (.t 11), none⟩]
[0, 1, 9])
(.cond (.t 9)
(.seq (.reg [⟨some 4, .mov (.k (.int .i64 0)), none⟩,
⟨some 5, .mov (.k (.int .i64 0)), none⟩]
[4, 5])
.ret)
.skip)))))
(.seq (.reg [⟨some 12, .mov (.t 0), none⟩,
⟨some 13, .mov (.t 1), none⟩,
⟨some 14, .bin .rem (.t 12) (.t 13), none⟩,
⟨some 4, .mov (.t 14), none⟩,
⟨some 5, .mov (.k (.int .i64 0)), none⟩]
[4, 5])
.ret)))⟩
theorem k_num_Mod : chkF Go.Proofs.Tryz.prog Go.Proofs.Tryz.f203 c_num_Mod = true := by kernel_rfl
theorem pc_num_Mod {G : Nat → Option AV} {args : List AV} {r : AV} (h : Runs Go.Proofs.Tryz.prog G c_num_Mod args r) (hk : args.length = c_num_Mod.k := by rfl) : PureC Go.Proofs.Tryz.prog G n_num_Mod args r := PureC.of_runs (fn := Go.Proofs.Tryz.f203) (A := c_num_Mod) Go.Proofs.Tryz.func203 k_num_Mod hk h
def c_num_Mul : AFun := ⟨42, 2, [.t 4, .t 5],
  (.seq (.reg [⟨some 4, .mov (.k (.int .i64 0)), none⟩,
⟨some 5, .mov (.k (.int .i64 0)), none⟩]
[0, 1])
(.seq (.reg [⟨some 10, .mov (.t 0), none⟩,
⟨some 11, .call n_num_size [.t 10], none⟩,
⟨some 12, .mov (.t 1), none⟩,
⟨some 13, .call n_num_size [.t 12], none⟩,
⟨some 14, .call n_math_bits_Mul64 [.t 11, .t 13], none⟩,
⟨some 9, .mov (.t 14), none⟩,
⟨some 15, .ext (.t 9) 0, none⟩,
⟨some 16, .ext (.t 9) 1, none⟩,
⟨some 6, .mov (.t 15), none⟩,
⟨some 7, .mov (.t 16), none⟩]
[0, 1, 6, 7])
(.seq (.reg [⟨some 17, .mov (.t 0), none⟩,
⟨some 18, .bin .lss (.t 17) (.k (.int .i64 0)), none⟩,
⟨some 19, .mov (.t 1), none⟩,
⟨some 20, .bin .lss (.t 19) (.k (.int .i64 0)), none⟩,
⟨some 21, .eqB true (.t 18) (.t 20), none⟩,
⟨some 8, .mov (.t 21), none⟩]
[6, 7, 8])
(.seq (.block 0
(.seq (.reg [⟨some 23, .mov (.t 6), none⟩,
⟨some 24, .bin .gtr (.t 23) (.k (.int .u64 0)), none⟩,
⟨some 22, .mov (.t 24), none⟩]
[7, 8, 22])
(.cond (.t 22)
(.seq (.reg [⟨some 4, .mov (.k (.int .i64 0)), none⟩,
⟨some 5, .mov (.k (.int .i64 6)), none⟩]
[4, 5])
.ret)
(.seq (.reg [⟨some 26, .mov (.t 8), none⟩,
⟨some 27, .mov (.t 26), none⟩,
⟨some 28, .mov (.t 7), (some (27, true))⟩,
⟨some 29, .bin .leq (.t 28) (.k (.int .u64 9223372036854775808)), (some (27, true))⟩,
⟨some 30, .pick (.t 27) (.t 29) (.k (.bool false)), none⟩,
⟨some 25, .mov (.t 30), none⟩]
[7, 8, 25])
(.cond (.t 25)
(.seq (.reg [⟨some 31, .mov (.t 7), none⟩,
⟨some 32, .conv .i64 (.t 31), none⟩,
⟨some 33, .un .neg (.t 32), none⟩,
⟨some 4, .mov (.t 33), none⟩,
⟨some 5, .mov (.k (.int .i64 0)), none⟩]
[4, 5])
.ret)
(.seq (.reg [⟨some 35, .mov (.t 8), none⟩,
⟨some 36, .mov (.t 35), none⟩,
⟨some 37, .mov (.t 7), (some (36, false))⟩,
⟨some 38, .bin .gtr (.t 37) (.k (.int .u64 9223372036854775807)), (some (36, false))⟩,
⟨some 39, .pick (.t 36) (.k (.bool true)) (.t 38), none⟩,
⟨some 34, .mov (.t 39), none⟩]
[7, 34])
(.cond (.t 34)
(.seq (.reg [⟨some 4, .mov (.k (.int .i64 0)), none⟩,
⟨some 5, .mov (.k (.int .i64 6)), none⟩]
[4, 5])
.ret)
.skip)))))))
(.seq (.reg [⟨some 40, .mov (.t 7), none⟩,
⟨some 41, .conv .i64 (.t 40), none⟩,
⟨some 4, .mov (.t 41), none⟩,
⟨some 5, .mov (.k (.int .i64 0)), none⟩]
[4, 5])
.ret)))))⟩
theorem k_num_Mul : chkF Go.Proofs.Tryz.prog Go.Proofs.Tryz.f201 c_num_Mul = true := by kernel_rfl
theorem pc_num_Mul {G : Nat → Option AV} {args : List AV} {r : AV} (h : Runs Go.Proofs.Tryz.prog G c_num_Mul args r) (hk : args.length = c_num_Mul.k := by rfl) : PureC Go.Proofs.Tryz.prog G n_num_Mul args r := PureC.of_runs (fn := Go.Proofs.Tryz.f201) (A := c_num_Mul) Go.Proofs.Tryz.func201 k_num_Mul hk h
def c_num_Neg : AFun := ⟨8, 1, [.t 2, .t 3],
  (.seq (.reg [⟨some 2, .mov (.k (.int .i64 0)), none⟩,
⟨some 3, .mov (.k (.int .i64 0)), none⟩]
[0])
(.seq (.reg [⟨some 4, .mov (.t 0), none⟩,
⟨some 5, .call n_num_Sub [.k (.int .i64 0), .t 4], none⟩,
⟨some 6, .ext (.t 5) 0, none⟩,
⟨some 7, .ext (.t 5) 1, none⟩,
⟨some 2, .mov (.t 6), none⟩,
⟨some 3, .mov (.t 7), none⟩]
[2, 3])
.ret))⟩
theorem k_num_Neg : chkF Go.Proofs.Tryz.prog Go.Proofs.Tryz.f214 c_num_Neg = true := by kernel_rfl
theorem pc_num_Neg {G : Nat → Option AV} {args : List AV} {r : AV} (h : Runs Go.Proofs.Tryz.prog G c_num_Neg args r) (hk : args.length = c_num_Neg.k := by rfl) : PureC Go.Proofs.Tryz.prog G n_num_Neg args r := PureC.of_runs (fn := Go.Proofs.Tryz.f214) (A := c_num_Neg) Go.Proofs.Tryz.func214 k_num_Neg hk h
def c_num_Op : AFun := ⟨47, 3, [.t 6, .t 7],
  (.seq (.reg [⟨some 6, .mov (.k (.int .i64 0)), none⟩,
⟨some 7, .mov (.k (.int .i64 0)), none⟩]
[0, 1, 2])
(.seq (.seq (.reg [⟨some 8, .mov (.t 0), none⟩]
[1, 2, 8])
(.block 0
(.seq (.block 6
(.seq (.block 5
(.seq (.block 4
(.seq (.block 3
(.seq (.block 2
(.seq (.block 1
(.seq (.seq (.seq (.reg [⟨some 10, .bin .eql (.t 8) (.k (.int .i64 5)), none⟩,
⟨some 9, .mov (.t 10), none⟩]
[1, 2, 8, 9])
(.cond (.t 9)
(.exit 1)
.skip))
(.seq (.seq (.reg [⟨some 12, .bin .eql (.t 8) (.k (.int .i64 9)), none⟩,
⟨some 11, .mov (.t 12), none⟩]
[1, 2, 8, 11])
(.cond (.t 11)
(.exit 2)
.skip))
(.seq (.seq (.reg [⟨some 14, .bin .eql (.t 8) (.k (.int .i64 8)), none⟩,
⟨some 13, .mov (.t 14), none⟩]
[1, 2, 8, 13])
(.cond (.t 13)
(.exit 3)
.skip))
(.seq (.seq (.reg [⟨some 16, .bin .eql (.t 8) (.k (.int .i64 10)), none⟩,
⟨some 15, .mov (.t 16), none⟩]
[1, 2, 8, 15])
(.cond (.t 15)
(.exit 4)
.skip))
(.seq (.seq (.reg [⟨some 18, .bin .eql (.t 8) (.k (.int .i64 11)), none⟩,
⟨some 17, .mov (.t 18), none⟩]
[1, 2, 8, 17])
(.cond (.t 17)
(.exit 5)
.skip))
(.seq (.reg [⟨some 20, .bin .eql (.t 8) (.k (.int .i64 12)), none⟩,
⟨some 19, .mov (.t 20), none⟩]
[1, 2, 19])
(.cond (.t 19)
(.exit 6)
.skip)))))))
(.exit 0)))
(.reg [⟨some 21, .mov (.t 1), none⟩,
⟨some 1, .mov (.k (.int .i64 0)), none⟩,
⟨some 2, .mov (.t 21), none⟩]
[1, 2])))
(.seq (.seq (.reg [⟨some 22, .mov (.t 1), none⟩,
⟨some 23, .mov (.t 2), none⟩,
⟨some 24, .call n_num_Sub [.t 22, .t 23], none⟩,
⟨some 25, .ext (.t 24) 0, none⟩,
⟨some 26, .ext (.t 24) 1, none⟩,
⟨some 6, .mov (.t 25), none⟩,
⟨some 7, .mov (.t 26), none⟩]
[6, 7])
.ret)
(.exit 0))))
(.seq (.seq (.reg [⟨some 27, .mov (.t 1), none⟩,
⟨some 28, .mov (.t 2), none⟩,
⟨some 29, .call n_num_Add [.t 27, .t 28], none⟩,
⟨some 30, .ext (.t 29) 0, none⟩,
⟨some 31, .ext (.t 29) 1, none⟩,
⟨some 6, .mov (.t 30), none⟩,
⟨some 7, .mov (.t 31), none⟩]
[6, 7])
.ret)
(.exit 0))))
(.seq (.seq (.reg [⟨some 32, .mov (.t 1), none⟩,
⟨some 33, .mov (.t 2), none⟩,
⟨some 34, .call n_num_Mul [.t 32, .t 33], none⟩,
⟨some 35, .ext (.t 34) 0, none⟩,
⟨some 36, .ext (.t 34) 1, none⟩,
⟨some 6, .mov (.t 35), none⟩,
⟨some 7, .mov (.t 36), none⟩]
[6, 7])
.ret)
(.exit 0))))
(.seq (.seq (.reg [⟨some 37, .mov (.t 1), none⟩,
⟨some 38, .mov (.t 2), none⟩,
⟨some 39, .call n_num_Div [.t 37, .t 38], none⟩,
⟨some 40, .ext (.t 39) 0, none⟩,
⟨some 41, .ext (.t 39) 1, none⟩,
⟨some 6, .mov (.t 40), none⟩,
⟨some 7, .mov (.t 41), none⟩]
[6, 7])
.ret)
(.exit 0))))
(.seq (.seq (.reg [⟨some 42, .mov (.t 1), none⟩,
⟨some 43, .mov (.t 2), none⟩,
⟨some 44, .call n_num_Mod [.t 42, .t 43], none⟩,
⟨some 45, .ext (.t 44) 0, none⟩,
⟨some 46, .ext (.t 44) 1, none⟩,
⟨some 6, .mov (.t 45), none⟩,
⟨some 7, .mov (.t 46), none⟩]
[6, 7])
.ret)
(.exit 0)))))
(.seq (.reg [⟨some 6, .mov (.k (.int .i64 0)), none⟩,
⟨some 7, .mov (.k (.int .i64 1)), none⟩]
[6, 7])
.ret)))⟩
theorem k_num_Op : chkF Go.Proofs.Tryz.prog Go.Proofs.Tryz.f179 c_num_Op = true := by kernel_rfl
theorem pc_num_Op {G : Nat → Option AV} {args : List AV} {r : AV} (h : Runs Go.Proofs.Tryz.prog G c_num_Op args r) (hk : args.length = c_num_Op.k := by rfl) : PureC Go.Proofs.Tryz.prog G n_num_Op args r := PureC.of_runs (fn := Go.Proofs.Tryz.f179) (A := c_num_Op) Go.Proofs.Tryz.func179 k_num_Op hk h
def c_num_Sub : AFun := ⟨17, 2, [.t 4, .t 5],
  (.seq (.reg [⟨some 4, .mov (.k (.int .i64 0)), none⟩,
⟨some 5, .mov (.k (.int .i64 0)), none⟩]
[0, 1])
(.seq (.seq (.reg [⟨some 7, .mov (.t 0), none⟩,
⟨some 8, .mov (.t 1), none⟩,
⟨some 9, .bin .sub (.t 7) (.t 8), none⟩,
⟨some 6, .mov (.t 9), none⟩]
[0, 1, 6])
(.seq (.reg [⟨some 10, .mov (.t 6), none⟩,
⟨some 11, .mov (.t 0), none⟩,
⟨some 12, .bin .gtr (.t 10) (.t 11), none⟩,
⟨some 13, .mov (.t 1), none⟩,
⟨some 14, .bin .lss (.t 13) (.k (.int .i64 0)), none⟩,
⟨some 15, .eqB false (.t 12) (.t 14), none⟩]
[6, 15])
(.cond (.t 15)
(.seq (.reg [⟨some 16, .mov (.t 6), none⟩,
⟨some 4, .mov (.t 16), none⟩,
⟨some 5, .mov (.k (.int .i64 0)), none⟩]
[4, 5])
.ret)
.skip)))
(.seq (.reg [⟨some 4, .mov (.k (.int .i64 0)), none⟩,
⟨some 5, .mov (.k (.int .i64 6)), none⟩]
[4, 5])
.ret)))⟩
theorem k_num_Sub : chkF Go.Proofs.Tryz.prog Go.Proofs.Tryz.f199 c_num_Sub = true := by kernel_rfl
theorem pc_num_Sub {G : Nat → Option AV} {args : List AV} {r : AV} (h : Runs Go.Proofs.Tryz.prog G c_num_Sub args r) (hk : args.length = c_num_Sub.k := by rfl) : PureC Go.Proofs.Tryz.prog G n_num_Sub args r := PureC.of_runs (fn := Go.Proofs.Tryz.f199) (A := c_num_Sub) Go.Proofs.Tryz.func199 k_num_Sub hk h
def c_num_size : AFun := ⟨10, 1, [.t 2],
  (.seq (.reg [⟨some 2, .mov (.k (.int .u64 0)), none⟩]
[0])
(.seq (.seq (.reg [⟨some 3, .mov (.t 0), none⟩,
⟨some 4, .bin .lss (.t 3) (.k (.int .i64 0)), none⟩]
[0, 4])
(.cond (.t 4)
(.seq (.reg [⟨some 5, .mov (.t 0), none⟩,
⟨some 6, .conv .u64 (.t 5), none⟩,
⟨some 7, .un .neg (.t 6), none⟩,
⟨some 2, .mov (.t 7), none⟩]
[2])
.ret)
.skip))
(.seq (.reg [⟨some 8, .mov (.t 0), none⟩,
⟨some 9, .conv .u64 (.t 8), none⟩,
⟨some 2, .mov (.t 9), none⟩]
[2])
.ret)))⟩
theorem k_num_size : chkF Go.Proofs.Tryz.prog Go.Proofs.Tryz.f213 c_num_size = true := by kernel_rfl
theorem pc_num_size {G : Nat → Option AV} {args : List AV} {r : AV} (h : Runs Go.Proofs.Tryz.prog G c_num_size args r) (hk : args.length = c_num_size.k := by rfl) : PureC Go.Proofs.Tryz.prog G n_num_size args r := PureC.of_runs (fn := Go.Proofs.Tryz.f213) (A := c_num_size) Go.Proofs.Tryz.func213 k_num_size hk h
def c_proctorlaw16_EvalTrans : AFun := ⟨109, 4, [.t 8],
  (.seq (.reg [⟨some 4, .box t_api_Qea 9 (.t 0), none⟩,
⟨some 8, .mov (.k (.bool false)), none⟩]
[1, 2, 3, 4])
(.seq (.seq (.reg [⟨some 17, .loadN (.t 4) 9, none⟩,
⟨some 18, .mov (.t 2), none⟩,
⟨some 19, .mov (.t 3), none⟩,
⟨some 20, .call n_proctorlaw16_small [.t 17, .t 18, .t 19], none⟩,
⟨some 21, .un .not (.t 20), none⟩]
[1, 2, 3, 4, 21])
(.cond (.t 21)
(.seq (.reg [⟨some 22, .call n_proctorlaw16_awake [], none⟩,
⟨some 8, .mov (.t 22), none⟩]
[8])
.ret)
.skip))
(.seq (.reg [⟨some 24, .loadN (.t 4) 9, none⟩,
⟨some 25, .mov (.t 1), none⟩,
⟨some 26, .mov (.t 2), none⟩,
⟨some 27, .mov (.t 3), none⟩,
⟨some 28, .call n_eval_Guard [.t 24, .t 25, .t 26, .t 27], none⟩,
⟨some 23, .mov (.t 28), none⟩,
⟨some 29, .ext (.t 23) 0, none⟩,
⟨some 30, .ext (.t 23) 1, none⟩,
⟨some 9, .mov (.t 29), none⟩,
⟨some 10, .mov (.t 30), none⟩]
[1, 2, 3, 4, 9, 10])
(.seq (.reg [⟨some 32, .loadN (.t 4) 9, none⟩,
⟨some 33, .mov (.t 1), none⟩,
⟨some 34, .mov (.t 2), none⟩,
⟨some 35, .mov (.t 3), none⟩,
⟨some 36, .call n_eval_Sets [.t 32, .t 33, .t 34, .t 35], none⟩,
⟨some 31, .mov (.t 36), none⟩,
⟨some 37, .ext (.t 31) 0, none⟩,
⟨some 38, .ext (.t 31) 1, none⟩,
⟨some 11, .mov (.t 37), none⟩,
⟨some 12, .mov (.t 38), none⟩]
[1, 2, 3, 4, 9, 10, 11, 12])
(.seq (.seq (.reg [⟨some 39, .mov (.t 1), none⟩,
⟨some 40, .bin .lss (.t 39) (.k (.int .i64 0)), none⟩,
⟨some 41, .mov (.t 40), none⟩,
⟨some 42, .mov (.t 1), (some (41, false))⟩,
⟨some 43, .faddr (.t 4) 8, (some (41, false))⟩,
⟨some 44, .load (.t 43), (some (41, false))⟩,
⟨some 45, .len false (.t 44), (some (41, false))⟩,
⟨some 46, .bin .geq (.t 42) (.t 45), (some (41, false))⟩,
⟨some 47, .pick (.t 41) (.k (.bool true)) (.t 46), none⟩,
⟨some 48, .mov (.t 47), none⟩,
⟨some 49, .loadN (.t 4) 9, (some (48, false))⟩,
⟨some 50, .mov (.t 3), (some (48, false))⟩,
⟨some 51, .call n_proctorref16_Fits [.t 49, .t 50], (some (48, false))⟩,
⟨some 52, .un .not (.t 51), (some (48, false))⟩,
⟨some 53, .pick (.t 48) (.k (.bool true)) (.t 52), none⟩]
[1, 2, 3, 4, 9, 10, 11, 12, 53])
(.cond (.t 53)
(.seq (.reg [⟨some 54, .mov (.t 9), none⟩,
⟨some 55, .un .not (.t 54), none⟩,
⟨some 56, .mov (.t 55), none⟩,
⟨some 57, .mov (.t 10), (some (56, true))⟩,
⟨some 58, .bin .eql (.t 57) (.k (.int .i64 1)), (some (56, true))⟩,
⟨some 59, .pick (.t 56) (.t 58) (.k (.bool false)), none⟩,
⟨some 60, .mov (.t 59), none⟩,
⟨some 61, .mov (.t 11), (some (60, true))⟩,
⟨some 62, .len false (.t 61), (some (60, true))⟩,
⟨some 63, .bin .eql (.t 62) (.k (.int .i64 0)), (some (60, true))⟩,
⟨some 64, .pick (.t 60) (.t 63) (.k (.bool false)), none⟩,
⟨some 65, .mov (.t 64), none⟩,
⟨some 66, .mov (.t 12), (some (65, true))⟩,
⟨some 67, .bin .eql (.t 66) (.k (.int .i64 1)), (some (65, true))⟩,
⟨some 68, .pick (.t 65) (.t 67) (.k (.bool false)), none⟩,
⟨some 69, .mov (.t 68), none⟩,
⟨some 70, .call n_proctorlaw16_awake [], (some (69, true))⟩,
⟨some 71, .pick (.t 69) (.t 70) (.k (.bool false)), none⟩,
⟨some 8, .mov (.t 71), none⟩]
[8])
.ret)
.skip))
(.seq (.reg [⟨some 73, .loadN (.t 4) 9, none⟩,
⟨some 74, .mov (.t 1), none⟩,
⟨some 75, .mov (.t 2), none⟩,
⟨some 76, .mov (.t 3), none⟩,
⟨some 77, .call n_proctorref16_Guard [.t 73, .t 74, .t 75, .t 76], none⟩,
⟨some 72, .mov (.t 77), none⟩,
⟨some 78, .ext (.t 72) 0, none⟩,
⟨some 79, .ext (.t 72) 1, none⟩,
⟨some 13, .mov (.t 78), none⟩,
⟨some 14, .mov (.t 79), none⟩]
[1, 2, 3, 4, 9, 10, 11, 12, 13, 14])
(.seq (.reg [⟨some 81, .loadN (.t 4) 9, none⟩,
⟨some 82, .mov (.t 1), none⟩,
⟨some 83, .mov (.t 2), none⟩,
⟨some 84, .mov (.t 3), none⟩,
⟨some 85, .call n_proctorref16_Sets [.t 81, .t 82, .t 83, .t 84], none⟩,
⟨some 80, .mov (.t 85), none⟩,
⟨some 86, .ext (.t 80) 0, none⟩,
⟨some 87, .ext (.t 80) 1, none⟩,
⟨some 15, .mov (.t 86), none⟩,
⟨some 16, .mov (.t 87), none⟩]
[9, 10, 11, 12, 13, 14, 15, 16])
(.seq (.reg [⟨some 88, .mov (.t 9), none⟩,
⟨some 89, .mov (.t 13), none⟩,
⟨some 90, .eqB false (.t 88) (.t 89), none⟩,
⟨some 91, .mov (.t 90), none⟩,
⟨some 92, .mov (.t 10), (some (91, true))⟩,
⟨some 93, .mov (.t 14), (some (91, true))⟩,
⟨some 94, .bin .eql (.t 92) (.t 93), (some (91, true))⟩,
⟨some 95, .pick (.t 91) (.t 94) (.k (.bool false)), none⟩,
⟨some 96, .mov (.t 95), none⟩,
⟨some 97, .mov (.t 11), (some (96, true))⟩,
⟨some 98, .mov (.t 15), (some (96, true))⟩,
⟨some 99, .call n_proctorlaw16_same [.t 97, .t 98], (some (96, true))⟩,
⟨some 100, .pick (.t 96) (.t 99) (.k (.bool false)), none⟩,
⟨some 101, .mov (.t 100), none⟩,
⟨some 102, .mov (.t 12), (some (101, true))⟩,
⟨some 103, .mov (.t 16), (some (101, true))⟩,
⟨some 104, .bin .eql (.t 102) (.t 103), (some (101, true))⟩,
⟨some 105, .pick (.t 101) (.t 104) (.k (.bool false)), none⟩,
⟨some 106, .mov (.t 105), none⟩,
⟨some 107, .call n_proctorlaw16_awake [], (some (106, true))⟩,
⟨some 108, .pick (.t 106) (.t 107) (.k (.bool false)), none⟩,
⟨some 8, .mov (.t 108), none⟩]
[8])
.ret))))))))⟩
theorem k_proctorlaw16_EvalTrans : chkF Go.Proofs.Tryz.prog Go.Proofs.Tryz.f5 c_proctorlaw16_EvalTrans = true := by kernel_rfl
theorem pc_proctorlaw16_EvalTrans {G : Nat → Option AV} {args : List AV} {r : AV} (h : Runs Go.Proofs.Tryz.prog G c_proctorlaw16_EvalTrans args r) (hk : args.length = c_proctorlaw16_EvalTrans.k := by rfl) : PureC Go.Proofs.Tryz.prog G n_proctorlaw16_EvalTrans args r := PureC.of_runs (fn := Go.Proofs.Tryz.f5) (A := c_proctorlaw16_EvalTrans) Go.Proofs.Tryz.func5 k_proctorlaw16_EvalTrans hk h
def c_proctorlaw16_awake : AFun := ⟨58, 0, [.t 0],
  (.seq (.reg [⟨some 0, .mov (.k (.bool false)), none⟩]
[])
(.seq (.reg [⟨some 8, .build [.int .i64 0, .int .i64 0, .str [], .bool false] [(0, 1, .k (.int .i64 1)), (1, 1, .k (.int .i64 1))], none⟩,
⟨some 1, .alloc t_api_Value 4 (.agg [.int .i64 0, .int .i64 0, .str [], .bool false]), none⟩,
⟨none, .store (.t 1) (.t 8) 4, none⟩]
[1])
(.seq (.reg [⟨some 9, .build [.int .i64 0, .int .i64 0, .int .i64 0, .int .i64 0, .int .i64 0, .str [], .bool false] [(0, 1, .k (.int .i64 3))], none⟩,
⟨some 10, .build [.int .i64 0, .int .i64 0, .str [], .bool false] [(0, 1, .k (.int .i64 1))], none⟩,
⟨some 11, .build [.int .i64 0, .int .i64 0, .int .i64 0, .int .i64 0, .int .i64 0, .str [], .bool false] [(0, 1, .k (.int .i64 1)), (3, 4, .t 10)], none⟩,
⟨some 12, .build [.int .i64 0, .int .i64 0, .int .i64 0, .int .i64 0, .int .i64 0, .str [], .bool false] [(0, 1, .k (.int .i64 13)), (1, 1, .k (.int .i64 0)), (2, 1, .k (.int .i64 1))], none⟩,
⟨some 13, .loadN (.t 1) 4, none⟩,
⟨some 14, .build [.int .i64 0, .int .i64 0, .int .i64 0, .int .i64 0, .int .i64 0, .str [], .bool false] [(0, 1, .k (.int .i64 1)), (3, 4, .t 13)], none⟩,
⟨some 15, .build [.int .i64 0, .int .i64 0, .str [], .bool false] [(0, 1, .k (.int .i64 1)), (1, 1, .k (.int .i64 7))], none⟩,
⟨some 16, .build [.int .i64 0, .int .i64 0, .int .i64 0, .int .i64 0, .int .i64 0, .str [], .bool false] [(0, 1, .k (.int .i64 1)), (3, 4, .t 15)], none⟩,
⟨some 17, .build [.int .i64 0, .int .i64 0, .int .i64 0, .int .i64 0, .int .i64 0, .str [], .bool false] [(0, 1, .k (.int .i64 3))], none⟩,
⟨some 18, .build [.int .i64 0, .int .i64 0, .int .i64 0, .int .i64 0, .int .i64 0, .str [], .bool false] [(0, 1, .k (.int .i64 11)), (1, 1, .k (.int .i64 4)), (2, 1, .k (.int .i64 5))], none⟩,
⟨some 19, .build [.int .i64 0, .int .i64 0, .int .i64 0, .int .i64 0, .int .i64 0, .str [], .bool false] [(0, 1, .k (.int .i64 15)), (1, 1, .k (.int .i64 3)), (2, 1, .k (.int .i64 6))], none⟩,
⟨some 20, .build [.int .i64 0, .int .i64 0, .int .i64 0, .int .i64 0, .int .i64 0, .str [], .bool false] [(0, 1, .k (.int .i64 7)), (1, 1, .k (.int .i64 2)), (2, 1, .k (.int .i64 7))], none⟩,
⟨some 21, .mkrow t_api_Node 7 9 (.agg [.int .i64 0, .int .i64 0, .int .i64 0, .int .i64 0, .int .i64 0, .str [], .bool false]) [(0, .t 9), (1, .t 11), (2, .t 12), (3, .t 14), (4, .t 16), (5, .t 17), (6, .t 18), (7, .t 19), (8, .t 20)], none⟩,
⟨some 2, .mov (.t 21), none⟩]
[1, 2])
(.seq (.reg [⟨some 22, .build [.str [], .nils] [(0, 1, .k (.str [97]))], none⟩,
⟨some 23, .mkrow t_api_Decl 2 1 (.agg [.str [], .nils]) [(0, .t 22)], none⟩,
⟨some 24, .loadN (.t 1) 4, none⟩,
⟨some 25, .build [.str [], .int .i64 0, .int .i64 0, .str [], .bool false] [(0, 1, .k (.str [102])), (1, 4, .t 24)], none⟩,
⟨some 26, .mkrow t_api_Free 5 1 (.agg [.str [], .int .i64 0, .int .i64 0, .str [], .bool false]) [(0, .t 25)], none⟩,
⟨some 27, .build [.str [], .bool false, .bool false] [(0, 1, .k (.str [115]))], none⟩,
⟨some 28, .mkrow t_api_State 3 1 (.agg [.str [], .bool false, .bool false]) [(0, .t 27)], none⟩,
⟨some 29, .build [.int .i64 0, .nils] [], none⟩,
⟨some 30, .mkrow t_api_Symbol 2 1 (.agg [.int .i64 0, .nils]) [(0, .t 29)], none⟩,
⟨some 31, .mov (.t 2), none⟩,
⟨some 32, .build [.int .i64 0, .int .i64 0, .int .i64 0, .int .i64 0, .nils] [(3, 1, .k (.int .i64 8))], none⟩,
⟨some 33, .mkrow t_api_Trans 5 1 (.agg [.int .i64 0, .int .i64 0, .int .i64 0, .int .i64 0, .nils]) [(0, .t 32)], none⟩,
⟨some 34, .build [.str [], .nils, .nils, .nils, .nils, .int .i64 0, .nils, .nils, .nils] [(0, 1, .k (.str [113])), (1, 1, .t 23), (3, 1, .t 26), (4, 1, .t 28), (6, 1, .t 30), (7, 1, .t 31), (8, 1, .t 33)], none⟩,
⟨some 3, .alloc t_api_Qea 9 (.agg [.str [], .nils, .nils, .nils, .nils, .int .i64 0, .nils, .nils, .nils]), none⟩,
⟨none, .store (.t 3) (.t 34) 9, none⟩]
[3])
(.seq (.reg [⟨some 36, .loadN (.t 3) 9, none⟩,
⟨some 37, .build [.int .i64 0, .int .i64 0, .str [], .bool false] [(0, 1, .k (.int .i64 1))], none⟩,
⟨some 38, .mkrow t_api_Value 4 1 (.agg [.int .i64 0, .int .i64 0, .str [], .bool false]) [(0, .t 37)], none⟩,
⟨some 39, .call n_eval_Guard [.t 36, .k (.int .i64 0), .k (.nils), .t 38], none⟩,
⟨some 35, .mov (.t 39), none⟩,
⟨some 40, .ext (.t 35) 0, none⟩,
⟨some 41, .ext (.t 35) 1, none⟩,
⟨some 4, .mov (.t 40), none⟩,
⟨some 5, .mov (.t 41), none⟩]
[3, 4, 5])
(.seq (.reg [⟨some 43, .loadN (.t 3) 9, none⟩,
⟨some 44, .build [.int .i64 0, .int .i64 0, .str [], .bool false] [(0, 1, .k (.int .i64 1))], none⟩,
⟨some 45, .mkrow t_api_Value 4 1 (.agg [.int .i64 0, .int .i64 0, .str [], .bool false]) [(0, .t 44)], none⟩,
⟨some 46, .call n_eval_Value [.t 43, .k (.int .i64 6), .k (.nils), .t 45], none⟩,
⟨some 42, .mov (.t 46), none⟩,
⟨some 47, .ext (.t 42) 0, none⟩,
⟨some 48, .ext (.t 42) 1, none⟩,
⟨some 6, .alloc t_api_Value 4 (.agg [.int .i64 0, .int .i64 0, .str [], .bool false]), none⟩,
⟨none, .store (.t 6) (.t 47) 4, none⟩,
⟨some 7, .mov (.t 48), none⟩]
[4, 5, 7])
(.seq (.reg [⟨some 49, .mov (.t 4), none⟩,
⟨some 50, .mov (.t 49), none⟩,
⟨some 51, .mov (.t 5), (some (50, true))⟩,
⟨some 52, .bin .eql (.t 51) (.k (.int .i64 0)), (some (50, true))⟩,
⟨some 53, .pick (.t 50) (.t 52) (.k (.bool false)), none⟩,
⟨some 54, .mov (.t 53), none⟩,
⟨some 55, .mov (.t 7), (some (54, true))⟩,
⟨some 56, .bin .eql (.t 55) (.k (.int .i64 7)), (some (54, true))⟩,
⟨some 57, .pick (.t 54) (.t 56) (.k (.bool false)), none⟩,
⟨some 0, .mov (.t 57), none⟩]
[0])
.ret)))))))⟩
theorem k_proctorlaw16_awake : chkF Go.Proofs.Tryz.prog Go.Proofs.Tryz.f30 c_proctorlaw16_awake = true := by kernel_rfl
theorem pc_proctorlaw16_awake {G : Nat → Option AV} {args : List AV} {r : AV} (h : ∀ c, c = c_proctorlaw16_awake → Runs Go.Proofs.Tryz.prog G c args r) (hk : args.length = c_proctorlaw16_awake.k := by rfl) : PureC Go.Proofs.Tryz.prog G n_proctorlaw16_awake args r := by
  generalize hc : c_proctorlaw16_awake = c at *
  have k := k_proctorlaw16_awake
  rw [hc] at k
  generalize hf : Go.Proofs.Tryz.f30 = f at *
  have h := h _ rfl
  exact PureC.of_runs (fn := f) (A := c) (hf ▸ Go.Proofs.Tryz.func30) k hk h
def c_proctorlaw16_same : AFun := ⟨26, 2, [.t 4],
  (.seq (.reg [⟨some 4, .mov (.k (.bool false)), none⟩]
[0, 1])
(.seq (.seq (.reg [⟨some 6, .mov (.t 0), none⟩,
⟨some 7, .len false (.t 6), none⟩,
⟨some 8, .mov (.t 1), none⟩,
⟨some 9, .len false (.t 8), none⟩,
⟨some 10, .bin .neq (.t 7) (.t 9), none⟩]
[0, 1, 10])
(.cond (.t 10)
(.seq (.reg [⟨some 4, .mov (.k (.bool false)), none⟩]
[4])
.ret)
.skip))
(.seq (.seq (.reg [⟨some 5, .mov (.k (.int .i64 0)), none⟩]
[0, 1, 5])
(.block 0
(.loop [0, 1, 5] [7, 9]
  (.seq (.seq (.reg [⟨some 11, .mov (.t 5), none⟩,
⟨some 12, .mov (.t 0), none⟩,
⟨some 13, .len false (.t 12), none⟩,
⟨some 14, .bin .lss (.t 11) (.t 13), none⟩]
[0, 1, 5, 14])
(.cond (.t 14)
.skip
(.exit 0)))
(.seq (.block 1
(.seq (.dreg [⟨some 17, .mov (.t 0), none⟩,
⟨some 18, .mov (.t 5), none⟩,
⟨some 19, .iaddr 4 (.t 17) (.t 18), none⟩,
⟨some 20, .loadN (.t 19) 4, none⟩,
⟨some 21, .mov (.t 1), none⟩,
⟨some 22, .mov (.t 5), none⟩,
⟨some 23, .iaddr 4 (.t 21) (.t 22), none⟩,
⟨some 24, .loadN (.t 23) 4, none⟩,
⟨some 25, .eqA true [0, 0, 1, 2] (.t 20) (.t 24), none⟩]
[0, 1, 5, 25])
(.cond (.t 25)
(.seq (.reg [⟨some 4, .mov (.k (.bool false)), none⟩]
[4])
.ret)
.skip)))
(.reg [⟨some 15, .mov (.t 5), none⟩,
⟨some 16, .bin .add (.t 15) (.k (.int .i64 1)), none⟩,
⟨some 5, .mov (.t 16), none⟩]
[0, 1, 5]))))))
(.seq (.reg [⟨some 4, .mov (.k (.bool true)), none⟩]
[4])
.ret))))⟩
theorem k_proctorlaw16_same : chkF Go.Proofs.Tryz.prog Go.Proofs.Tryz.f36 c_proctorlaw16_same = true := by kernel_rfl
theorem pc_proctorlaw16_same {G : Nat → Option AV} {args : List AV} {r : AV} (h : Runs Go.Proofs.Tryz.prog G c_proctorlaw16_same args r) (hk : args.length = c_proctorlaw16_same.k := by rfl) : PureC Go.Proofs.Tryz.prog G n_proctorlaw16_same args r := PureC.of_runs (fn := Go.Proofs.Tryz.f36) (A := c_proctorlaw16_same) Go.Proofs.Tryz.func36 k_proctorlaw16_same hk h
def c_proctorlaw16_small : AFun := ⟨40, 3, [.t 6],
  (.seq (.reg [⟨some 3, .box t_api_Qea 9 (.t 0), none⟩,
⟨some 6, .mov (.k (.bool false)), none⟩]
[1, 2, 3])
(.seq (.seq (.reg [⟨some 8, .loadN (.t 3) 9, none⟩,
⟨some 9, .call n_proctorref13_Few [.t 8], none⟩,
⟨some 10, .bin .eql (.t 9) (.k (.int .i64 0)), none⟩,
⟨some 11, .mov (.t 10), none⟩,
⟨some 12, .mov (.t 1), (some (11, false))⟩,
⟨some 13, .len false (.t 12), (some (11, false))⟩,
⟨some 14, .bin .gtr (.t 13) (.k (.int .i64 8)), (some (11, false))⟩,
⟨some 15, .pick (.t 11) (.k (.bool true)) (.t 14), none⟩,
⟨some 16, .mov (.t 15), none⟩,
⟨some 17, .mov (.t 2), (some (16, false))⟩,
⟨some 18, .len false (.t 17), (some (16, false))⟩,
⟨some 19, .bin .gtr (.t 18) (.k (.int .i64 20)), (some (16, false))⟩,
⟨some 20, .pick (.t 16) (.k (.bool true)) (.t 19), none⟩]
[1, 2, 3, 20])
(.cond (.t 20)
(.seq (.reg [⟨some 6, .mov (.k (.bool false)), none⟩]
[6])
.ret)
.skip))
(.seq (.seq (.reg [⟨some 7, .mov (.k (.int .i64 0)), none⟩]
[1, 2, 3, 7])
(.block 0
(.loop [1, 2, 3, 7] [3, 9, 13, 18]
  (.seq (.seq (.reg [⟨some 21, .mov (.t 7), none⟩,
⟨some 22, .mov (.t 2), none⟩,
⟨some 23, .len false (.t 22), none⟩,
⟨some 24, .bin .lss (.t 21) (.t 23), none⟩]
[1, 2, 3, 7, 24])
(.cond (.t 24)
.skip
(.exit 0)))
(.seq (.block 1
(.seq (.reg [⟨some 27, .mov (.t 2), none⟩,
⟨some 28, .mov (.t 7), none⟩,
⟨some 29, .iaddr 4 (.t 27) (.t 28), none⟩,
⟨some 30, .faddr (.t 29) 2, none⟩,
⟨some 31, .load (.t 30), none⟩,
⟨some 32, .len true (.t 31), none⟩,
⟨some 33, .bin .gtr (.t 32) (.k (.int .i64 1000)), none⟩]
[1, 2, 3, 7, 33])
(.cond (.t 33)
(.seq (.reg [⟨some 6, .mov (.k (.bool false)), none⟩]
[6])
.ret)
.skip)))
(.reg [⟨some 25, .mov (.t 7), none⟩,
⟨some 26, .bin .add (.t 25) (.k (.int .i64 1)), none⟩,
⟨some 7, .mov (.t 26), none⟩]
[1, 2, 3, 7]))))))
(.seq (.reg [⟨some 34, .loadN (.t 3) 9, none⟩,
⟨some 35, .call n_proctorref13_Right [.t 34], none⟩,
⟨some 36, .mov (.t 35), none⟩,
⟨some 37, .mov (.t 1), (some (36, true))⟩,
⟨some 38, .call n_proctorref05_Right [.t 37], (some (36, true))⟩,
⟨some 39, .pick (.t 36) (.t 38) (.k (.bool false)), none⟩,
⟨some 6, .mov (.t 39), none⟩]
[6])
.ret))))⟩
theorem k_proctorlaw16_small : chkF Go.Proofs.Tryz.prog Go.Proofs.Tryz.f29 c_proctorlaw16_small = true := by kernel_rfl
theorem pc_proctorlaw16_small {G : Nat → Option AV} {args : List AV} {r : AV} (h : Runs Go.Proofs.Tryz.prog G c_proctorlaw16_small args r) (hk : args.length = c_proctorlaw16_small.k := by rfl) : PureC Go.Proofs.Tryz.prog G n_proctorlaw16_small args r := PureC.of_runs (fn := Go.Proofs.Tryz.f29) (A := c_proctorlaw16_small) Go.Proofs.Tryz.func29 k_proctorlaw16_small hk h
def c_proctorref05_Get : AFun := ⟨26, 2, [.cells 4 4, .t 5],
  (.seq (.reg [⟨some 4, .alloc t_api_Value 4 (.agg [.int .i64 0, .int .i64 0, .str [], .bool false]), none⟩,
⟨some 5, .mov (.k (.bool false)), none⟩]
[0, 1, 4])
(.seq (.seq (.reg [⟨some 6, .mov (.k (.int .i64 0)), none⟩]
[0, 1, 4, 6])
(.block 0
(.loop [0, 1, 4, 6] [4]
  (.seq (.seq (.reg [⟨some 7, .mov (.t 6), none⟩,
⟨some 8, .mov (.t 0), none⟩,
⟨some 9, .len false (.t 8), none⟩,
⟨some 10, .bin .lss (.t 7) (.t 9), none⟩]
[0, 1, 4, 6, 10])
(.cond (.t 10)
.skip
(.exit 0)))
(.seq (.block 1
(.seq (.reg [⟨some 13, .mov (.t 0), none⟩,
⟨some 14, .mov (.t 6), none⟩,
⟨some 15, .iaddr 5 (.t 13) (.t 14), none⟩,
⟨some 16, .faddr (.t 15) 0, none⟩,
⟨some 17, .load (.t 16), none⟩,
⟨some 18, .mov (.t 1), none⟩,
⟨some 19, .bin .eql (.t 17) (.t 18), none⟩]
[0, 1, 4, 6, 19])
(.cond (.t 19)
(.seq (.reg [⟨some 20, .mov (.t 0), none⟩,
⟨some 21, .mov (.t 6), none⟩,
⟨some 22, .iaddr 5 (.t 20) (.t 21), none⟩,
⟨some 23, .faddr (.t 22) 1, none⟩,
⟨some 24, .loadN (.t 23) 4, none⟩,
⟨none, .store (.t 4) (.t 24) 4, none⟩,
⟨some 5, .mov (.k (.bool true)), none⟩]
[4, 5])
.ret)
.skip)))
(.reg [⟨some 11, .mov (.t 6), none⟩,
⟨some 12, .bin .add (.t 11) (.k (.int .i64 1)), none⟩,
⟨some 6, .mov (.t 12), none⟩]
[0, 1, 4, 6]))))))
(.seq (.reg [⟨some 25, .build [.int .i64 0, .int .i64 0, .str [], .bool false] [], none⟩,
⟨none, .store (.t 4) (.t 25) 4, none⟩,
⟨some 5, .mov (.k (.bool false)), none⟩]
[4, 5])
.ret)))⟩
theorem k_proctorref05_Get : chkF Go.Proofs.Tryz.prog Go.Proofs.Tryz.f82 c_proctorref05_Get = true := by kernel_rfl
theorem pc_proctorref05_Get {G : Nat → Option AV} {args : List AV} {r : AV} (h : Runs Go.Proofs.Tryz.prog G c_proctorref05_Get args r) (hk : args.length = c_proctorref05_Get.k := by rfl) : PureC Go.Proofs.Tryz.prog G n_proctorref05_Get args r := PureC.of_runs (fn := Go.Proofs.Tryz.f82) (A := c_proctorref05_Get) Go.Proofs.Tryz.func82 k_proctorref05_Get hk h
def c_proctorref05_Right : AFun := ⟨51, 1, [.t 2],
  (.seq (.reg [⟨some 2, .mov (.k (.bool false)), none⟩]
[0])
(.seq (.seq (.reg [⟨some 3, .mov (.k (.int .i64 0)), none⟩]
[0, 3])
(.block 0
(.loop [0, 3] []
  (.seq (.seq (.reg [⟨some 4, .mov (.t 3), none⟩,
⟨some 5, .mov (.t 0), none⟩,
⟨some 6, .len false (.t 5), none⟩,
⟨some 7, .bin .lss (.t 4) (.t 6), none⟩]
[0, 3, 7])
(.cond (.t 7)
.skip
(.exit 0)))
(.seq (.block 1
(.seq (.dreg [⟨some 10, .mov (.t 0), none⟩,
⟨some 11, .mov (.t 3), none⟩,
⟨some 12, .iaddr 5 (.t 10) (.t 11), none⟩,
⟨some 13, .faddr (.t 12) 0, none⟩,
⟨some 14, .load (.t 13), none⟩,
⟨some 15, .bin .lss (.t 14) (.k (.int .i64 0)), none⟩,
⟨some 16, .mov (.t 15), none⟩,
⟨some 17, .mov (.t 0), (some (16, false))⟩,
⟨some 18, .mov (.t 3), (some (16, false))⟩,
⟨some 19, .iaddr 5 (.t 17) (.t 18), (some (16, false))⟩,
⟨some 20, .faddr (.t 19) 0, (some (16, false))⟩,
⟨some 21, .load (.t 20), (some (16, false))⟩,
⟨some 22, .bin .gtr (.t 21) (.k (.int .i64 7)), (some (16, false))⟩,
⟨some 23, .pick (.t 16) (.k (.bool true)) (.t 22), none⟩,
⟨some 24, .mov (.t 23), none⟩,
⟨some 25, .mov (.t 0), (some (24, false))⟩,
⟨some 26, .mov (.t 3), (some (24, false))⟩,
⟨some 27, .iaddr 5 (.t 25) (.t 26), (some (24, false))⟩,
⟨some 28, .faddr (.t 27) 1, (some (24, false))⟩,
⟨some 29, .loadN (.t 28) 4, (some (24, false))⟩,
⟨some 30, .call n_proctorref03_Right [.t 29], (some (24, false))⟩,
⟨some 31, .un .not (.t 30), (some (24, false))⟩,
⟨some 32, .pick (.t 24) (.k (.bool true)) (.t 31), none⟩,
⟨some 33, .mov (.t 32), none⟩,
⟨some 34, .mov (.t 3), (some (33, false))⟩,
⟨some 35, .bin .gtr (.t 34) (.k (.int .i64 0)), (some (33, false))⟩,
⟨some 36, .mov (.t 35), (some (33, false))⟩,
⟨some 37, .mov (.t 0), (some (36, true))⟩,
⟨some 38, .mov (.t 3), (some (36, true))⟩,
⟨some 39, .iaddr 5 (.t 37) (.t 38), (some (36, true))⟩,
⟨some 40, .faddr (.t 39) 0, (some (36, true))⟩,
⟨some 41, .load (.t 40), (some (36, true))⟩,
⟨some 42, .mov (.t 0), (some (36, true))⟩,
⟨some 43, .mov (.t 3), (some (36, true))⟩,
⟨some 44, .bin .sub (.t 43) (.k (.int .i64 1)), (some (36, true))⟩,
⟨some 45, .iaddr 5 (.t 42) (.t 44), (some (36, true))⟩,
⟨some 46, .faddr (.t 45) 0, (some (36, true))⟩,
⟨some 47, .load (.t 46), (some (36, true))⟩,
⟨some 48, .bin .leq (.t 41) (.t 47), (some (36, true))⟩,
⟨some 49, .pick (.t 36) (.t 48) (.k (.bool false)), (some (33, false))⟩,
⟨some 50, .pick (.t 33) (.k (.bool true)) (.t 49), none⟩]
[0, 3, 50])
(.cond (.t 50)
(.seq (.reg [⟨some 2, .mov (.k (.bool false)), none⟩]
[2])
.ret)
.skip)))
(.reg [⟨some 8, .mov (.t 3), none⟩,
⟨some 9, .bin .add (.t 8) (.k (.int .i64 1)), none⟩,
⟨some 3, .mov (.t 9), none⟩]
[0, 3]))))))
(.seq (.reg [⟨some 2, .mov (.k (.bool true)), none⟩]
[2])
.ret)))⟩
theorem k_proctorref05_Right : chkF Go.Proofs.Tryz.prog Go.Proofs.Tryz.f23 c_proctorref05_Right = true := by kernel_rfl
theorem pc_proctorref05_Right {G : Nat → Option AV} {args : List AV} {r : AV} (h : Runs Go.Proofs.Tryz.prog G c_proctorref05_Right args r) (hk : args.length = c_proctorref05_Right.k := by rfl) : PureC Go.Proofs.Tryz.prog G n_proctorref05_Right args r := PureC.of_runs (fn := Go.Proofs.Tryz.f23) (A := c_proctorref05_Right) Go.Proofs.Tryz.func23 k_proctorref05_Right hk h
def c_proctorref16_Fits : AFun := ⟨39, 2, [.t 4],
  (.seq (.reg [⟨some 2, .box t_api_Qea 9 (.t 0), none⟩,
⟨some 4, .mov (.k (.bool false)), none⟩]
[1, 2])
(.seq (.seq (.reg [⟨some 6, .mov (.t 1), none⟩,
⟨some 7, .len false (.t 6), none⟩,
⟨some 8, .faddr (.t 2) 3, none⟩,
⟨some 9, .load (.t 8), none⟩,
⟨some 10, .len false (.t 9), none⟩,
⟨some 11, .bin .neq (.t 7) (.t 10), none⟩]
[1, 2, 11])
(.cond (.t 11)
(.seq (.reg [⟨some 4, .mov (.k (.bool false)), none⟩]
[4])
.ret)
.skip))
(.seq (.seq (.reg [⟨some 5, .mov (.k (.int .i64 0)), none⟩]
[1, 2, 5])
(.block 0
(.loop [1, 2, 5] [2, 7, 10]
  (.seq (.seq (.reg [⟨some 12, .mov (.t 5), none⟩,
⟨some 13, .mov (.t 1), none⟩,
⟨some 14, .len false (.t 13), none⟩,
⟨some 15, .bin .lss (.t 12) (.t 14), none⟩]
[1, 2, 5, 15])
(.cond (.t 15)
.skip
(.exit 0)))
(.seq (.block 1
(.seq (.dreg [⟨some 18, .mov (.t 1), none⟩,
⟨some 19, .mov (.t 5), none⟩,
⟨some 20, .iaddr 4 (.t 18) (.t 19), none⟩,
⟨some 21, .loadN (.t 20) 4, none⟩,
⟨some 22, .call n_proctorref03_Right [.t 21], none⟩,
⟨some 23, .un .not (.t 22), none⟩,
⟨some 24, .mov (.t 23), none⟩,
⟨some 25, .mov (.t 1), (some (24, false))⟩,
⟨some 26, .mov (.t 5), (some (24, false))⟩,
⟨some 27, .iaddr 4 (.t 25) (.t 26), (some (24, false))⟩,
⟨some 28, .faddr (.t 27) 0, (some (24, false))⟩,
⟨some 29, .load (.t 28), (some (24, false))⟩,
⟨some 30, .faddr (.t 2) 3, (some (24, false))⟩,
⟨some 31, .load (.t 30), (some (24, false))⟩,
⟨some 32, .mov (.t 5), (some (24, false))⟩,
⟨some 33, .iaddr 5 (.t 31) (.t 32), (some (24, false))⟩,
⟨some 34, .faddr (.t 33) 1, (some (24, false))⟩,
⟨some 35, .faddr (.t 34) 0, (some (24, false))⟩,
⟨some 36, .load (.t 35), (some (24, false))⟩,
⟨some 37, .bin .neq (.t 29) (.t 36), (some (24, false))⟩,
⟨some 38, .pick (.t 24) (.k (.bool true)) (.t 37), none⟩]
[1, 2, 5, 38])
(.cond (.t 38)
(.seq (.reg [⟨some 4, .mov (.k (.bool false)), none⟩]
[4])
.ret)
.skip)))
(.reg [⟨some 16, .mov (.t 5), none⟩,
⟨some 17, .bin .add (.t 16) (.k (.int .i64 1)), none⟩,
⟨some 5, .mov (.t 17), none⟩]
[1, 2, 5]))))))
(.seq (.reg [⟨some 4, .mov (.k (.bool true)), none⟩]
[4])
.ret))))⟩
theorem k_proctorref16_Fits : chkF Go.Proofs.Tryz.prog Go.Proofs.Tryz.f33 c_proctorref16_Fits = true := by kernel_rfl
theorem pc_proctorref16_Fits {G : Nat → Option AV} {args : List AV} {r : AV} (h : Runs Go.Proofs.Tryz.prog G c_proctorref16_Fits args r) (hk : args.length = c_proctorref16_Fits.k := by rfl) : PureC Go.Proofs.Tryz.prog G n_proctorref16_Fits args r := PureC.of_runs (fn := Go.Proofs.Tryz.f33) (A := c_proctorref16_Fits) Go.Proofs.Tryz.func33 k_proctorref16_Fits hk h
def c_proctorref16_Guard : AFun := ⟨32, 4, [.t 8, .t 9],
  (.seq (.reg [⟨some 4, .box t_api_Qea 9 (.t 0), none⟩,
⟨some 8, .mov (.k (.bool false)), none⟩,
⟨some 9, .mov (.k (.int .i64 0)), none⟩]
[1, 2, 3, 4])
(.seq (.reg [⟨some 13, .faddr (.t 4) 8, none⟩,
⟨some 14, .load (.t 13), none⟩,
⟨some 15, .mov (.t 1), none⟩,
⟨some 16, .iaddr 5 (.t 14) (.t 15), none⟩,
⟨some 17, .faddr (.t 16) 3, none⟩,
⟨some 18, .load (.t 17), none⟩,
⟨some 10, .mov (.t 18), none⟩]
[2, 3, 4, 10])
(.seq (.seq (.reg [⟨some 19, .mov (.t 10), none⟩,
⟨some 20, .bin .lss (.t 19) (.k (.int .i64 0)), none⟩]
[2, 3, 4, 10, 20])
(.cond (.t 20)
(.seq (.reg [⟨some 8, .mov (.k (.bool true)), none⟩,
⟨some 9, .mov (.k (.int .i64 0)), none⟩]
[8, 9])
.ret)
.skip))
(.seq (.reg [⟨some 22, .loadN (.t 4) 9, none⟩,
⟨some 23, .mov (.t 10), none⟩,
⟨some 24, .mov (.t 2), none⟩,
⟨some 25, .mov (.t 3), none⟩,
⟨some 26, .call n_proctorref16_Value [.t 22, .t 23, .t 24, .t 25], none⟩,
⟨some 21, .mov (.t 26), none⟩,
⟨some 27, .ext (.t 21) 0, none⟩,
⟨some 28, .ext (.t 21) 1, none⟩,
⟨some 11, .alloc t_api_Value 4 (.agg [.int .i64 0, .int .i64 0, .str [], .bool false]), none⟩,
⟨none, .store (.t 11) (.t 27) 4, none⟩,
⟨some 12, .mov (.t 28), none⟩]
[11, 12])
(.seq (.reg [⟨some 29, .faddr (.t 11) 3, none⟩,
⟨some 30, .load (.t 29), none⟩,
⟨some 31, .mov (.t 12), none⟩,
⟨some 8, .mov (.t 30), none⟩,
⟨some 9, .mov (.t 31), none⟩]
[8, 9])
.ret)))))⟩
theorem k_proctorref16_Guard : chkF Go.Proofs.Tryz.prog Go.Proofs.Tryz.f34 c_proctorref16_Guard = true := by kernel_rfl
theorem pc_proctorref16_Guard {G : Nat → Option AV} {args : List AV} {r : AV} (h : Runs Go.Proofs.Tryz.prog G c_proctorref16_Guard args r) (hk : args.length = c_proctorref16_Guard.k := by rfl) : PureC Go.Proofs.Tryz.prog G n_proctorref16_Guard args r := PureC.of_runs (fn := Go.Proofs.Tryz.f34) (A := c_proctorref16_Guard) Go.Proofs.Tryz.func34 k_proctorref16_Guard hk h
def c_proctorref16_Sets : AFun := ⟨54, 4, [.t 8, .t 9],
  (.seq (.reg [⟨some 4, .box t_api_Qea 9 (.t 0), none⟩,
⟨some 8, .nilrow t_api_Value 4, none⟩,
⟨some 9, .mov (.k (.int .i64 0)), none⟩]
[1, 2, 3, 4])
(.seq (.reg [⟨some 15, .mkrow t_api_Value 4 0 (.agg [.int .i64 0, .int .i64 0, .str [], .bool false]) [], none⟩,
⟨some 16, .mov (.t 3), none⟩,
⟨some 17, .app t_api_Value 4 40 (.t 15) (.t 16), none⟩,
⟨some 10, .mov (.t 17), none⟩]
[1, 2, 3, 4, 10])
(.seq (.reg [⟨some 18, .faddr (.t 4) 8, none⟩,
⟨some 19, .load (.t 18), none⟩,
⟨some 20, .mov (.t 1), none⟩,
⟨some 21, .iaddr 5 (.t 19) (.t 20), none⟩,
⟨some 22, .faddr (.t 21) 4, none⟩,
⟨some 23, .load (.t 22), none⟩,
⟨some 11, .mov (.t 23), none⟩]
[2, 3, 4, 10, 11])
(.seq (.seq (.reg [⟨some 12, .mov (.k (.int .i64 0)), none⟩]
[2, 3, 4, 10, 11, 12])
(.block 0
(.loop [2, 3, 4, 10, 11, 12] [4, 8, 15, 17]
  (.seq (.seq (.reg [⟨some 24, .mov (.t 12), none⟩,
⟨some 25, .mov (.t 11), none⟩,
⟨some 26, .len false (.t 25), none⟩,
⟨some 27, .bin .lss (.t 24) (.t 26), none⟩]
[2, 3, 4, 10, 11, 12, 27])
(.cond (.t 27)
.skip
(.exit 0)))
(.seq (.block 1
(.seq (.dregA [⟨some 31, .loadN (.t 4) 9, none⟩,
⟨some 32, .mov (.t 11), none⟩,
⟨some 33, .mov (.t 12), none⟩,
⟨some 34, .iaddr 2 (.t 32) (.t 33), none⟩,
⟨some 35, .faddr (.t 34) 1, none⟩,
⟨some 36, .load (.t 35), none⟩,
⟨some 37, .mov (.t 2), none⟩,
⟨some 38, .mov (.t 3), none⟩,
⟨some 39, .call n_proctorref16_Value [.t 31, .t 36, .t 37, .t 38], none⟩,
⟨some 30, .mov (.t 39), none⟩,
⟨some 40, .ext (.t 30) 0, none⟩,
⟨some 41, .ext (.t 30) 1, none⟩,
⟨some 13, .alloc t_api_Value 4 (.agg [.int .i64 0, .int .i64 0, .str [], .bool false]), none⟩,
⟨none, .store (.t 13) (.t 40) 4, none⟩,
⟨some 14, .mov (.t 41), none⟩] 12 13 [2, 3, 4, 10, 11, 12, 13, 14, 30, 31, 32, 33, 34, 35, 36, 37, 38, 39, 40, 41]
[2, 3, 4, 10, 11, 12, 13, 14])
(.seq (.seq (.reg [⟨some 42, .mov (.t 14), none⟩,
⟨some 43, .bin .neq (.t 42) (.k (.int .i64 0)), none⟩]
[2, 3, 4, 10, 11, 12, 13, 14, 43])
(.cond (.t 43)
(.seq (.reg [⟨some 44, .mov (.t 14), none⟩,
⟨some 8, .nilrow t_api_Value 4, none⟩,
⟨some 9, .mov (.t 44), none⟩]
[8, 9])
.ret)
.skip))
(.dreg [⟨some 45, .mov (.t 10), none⟩,
⟨some 46, .mov (.t 11), none⟩,
⟨some 47, .mov (.t 12), none⟩,
⟨some 48, .iaddr 2 (.t 46) (.t 47), none⟩,
⟨some 49, .faddr (.t 48) 0, none⟩,
⟨some 50, .load (.t 49), none⟩,
⟨some 51, .loadN (.t 13) 4, none⟩,
⟨some 52, .iaddr 4 (.t 45) (.t 50), none⟩,
⟨none, .store (.t 52) (.t 51) 4, none⟩]
[2, 3, 4, 10, 11, 12]))))
(.reg [⟨some 28, .mov (.t 12), none⟩,
⟨some 29, .bin .add (.t 28) (.k (.int .i64 1)), none⟩,
⟨some 12, .mov (.t 29), none⟩]
[2, 3, 4, 10, 11, 12]))))))
(.seq (.reg [⟨some 53, .mov (.t 10), none⟩,
⟨some 8, .mov (.t 53), none⟩,
⟨some 9, .mov (.k (.int .i64 0)), none⟩]
[8, 9])
.ret)))))⟩
theorem k_proctorref16_Sets : chkF Go.Proofs.Tryz.prog Go.Proofs.Tryz.f35 c_proctorref16_Sets = true := by kernel_rfl
theorem pc_proctorref16_Sets {G : Nat → Option AV} {args : List AV} {r : AV} (h : Runs Go.Proofs.Tryz.prog G c_proctorref16_Sets args r) (hk : args.length = c_proctorref16_Sets.k := by rfl) : PureC Go.Proofs.Tryz.prog G n_proctorref16_Sets args r := PureC.of_runs (fn := Go.Proofs.Tryz.f35) (A := c_proctorref16_Sets) Go.Proofs.Tryz.func35 k_proctorref16_Sets hk h
def c_proctorref16_Value : AFun := ⟨121, 4, [.cells 8 4, .t 9],
  (.seq (.reg [⟨some 4, .box t_api_Qea 9 (.t 0), none⟩,
⟨some 8, .alloc t_api_Value 4 (.agg [.int .i64 0, .int .i64 0, .str [], .bool false]), none⟩,
⟨some 9, .mov (.k (.int .i64 0)), none⟩]
[1, 2, 3, 4, 8])
(.seq (.reg [⟨some 16, .faddr (.t 4) 7, none⟩,
⟨some 17, .load (.t 16), none⟩,
⟨some 18, .mov (.t 1), none⟩,
⟨some 19, .iaddr 7 (.t 17) (.t 18), none⟩,
⟨some 20, .loadN (.t 19) 7, none⟩,
⟨some 10, .alloc t_api_Node 7 (.agg [.int .i64 0, .int .i64 0, .int .i64 0, .int .i64 0, .int .i64 0, .str [], .bool false]), none⟩,
⟨none, .store (.t 10) (.t 20) 7, none⟩]
[2, 3, 4, 8, 10])
(.seq (.seq (.reg [⟨some 21, .faddr (.t 10) 0, none⟩,
⟨some 22, .load (.t 21), none⟩,
⟨some 23, .bin .eql (.t 22) (.k (.int .i64 1)), none⟩]
[2, 3, 4, 8, 10, 23])
(.cond (.t 23)
(.seq (.reg [⟨some 24, .faddr (.t 10) 3, none⟩,
⟨some 25, .loadN (.t 24) 4, none⟩,
⟨none, .store (.t 8) (.t 25) 4, none⟩,
⟨some 9, .mov (.k (.int .i64 0)), none⟩]
[8, 9])
.ret)
.skip))
(.seq (.seq (.reg [⟨some 26, .faddr (.t 10) 0, none⟩,
⟨some 27, .load (.t 26), none⟩,
⟨some 28, .bin .eql (.t 27) (.k (.int .i64 2)), none⟩]
[2, 3, 4, 8, 10, 28])
(.cond (.t 28)
(.seq (.reg [⟨some 30, .mov (.t 2), none⟩,
⟨some 31, .faddr (.t 10) 1, none⟩,
⟨some 32, .load (.t 31), none⟩,
⟨some 33, .call n_proctorref05_Get [.t 30, .t 32], none⟩,
⟨some 29, .mov (.t 33), none⟩,
⟨some 34, .ext (.t 29) 0, none⟩,
⟨some 35, .ext (.t 29) 1, none⟩,
⟨some 11, .alloc t_api_Value 4 (.agg [.int .i64 0, .int .i64 0, .str [], .bool false]), none⟩,
⟨none, .store (.t 11) (.t 34) 4, none⟩,
⟨some 12, .mov (.t 35), none⟩]
[4, 8, 10, 11, 12])
(.seq (.seq (.dreg [⟨some 36, .mov (.t 12), none⟩,
⟨some 37, .un .not (.t 36), none⟩,
⟨some 38, .mov (.t 37), none⟩,
⟨some 39, .faddr (.t 11) 0, (some (38, false))⟩,
⟨some 40, .load (.t 39), (some (38, false))⟩,
⟨some 41, .faddr (.t 4) 2, (some (38, false))⟩,
⟨some 42, .load (.t 41), (some (38, false))⟩,
⟨some 43, .faddr (.t 10) 1, (some (38, false))⟩,
⟨some 44, .load (.t 43), (some (38, false))⟩,
⟨some 45, .iaddr 3 (.t 42) (.t 44), (some (38, false))⟩,
⟨some 46, .faddr (.t 45) 2, (some (38, false))⟩,
⟨some 47, .load (.t 46), (some (38, false))⟩,
⟨some 48, .bin .neq (.t 40) (.t 47), (some (38, false))⟩,
⟨some 49, .pick (.t 38) (.k (.bool true)) (.t 48), none⟩]
[8, 11, 49])
(.cond (.t 49)
(.seq (.reg [⟨some 50, .build [.int .i64 0, .int .i64 0, .str [], .bool false] [], none⟩,
⟨none, .store (.t 8) (.t 50) 4, none⟩,
⟨some 9, .mov (.k (.int .i64 9)), none⟩]
[8, 9])
.ret)
.skip))
(.seq (.reg [⟨some 51, .loadN (.t 11) 4, none⟩,
⟨none, .store (.t 8) (.t 51) 4, none⟩,
⟨some 9, .mov (.k (.int .i64 0)), none⟩]
[8, 9])
.ret)))
.skip))
(.seq (.seq (.reg [⟨some 52, .faddr (.t 10) 0, none⟩,
⟨some 53, .load (.t 52), none⟩,
⟨some 54, .bin .eql (.t 53) (.k (.int .i64 3)), none⟩]
[2, 3, 4, 8, 10, 54])
(.cond (.t 54)
(.seq (.reg [⟨some 55, .mov (.t 3), none⟩,
⟨some 56, .faddr (.t 10) 1, none⟩,
⟨some 57, .load (.t 56), none⟩,
⟨some 58, .iaddr 4 (.t 55) (.t 57), none⟩,
⟨some 59, .loadN (.t 58) 4, none⟩,
⟨none, .store (.t 8) (.t 59) 4, none⟩,
⟨some 9, .mov (.k (.int .i64 0)), none⟩]
[8, 9])
.ret)
.skip))
(.seq (.reg [⟨some 61, .loadN (.t 4) 9, none⟩,
⟨some 62, .faddr (.t 10) 1, none⟩,
⟨some 63, .load (.t 62), none⟩,
⟨some 64, .mov (.t 2), none⟩,
⟨some 65, .mov (.t 3), none⟩,
⟨some 66, .call n_proctorref16_Value [.t 61, .t 63, .t 64, .t 65], none⟩,
⟨some 60, .mov (.t 66), none⟩,
⟨some 67, .ext (.t 60) 0, none⟩,
⟨some 68, .ext (.t 60) 1, none⟩,
⟨some 13, .alloc t_api_Value 4 (.agg [.int .i64 0, .int .i64 0, .str [], .bool false]), none⟩,
⟨none, .store (.t 13) (.t 67) 4, none⟩,
⟨some 14, .mov (.t 68), none⟩]
[2, 3, 4, 8, 10, 13, 14])
(.seq (.seq (.reg [⟨some 69, .mov (.t 14), none⟩,
⟨some 70, .bin .neq (.t 69) (.k (.int .i64 0)), none⟩]
[2, 3, 4, 8, 10, 13, 14, 70])
(.cond (.t 70)
(.seq (.reg [⟨some 71, .build [.int .i64 0, .int .i64 0, .str [], .bool false] [], none⟩,
⟨some 72, .mov (.t 14), none⟩,
⟨none, .store (.t 8) (.t 71) 4, none⟩,
⟨some 9, .mov (.t 72), none⟩]
[8, 9])
.ret)
.skip))
(.seq (.seq (.reg [⟨some 73, .faddr (.t 10) 0, none⟩,
⟨some 74, .load (.t 73), none⟩,
⟨some 75, .bin .leq (.t 74) (.k (.int .i64 5)), none⟩]
[2, 3, 4, 8, 10, 13, 75])
(.cond (.t 75)
(.seq (.reg [⟨some 76, .faddr (.t 10) 0, none⟩,
⟨some 77, .load (.t 76), none⟩,
⟨some 78, .loadN (.t 13) 4, none⟩,
⟨some 79, .build [.int .i64 0, .int .i64 0, .str [], .bool false] [], none⟩,
⟨some 80, .call n_proctorref03_Op [.t 77, .t 78, .t 79], none⟩,
⟨some 81, .ext (.t 80) 0, none⟩,
⟨some 82, .ext (.t 80) 1, none⟩,
⟨none, .store (.t 8) (.t 81) 4, none⟩,
⟨some 9, .mov (.t 82), none⟩]
[8, 9])
.ret)
.skip))
(.seq (.seq (.reg [⟨some 83, .faddr (.t 10) 0, none⟩,
⟨some 84, .load (.t 83), none⟩,
⟨some 85, .bin .eql (.t 84) (.k (.int .i64 6)), none⟩,
⟨some 86, .mov (.t 85), none⟩,
⟨some 87, .faddr (.t 13) 3, (some (86, true))⟩,
⟨some 88, .load (.t 87), (some (86, true))⟩,
⟨some 89, .un .not (.t 88), (some (86, true))⟩,
⟨some 90, .pick (.t 86) (.t 89) (.k (.bool false)), none⟩,
⟨some 91, .mov (.t 90), none⟩,
⟨some 92, .faddr (.t 10) 0, (some (91, false))⟩,
⟨some 93, .load (.t 92), (some (91, false))⟩,
⟨some 94, .bin .eql (.t 93) (.k (.int .i64 7)), (some (91, false))⟩,
⟨some 95, .mov (.t 94), (some (91, false))⟩,
⟨some 96, .faddr (.t 13) 3, (some (95, true))⟩,
⟨some 97, .load (.t 96), (some (95, true))⟩,
⟨some 98, .pick (.t 95) (.t 97) (.k (.bool false)), (some (91, false))⟩,
⟨some 99, .pick (.t 91) (.k (.bool true)) (.t 98), none⟩]
[2, 3, 4, 8, 10, 13, 99])
(.cond (.t 99)
(.seq (.reg [⟨some 100, .loadN (.t 13) 4, none⟩,
⟨none, .store (.t 8) (.t 100) 4, none⟩,
⟨some 9, .mov (.k (.int .i64 0)), none⟩]
[8, 9])
.ret)
.skip))
(.seq (.reg [⟨some 102, .loadN (.t 4) 9, none⟩,
⟨some 103, .faddr (.t 10) 2, none⟩,
⟨some 104, .load (.t 103), none⟩,
⟨some 105, .mov (.t 2), none⟩,
⟨some 106, .mov (.t 3), none⟩,
⟨some 107, .call n_proctorref16_Value [.t 102, .t 104, .t 105, .t 106], none⟩,
⟨some 101, .mov (.t 107), none⟩,
⟨some 108, .ext (.t 101) 0, none⟩,
⟨some 109, .ext (.t 101) 1, none⟩,
⟨some 15, .alloc t_api_Value 4 (.agg [.int .i64 0, .int .i64 0, .str [], .bool false]), none⟩,
⟨none, .store (.t 15) (.t 108) 4, none⟩,
⟨some 14, .mov (.t 109), none⟩]
[8, 10, 13, 14, 15])
(.seq (.seq (.reg [⟨some 110, .mov (.t 14), none⟩,
⟨some 111, .bin .neq (.t 110) (.k (.int .i64 0)), none⟩]
[8, 10, 13, 14, 15, 111])
(.cond (.t 111)
(.seq (.reg [⟨some 112, .build [.int .i64 0, .int .i64 0, .str [], .bool false] [], none⟩,
⟨some 113, .mov (.t 14), none⟩,
⟨none, .store (.t 8) (.t 112) 4, none⟩,
⟨some 9, .mov (.t 113), none⟩]
[8, 9])
.ret)
.skip))
(.seq (.reg [⟨some 114, .faddr (.t 10) 0, none⟩,
⟨some 115, .load (.t 114), none⟩,
⟨some 116, .loadN (.t 13) 4, none⟩,
⟨some 117, .loadN (.t 15) 4, none⟩,
⟨some 118, .call n_proctorref03_Op [.t 115, .t 116, .t 117], none⟩,
⟨some 119, .ext (.t 118) 0, none⟩,
⟨some 120, .ext (.t 118) 1, none⟩,
⟨none, .store (.t 8) (.t 119) 4, none⟩,
⟨some 9, .mov (.t 120), none⟩]
[8, 9])
.ret))))))))))))⟩
theorem k_proctorref16_Value : chkF Go.Proofs.Tryz.prog Go.Proofs.Tryz.f62 c_proctorref16_Value = true := by kernel_rfl
theorem pc_proctorref16_Value {G : Nat → Option AV} {args : List AV} {r : AV} (h : Runs Go.Proofs.Tryz.prog G c_proctorref16_Value args r) (hk : args.length = c_proctorref16_Value.k := by rfl) : PureC Go.Proofs.Tryz.prog G n_proctorref16_Value args r := PureC.of_runs (fn := Go.Proofs.Tryz.f62) (A := c_proctorref16_Value) Go.Proofs.Tryz.func62 k_proctorref16_Value hk h
def c_value_Less : AFun := ⟨41, 2, [.t 4],
  (.seq (.reg [⟨some 2, .box t_api_Value 4 (.t 0), none⟩,
⟨some 3, .box t_api_Value 4 (.t 1), none⟩,
⟨some 4, .mov (.k (.bool false)), none⟩]
[2, 3])
(.seq (.block 0
(.seq (.reg [⟨some 6, .faddr (.t 2) 0, none⟩,
⟨some 7, .load (.t 6), none⟩,
⟨some 8, .faddr (.t 3) 0, none⟩,
⟨some 9, .load (.t 8), none⟩,
⟨some 10, .bin .neq (.t 7) (.t 9), none⟩,
⟨some 5, .mov (.t 10), none⟩]
[2, 3, 5])
(.cond (.t 5)
(.seq (.reg [⟨some 11, .faddr (.t 2) 0, none⟩,
⟨some 12, .load (.t 11), none⟩,
⟨some 13, .faddr (.t 3) 0, none⟩,
⟨some 14, .load (.t 13), none⟩,
⟨some 15, .bin .lss (.t 12) (.t 14), none⟩,
⟨some 4, .mov (.t 15), none⟩]
[4])
.ret)
(.seq (.reg [⟨some 17, .faddr (.t 2) 0, none⟩,
⟨some 18, .load (.t 17), none⟩,
⟨some 19, .bin .eql (.t 18) (.k (.int .i64 1)), none⟩,
⟨some 16, .mov (.t 19), none⟩]
[2, 3, 16])
(.cond (.t 16)
(.seq (.reg [⟨some 20, .faddr (.t 2) 1, none⟩,
⟨some 21, .load (.t 20), none⟩,
⟨some 22, .faddr (.t 3) 1, none⟩,
⟨some 23, .load (.t 22), none⟩,
⟨some 24, .bin .lss (.t 21) (.t 23), none⟩,
⟨some 4, .mov (.t 24), none⟩]
[4])
.ret)
(.seq (.reg [⟨some 26, .faddr (.t 2) 0, none⟩,
⟨some 27, .load (.t 26), none⟩,
⟨some 28, .bin .eql (.t 27) (.k (.int .i64 2)), none⟩,
⟨some 25, .mov (.t 28), none⟩]
[2, 3, 25])
(.cond (.t 25)
(.seq (.reg [⟨some 29, .faddr (.t 2) 2, none⟩,
⟨some 30, .load (.t 29), none⟩,
⟨some 31, .faddr (.t 3) 2, none⟩,
⟨some 32, .load (.t 31), none⟩,
⟨some 33, .bin .lss (.t 30) (.t 32), none⟩,
⟨some 4, .mov (.t 33), none⟩]
[4])
.ret)
.skip)))))))
(.seq (.reg [⟨some 34, .faddr (.t 2) 3, none⟩,
⟨some 35, .load (.t 34), none⟩,
⟨some 36, .un .not (.t 35), none⟩,
⟨some 37, .mov (.t 36), none⟩,
⟨some 38, .faddr (.t 3) 3, (some (37, true))⟩,
⟨some 39, .load (.t 38), (some (37, true))⟩,
⟨some 40, .pick (.t 37) (.t 39) (.k (.bool false)), none⟩,
⟨some 4, .mov (.t 40), none⟩]
[4])
.ret)))⟩
theorem k_value_Less : chkF Go.Proofs.Tryz.prog Go.Proofs.Tryz.f177 c_value_Less = true := by kernel_rfl
theorem pc_value_Less {G : Nat → Option AV} {args : List AV} {r : AV} (h : Runs Go.Proofs.Tryz.prog G c_value_Less args r) (hk : args.length = c_value_Less.k := by rfl) : PureC Go.Proofs.Tryz.prog G n_value_Less args r := PureC.of_runs (fn := Go.Proofs.Tryz.f177) (A := c_value_Less) Go.Proofs.Tryz.func177 k_value_Less hk h
def c_value_Op : AFun := ⟨117, 3, [.cells 6 4, .t 7],
  (.seq (.reg [⟨some 4, .box t_api_Value 4 (.t 1), none⟩,
⟨some 5, .box t_api_Value 4 (.t 2), none⟩,
⟨some 6, .alloc t_api_Value 4 (.agg [.int .i64 0, .int .i64 0, .str [], .bool false]), none⟩,
⟨some 7, .mov (.k (.int .i64 0)), none⟩]
[0, 4, 5, 6])
(.seq (.block 0
(.seq (.reg [⟨some 11, .mov (.t 0), none⟩,
⟨some 12, .bin .lss (.t 11) (.k (.int .i64 4)), none⟩,
⟨some 13, .mov (.t 12), none⟩,
⟨some 14, .mov (.t 0), (some (13, false))⟩,
⟨some 15, .bin .gtr (.t 14) (.k (.int .i64 16)), (some (13, false))⟩,
⟨some 16, .pick (.t 13) (.k (.bool true)) (.t 15), none⟩,
⟨some 10, .mov (.t 16), none⟩]
[0, 4, 5, 6, 10])
(.cond (.t 10)
(.seq (.reg [⟨some 17, .build [.int .i64 0, .int .i64 0, .str [], .bool false] [], none⟩,
⟨none, .store (.t 6) (.t 17) 4, none⟩,
⟨some 7, .mov (.k (.int .i64 1)), none⟩]
[6, 7])
.ret)
(.seq (.reg [⟨some 19, .mov (.t 0), none⟩,
⟨some 20, .faddr (.t 4) 0, none⟩,
⟨some 21, .load (.t 20), none⟩,
⟨some 22, .faddr (.t 5) 0, none⟩,
⟨some 23, .load (.t 22), none⟩,
⟨some 24, .call n_value_Type [.t 19, .t 21, .t 23], none⟩,
⟨some 25, .bin .eql (.t 24) (.k (.int .i64 0)), none⟩,
⟨some 18, .mov (.t 25), none⟩]
[0, 4, 5, 6, 18])
(.cond (.t 18)
(.seq (.reg [⟨some 26, .build [.int .i64 0, .int .i64 0, .str [], .bool false] [], none⟩,
⟨none, .store (.t 6) (.t 26) 4, none⟩,
⟨some 7, .mov (.k (.int .i64 8)), none⟩]
[6, 7])
.ret)
.skip)))))
(.seq (.seq (.reg [⟨some 27, .mov (.t 0), none⟩]
[0, 4, 5, 6, 27])
(.block 1
(.seq (.reg [⟨some 29, .bin .eql (.t 27) (.k (.int .i64 4)), none⟩,
⟨some 28, .mov (.t 29), none⟩]
[0, 4, 5, 6, 27, 28])
(.cond (.t 28)
(.seq (.reg [⟨some 30, .faddr (.t 4) 3, none⟩,
⟨some 31, .load (.t 30), none⟩,
⟨some 32, .un .not (.t 31), none⟩,
⟨some 33, .call n_value_truth [.t 32], none⟩,
⟨some 34, .ext (.t 33) 0, none⟩,
⟨some 35, .ext (.t 33) 1, none⟩,
⟨none, .store (.t 6) (.t 34) 4, none⟩,
⟨some 7, .mov (.t 35), none⟩]
[6, 7])
.ret)
(.seq (.reg [⟨some 37, .bin .eql (.t 27) (.k (.int .i64 6)), none⟩,
⟨some 36, .mov (.t 37), none⟩]
[0, 4, 5, 6, 27, 36])
(.cond (.t 36)
(.seq (.reg [⟨some 38, .faddr (.t 4) 3, none⟩,
⟨some 39, .load (.t 38), none⟩,
⟨some 40, .mov (.t 39), none⟩,
⟨some 41, .faddr (.t 5) 3, (some (40, true))⟩,
⟨some 42, .load (.t 41), (some (40, true))⟩,
⟨some 43, .pick (.t 40) (.t 42) (.k (.bool false)), none⟩,
⟨some 44, .call n_value_truth [.t 43], none⟩,
⟨some 45, .ext (.t 44) 0, none⟩,
⟨some 46, .ext (.t 44) 1, none⟩,
⟨none, .store (.t 6) (.t 45) 4, none⟩,
⟨some 7, .mov (.t 46), none⟩]
[6, 7])
.ret)
(.seq (.reg [⟨some 48, .bin .eql (.t 27) (.k (.int .i64 7)), none⟩,
⟨some 47, .mov (.t 48), none⟩]
[0, 4, 5, 6, 27, 47])
(.cond (.t 47)
(.seq (.reg [⟨some 49, .faddr (.t 4) 3, none⟩,
⟨some 50, .load (.t 49), none⟩,
⟨some 51, .mov (.t 50), none⟩,
⟨some 52, .faddr (.t 5) 3, (some (51, false))⟩,
⟨some 53, .load (.t 52), (some (51, false))⟩,
⟨some 54, .pick (.t 51) (.k (.bool true)) (.t 53), none⟩,
⟨some 55, .call n_value_truth [.t 54], none⟩,
⟨some 56, .ext (.t 55) 0, none⟩,
⟨some 57, .ext (.t 55) 1, none⟩,
⟨none, .store (.t 6) (.t 56) 4, none⟩,
⟨some 7, .mov (.t 57), none⟩]
[6, 7])
.ret)
(.seq (.reg [⟨some 59, .bin .eql (.t 27) (.k (.int .i64 13)), none⟩,
⟨some 58, .mov (.t 59), none⟩]
[0, 4, 5, 6, 27, 58])
(.cond (.t 58)
(.seq (.reg [⟨some 60, .loadN (.t 4) 4, none⟩,
⟨some 61, .loadN (.t 5) 4, none⟩,
⟨some 62, .eqA false [0, 0, 1, 2] (.t 60) (.t 61), none⟩,
⟨some 63, .call n_value_truth [.t 62], none⟩,
⟨some 64, .ext (.t 63) 0, none⟩,
⟨some 65, .ext (.t 63) 1, none⟩,
⟨none, .store (.t 6) (.t 64) 4, none⟩,
⟨some 7, .mov (.t 65), none⟩]
[6, 7])
.ret)
(.seq (.reg [⟨some 67, .bin .eql (.t 27) (.k (.int .i64 14)), none⟩,
⟨some 66, .mov (.t 67), none⟩]
[0, 4, 5, 6, 27, 66])
(.cond (.t 66)
(.seq (.reg [⟨some 68, .loadN (.t 4) 4, none⟩,
⟨some 69, .loadN (.t 5) 4, none⟩,
⟨some 70, .eqA true [0, 0, 1, 2] (.t 68) (.t 69), none⟩,
⟨some 71, .call n_value_truth [.t 70], none⟩,
⟨some 72, .ext (.t 71) 0, none⟩,
⟨some 73, .ext (.t 71) 1, none⟩,
⟨none, .store (.t 6) (.t 72) 4, none⟩,
⟨some 7, .mov (.t 73), none⟩]
[6, 7])
.ret)
(.seq (.reg [⟨some 75, .bin .eql (.t 27) (.k (.int .i64 15)), none⟩,
⟨some 74, .mov (.t 75), none⟩]
[0, 4, 5, 6, 27, 74])
(.cond (.t 74)
(.seq (.reg [⟨some 76, .loadN (.t 4) 4, none⟩,
⟨some 77, .loadN (.t 5) 4, none⟩,
⟨some 78, .call n_value_Less [.t 76, .t 77], none⟩,
⟨some 79, .call n_value_truth [.t 78], none⟩,
⟨some 80, .ext (.t 79) 0, none⟩,
⟨some 81, .ext (.t 79) 1, none⟩,
⟨none, .store (.t 6) (.t 80) 4, none⟩,
⟨some 7, .mov (.t 81), none⟩]
[6, 7])
.ret)
(.seq (.reg [⟨some 83, .bin .eql (.t 27) (.k (.int .i64 16)), none⟩,
⟨some 82, .mov (.t 83), none⟩]
[0, 4, 5, 6, 82])
(.cond (.t 82)
(.seq (.reg [⟨some 84, .loadN (.t 5) 4, none⟩,
⟨some 85, .loadN (.t 4) 4, none⟩,
⟨some 86, .call n_value_Less [.t 84, .t 85], none⟩,
⟨some 87, .un .not (.t 86), none⟩,
⟨some 88, .call n_value_truth [.t 87], none⟩,
⟨some 89, .ext (.t 88) 0, none⟩,
⟨some 90, .ext (.t 88) 1, none⟩,
⟨none, .store (.t 6) (.t 89) 4, none⟩,
⟨some 7, .mov (.t 90), none⟩]
[6, 7])
.ret)
.skip))))))))))))))))
(.seq (.seq (.reg [⟨some 91, .faddr (.t 4) 0, none⟩,
⟨some 92, .load (.t 91), none⟩,
⟨some 93, .bin .eql (.t 92) (.k (.int .i64 2)), none⟩]
[0, 4, 5, 6, 93])
(.cond (.t 93)
(.seq (.reg [⟨some 94, .faddr (.t 4) 2, none⟩,
⟨some 95, .load (.t 94), none⟩,
⟨some 96, .faddr (.t 5) 2, none⟩,
⟨some 97, .load (.t 96), none⟩,
⟨some 98, .bin .add (.t 95) (.t 97), none⟩,
⟨some 99, .call n_value_text [.t 98], none⟩,
⟨some 100, .ext (.t 99) 0, none⟩,
⟨some 101, .ext (.t 99) 1, none⟩,
⟨none, .store (.t 6) (.t 100) 4, none⟩,
⟨some 7, .mov (.t 101), none⟩]
[6, 7])
.ret)
.skip))
(.seq (.reg [⟨some 103, .mov (.t 0), none⟩,
⟨some 104, .faddr (.t 4) 1, none⟩,
⟨some 105, .load (.t 104), none⟩,
⟨some 106, .faddr (.t 5) 1, none⟩,
⟨some 107, .load (.t 106), none⟩,
⟨some 108, .call n_num_Op [.t 103, .t 105, .t 107], none⟩,
⟨some 102, .mov (.t 108), none⟩,
⟨some 109, .ext (.t 102) 0, none⟩,
⟨some 110, .ext (.t 102) 1, none⟩,
⟨some 8, .mov (.t 109), none⟩,
⟨some 9, .mov (.t 110), none⟩]
[6, 8, 9])
(.seq (.seq (.reg [⟨some 111, .mov (.t 9), none⟩,
⟨some 112, .bin .neq (.t 111) (.k (.int .i64 0)), none⟩]
[6, 8, 9, 112])
(.cond (.t 112)
(.seq (.reg [⟨some 113, .build [.int .i64 0, .int .i64 0, .str [], .bool false] [], none⟩,
⟨some 114, .mov (.t 9), none⟩,
⟨none, .store (.t 6) (.t 113) 4, none⟩,
⟨some 7, .mov (.t 114), none⟩]
[6, 7])
.ret)
.skip))
(.seq (.reg [⟨some 115, .mov (.t 8), none⟩,
⟨some 116, .call n_value_Int [.t 115], none⟩,
⟨none, .store (.t 6) (.t 116) 4, none⟩,
⟨some 7, .mov (.k (.int .i64 0)), none⟩]
[6, 7])
.ret)))))))⟩
theorem k_value_Op : chkF Go.Proofs.Tryz.prog Go.Proofs.Tryz.f147 c_value_Op = true := by kernel_rfl
theorem pc_value_Op {G : Nat → Option AV} {args : List AV} {r : AV} (h : Runs Go.Proofs.Tryz.prog G c_value_Op args r) (hk : args.length = c_value_Op.k := by rfl) : PureC Go.Proofs.Tryz.prog G n_value_Op args r := PureC.of_runs (fn := Go.Proofs.Tryz.f147) (A := c_value_Op) Go.Proofs.Tryz.func147 k_value_Op hk h
def c_value_text : AFun := ⟨10, 1, [.cells 2 4, .t 3],
  (.seq (.reg [⟨some 2, .alloc t_api_Value 4 (.agg [.int .i64 0, .int .i64 0, .str [], .bool false]), none⟩,
⟨some 3, .mov (.k (.int .i64 0)), none⟩]
[0, 2])
(.seq (.seq (.reg [⟨some 4, .mov (.t 0), none⟩,
⟨some 5, .len true (.t 4), none⟩,
⟨some 6, .bin .gtr (.t 5) (.k (.int .i64 4096)), none⟩]
[0, 2, 6])
(.cond (.t 6)
(.seq (.reg [⟨some 7, .build [.int .i64 0, .int .i64 0, .str [], .bool false] [], none⟩,
⟨none, .store (.t 2) (.t 7) 4, none⟩,
⟨some 3, .mov (.k (.int .i64 3)), none⟩]
[2, 3])
.ret)
.skip))
(.seq (.reg [⟨some 8, .mov (.t 0), none⟩,
⟨some 9, .call n_value_Str [.t 8], none⟩,
⟨none, .store (.t 2) (.t 9) 4, none⟩,
⟨some 3, .mov (.k (.int .i64 0)), none⟩]
[2, 3])
.ret)))⟩
theorem k_value_text : chkF Go.Proofs.Tryz.prog Go.Proofs.Tryz.f178 c_value_text = true := by kernel_rfl
theorem pc_value_text {G : Nat → Option AV} {args : List AV} {r : AV} (h : Runs Go.Proofs.Tryz.prog G c_value_text args r) (hk : args.length = c_value_text.k := by rfl) : PureC Go.Proofs.Tryz.prog G n_value_text args r := PureC.of_runs (fn := Go.Proofs.Tryz.f178) (A := c_value_text) Go.Proofs.Tryz.func178 k_value_text hk h
def c_value_truth : AFun := ⟨6, 1, [.cells 2 4, .t 3],
  (.seq (.reg [⟨some 2, .alloc t_api_Value 4 (.agg [.int .i64 0, .int .i64 0, .str [], .bool false]), none⟩,
⟨some 3, .mov (.k (.int .i64 0)), none⟩]
[0, 2])
(.seq (.reg [⟨some 4, .mov (.t 0), none⟩,
⟨some 5, .call n_value_Bool [.t 4], none⟩,
⟨none, .store (.t 2) (.t 5) 4, none⟩,
⟨some 3, .mov (.k (.int .i64 0)), none⟩]
[2, 3])
.ret))⟩
theorem k_value_truth : chkF Go.Proofs.Tryz.prog Go.Proofs.Tryz.f176 c_value_truth = true := by kernel_rfl
theorem pc_value_truth {G : Nat → Option AV} {args : List AV} {r : AV} (h : Runs Go.Proofs.Tryz.prog G c_value_truth args r) (hk : args.length = c_value_truth.k := by rfl) : PureC Go.Proofs.Tryz.prog G n_value_truth args r := PureC.of_runs (fn := Go.Proofs.Tryz.f176) (A := c_value_truth) Go.Proofs.Tryz.func176 k_value_truth hk h
def c_slices_EqualFunc_api_Value_api_Free_api_Value_api_Free : AFun := ⟨32, 3, [.t 6],
  (.seq (.reg [⟨some 6, .mov (.k (.bool false)), none⟩]
[0, 1, 2])
(.seq (.seq (.reg [⟨some 10, .mov (.t 0), none⟩,
⟨some 11, .len false (.t 10), none⟩,
⟨some 12, .mov (.t 1), none⟩,
⟨some 13, .len false (.t 12), none⟩,
⟨some 14, .bin .neq (.t 11) (.t 13), none⟩]
[0, 1, 2, 14])
(.cond (.t 14)
(.seq (.reg [⟨some 6, .mov (.k (.bool false)), none⟩]
[6])
.ret)
.skip))
(.seq (.seq (.reg [⟨some 15, .mov (.t 0), none⟩,
⟨some 16, .len false (.t 15), none⟩,
⟨some 17, .mov (.k (.int .i64 0)), none⟩]
[1, 2, 15, 16, 17])
(.block 0
(.loop [1, 2, 15, 16, 17] [11, 13, 16]
  (.seq (.reg [⟨some 18, .bin .lss (.t 17) (.t 16), none⟩]
[1, 2, 15, 16, 17, 18])
(.seq (.cond (.t 18)
.skip
(.exit 0))
(.seq (.block 1
(.seq (.reg [⟨some 19, .mov (.t 17), none⟩,
⟨some 20, .iaddr 4 (.t 15) (.t 17), none⟩,
⟨some 21, .loadN (.t 20) 4, none⟩,
⟨some 8, .alloc t_api_Value 4 (.agg [.int .i64 0, .int .i64 0, .str [], .bool false]), none⟩,
⟨some 7, .mov (.t 19), none⟩,
⟨none, .store (.t 8) (.t 21) 4, none⟩]
[1, 2, 7, 8, 15, 16, 17])
(.seq (.reg [⟨some 22, .mov (.t 1), none⟩,
⟨some 23, .mov (.t 7), none⟩,
⟨some 24, .iaddr 5 (.t 22) (.t 23), none⟩,
⟨some 25, .loadN (.t 24) 5, none⟩,
⟨some 9, .alloc t_api_Free 5 (.agg [.str [], .int .i64 0, .int .i64 0, .str [], .bool false]), none⟩,
⟨none, .store (.t 9) (.t 25) 5, none⟩]
[1, 2, 8, 9, 15, 16, 17])
(.seq (.reg [⟨some 26, .mov (.t 2), none⟩,
⟨some 27, .loadN (.t 8) 4, none⟩,
⟨some 28, .loadN (.t 9) 5, none⟩,
⟨some 29, .callv (.t 26) [.t 27, .t 28], none⟩,
⟨some 30, .un .not (.t 29), none⟩]
[1, 2, 15, 16, 17, 30])
(.cond (.t 30)
(.seq (.reg [⟨some 6, .mov (.k (.bool false)), none⟩]
[6])
.ret)
.skip)))))
(.reg [⟨some 31, .bin .add (.t 17) (.k (.int .i64 1)), none⟩,
⟨some 17, .mov (.t 31), none⟩]
[1, 2, 15, 16, 17])))))))
(.seq (.reg [⟨some 6, .mov (.k (.bool true)), none⟩]
[6])
.ret))))⟩
theorem k_slices_EqualFunc_api_Value_api_Free_api_Value_api_Free : chkF Go.Proofs.Tryz.prog Go.Proofs.Tryz.f88 c_slices_EqualFunc_api_Value_api_Free_api_Value_api_Free = true := by kernel_rfl
theorem pc_slices_EqualFunc_api_Value_api_Free_api_Value_api_Free {G : Nat → Option AV} {args : List AV} {r : AV} (h : Runs Go.Proofs.Tryz.prog G c_slices_EqualFunc_api_Value_api_Free_api_Value_api_Free args r) (hk : args.length = c_slices_EqualFunc_api_Value_api_Free_api_Value_api_Free.k := by rfl) : PureC Go.Proofs.Tryz.prog G n_slices_EqualFunc_api_Value_api_Free_api_Value_api_Free args r := PureC.of_runs (fn := Go.Proofs.Tryz.f88) (A := c_slices_EqualFunc_api_Value_api_Free_api_Value_api_Free) Go.Proofs.Tryz.func88 k_slices_EqualFunc_api_Value_api_Free_api_Value_api_Free hk h
def c_eval_Sets : AFun := ⟨64, 4, [.t 8, .t 9],
  (.seq (.reg [⟨some 4, .box t_api_Qea 9 (.t 0), none⟩,
⟨some 8, .nilrow t_api_Value 4, none⟩,
⟨some 9, .mov (.k (.int .i64 0)), none⟩]
[1, 2, 3, 4])
(.seq (.seq (.reg [⟨some 15, .mov (.t 1), none⟩,
⟨some 16, .bin .lss (.t 15) (.k (.int .i64 0)), none⟩,
⟨some 17, .mov (.t 16), none⟩,
⟨some 18, .mov (.t 1), (some (17, false))⟩,
⟨some 19, .faddr (.t 4) 8, (some (17, false))⟩,
⟨some 20, .load (.t 19), (some (17, false))⟩,
⟨some 21, .len false (.t 20), (some (17, false))⟩,
⟨some 22, .bin .geq (.t 18) (.t 21), (some (17, false))⟩,
⟨some 23, .pick (.t 17) (.k (.bool true)) (.t 22), none⟩,
⟨some 24, .mov (.t 23), none⟩,
⟨some 25, .loadN (.t 4) 9, (some (24, false))⟩,
⟨some 26, .mov (.t 3), (some (24, false))⟩,
⟨some 27, .call n_eval_Fits [.t 25, .t 26], (some (24, false))⟩,
⟨some 28, .un .not (.t 27), (some (24, false))⟩,
⟨some 29, .pick (.t 24) (.k (.bool true)) (.t 28), none⟩]
[1, 2, 3, 4, 29])
(.cond (.t 29)
(.seq (.reg [⟨some 8, .nilrow t_api_Value 4, none⟩,
⟨some 9, .mov (.k (.int .i64 1)), none⟩]
[8, 9])
.ret)
.skip))
(.seq (.reg [⟨some 30, .mov (.t 3), none⟩,
⟨some 31, .call n_slices_Clone_api_Value_api_Value [.t 30], none⟩,
⟨some 10, .mov (.t 31), none⟩]
[1, 2, 3, 4, 10])
(.seq (.seq (.reg [⟨some 32, .faddr (.t 4) 8, none⟩,
⟨some 33, .load (.t 32), none⟩,
⟨some 34, .mov (.t 1), none⟩,
⟨some 35, .iaddr 5 (.t 33) (.t 34), none⟩,
⟨some 36, .faddr (.t 35) 4, none⟩,
⟨some 37, .load (.t 36), none⟩,
⟨some 38, .len false (.t 37), none⟩,
⟨some 39, .mov (.k (.int .i64 0)), none⟩]
[2, 3, 4, 10, 37, 38, 39])
(.block 0
(.loop [2, 3, 4, 10, 37, 38, 39] [4, 8, 21, 27, 31, 38]
  (.seq (.reg [⟨some 40, .bin .lss (.t 39) (.t 38), none⟩]
[2, 3, 4, 10, 37, 38, 39, 40])
(.seq (.cond (.t 40)
.skip
(.exit 0))
(.seq (.block 1
(.seq (.reg [⟨some 41, .iaddr 2 (.t 37) (.t 39), none⟩,
⟨some 42, .loadN (.t 41) 2, none⟩,
⟨some 12, .alloc t_api_Set 2 (.agg [.int .i64 0, .int .i64 0]), none⟩,
⟨none, .store (.t 12) (.t 42) 2, none⟩]
[2, 3, 4, 10, 12, 37, 38, 39])
(.seq (.reg [⟨some 44, .loadN (.t 4) 9, none⟩,
⟨some 45, .mov (.t 2), none⟩,
⟨some 46, .mov (.t 3), none⟩,
⟨some 47, .build [.str [], .nils, .nils, .nils, .nils, .int .i64 0, .nils, .nils, .nils, .nils, .nils] [(0, 9, .t 44), (9, 1, .t 45), (10, 1, .t 46)], none⟩,
⟨some 48, .faddr (.t 12) 1, none⟩,
⟨some 49, .load (.t 48), none⟩,
⟨some 50, .call n_eval_frame_run [.t 47, .t 49], none⟩,
⟨some 43, .mov (.t 50), none⟩,
⟨some 51, .ext (.t 43) 0, none⟩,
⟨some 52, .ext (.t 43) 1, none⟩,
⟨some 13, .alloc t_api_Value 4 (.agg [.int .i64 0, .int .i64 0, .str [], .bool false]), none⟩,
⟨none, .store (.t 13) (.t 51) 4, none⟩,
⟨some 14, .mov (.t 52), none⟩]
[2, 3, 4, 10, 12, 13, 14, 37, 38, 39])
(.seq (.seq (.reg [⟨some 53, .mov (.t 14), none⟩,
⟨some 54, .eqI true (.t 53) (.k (.nili)), none⟩]
[2, 3, 4, 10, 12, 13, 14, 37, 38, 39, 54])
(.cond (.t 54)
(.seq (.reg [⟨some 55, .mov (.t 14), none⟩,
⟨some 56, .call n_eval_errno [.t 55], none⟩,
⟨some 8, .nilrow t_api_Value 4, none⟩,
⟨some 9, .mov (.t 56), none⟩]
[8, 9])
.ret)
.skip))
(.reg [⟨some 57, .mov (.t 10), none⟩,
⟨some 58, .faddr (.t 12) 0, none⟩,
⟨some 59, .load (.t 58), none⟩,
⟨some 60, .loadN (.t 13) 4, none⟩,
⟨some 61, .iaddr 4 (.t 57) (.t 59), none⟩,
⟨none, .store (.t 61) (.t 60) 4, none⟩]
[2, 3, 4, 10, 37, 38, 39])))))
(.reg [⟨some 62, .bin .add (.t 39) (.k (.int .i64 1)), none⟩,
⟨some 39, .mov (.t 62), none⟩]
[2, 3, 4, 10, 37, 38, 39])))))))
(.seq (.reg [⟨some 63, .mov (.t 10), none⟩,
⟨some 8, .mov (.t 63), none⟩,
⟨some 9, .mov (.k (.int .i64 0)), none⟩]
[8, 9])
.ret)))))⟩
theorem k_eval_Sets : chkF Go.Proofs.Tryz.prog Go.Proofs.Tryz.f32 c_eval_Sets = true := by kernel_rfl
theorem pc_eval_Sets {G : Nat → Option AV} {args : List AV} {r : AV} (h : Runs Go.Proofs.Tryz.prog G c_eval_Sets args r) (hk : args.length = c_eval_Sets.k := by rfl) : PureC Go.Proofs.Tryz.prog G n_eval_Sets args r := PureC.of_runs (fn := Go.Proofs.Tryz.f32) (A := c_eval_Sets) Go.Proofs.Tryz.func32 k_eval_Sets hk h
end Go.Proofs.YtdfdiglnpekcpabGreatDoor.Ab
