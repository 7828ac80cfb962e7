/-
  The functions' abstract code, by program (acgen.py), and that the model's code is it, reckoned by the kernel. No claim is proved here.
-/
import Derived.Test.YtdfdiglnpekcpabDoorWAbRun
import Derived.Test.YtdfdiglnpekcpabDoorProg
namespace Go.Proofs.YtdfdiglnpekcpabDoor.Ab
open Go
abbrev t_api_Qea : Nat := 30
abbrev t_api_Value : Nat := 46
abbrev t_api_Errno : Nat := 47
abbrev t_api_Slot : Nat := 55
abbrev t_api_Free : Nat := 62
abbrev t_api_State : Nat := 64
abbrev t_api_Node : Nat := 78
abbrev t_api_Decl : Nat := 81
abbrev t_api_Symbol : Nat := 84
abbrev t_api_Trans : Nat := 87
abbrev t_eval_frame : Nat := 95
abbrev t_core_expr : Nat := 124
abbrev t_eval_wrong : Nat := 128
abbrev t_Peval_wrong : Nat := 132
abbrev n_proctorlaw16_EvalFree : Nat := 5
abbrev n_proctorlaw16_awake : Nat := 16
abbrev n_eval_Value : Nat := 17
abbrev n_eval_Fits : Nat := 19
abbrev n_proctorlaw16_same : Nat := 21
abbrev n_eval_Free : Nat := 22
abbrev n_eval_Guard : Nat := 38
abbrev n_core_Kind : Nat := 39
abbrev n_eval_frame_run : Nat := 40
abbrev n_eval_errno : Nat := 41
abbrev n_slices_EqualFunc_api_Value_api_Free_api_Value_api_Free : Nat := 43
abbrev n_eval_Fits_1 : Nat := 44
abbrev n_value_Right : Nat := 45
abbrev n_slices_Clone_api_Value_api_Value : Nat := 48
abbrev n_value_Less : Nat := 60
abbrev n_core_exprs : Nat := 64
abbrev n_eval_frame_node : Nat := 66
abbrev n_errors_As : Nat := 67
abbrev n_errors_Is : Nat := 68
abbrev n_value_Int : Nat := 69
abbrev n_value_Str : Nat := 70
abbrev n_value_Bool : Nat := 71
abbrev n_core_leaf : Nat := 90
abbrev n_value_Type : Nat := 91
abbrev n_eval_frame_quant : Nat := 92
abbrev n_eval_must : Nat := 93
abbrev n_value_Op : Nat := 94
abbrev n_value_when : Nat := 115
abbrev n_value_Name : Nat := 116
abbrev n_binding_Get : Nat := 117
abbrev n_value_truth : Nat := 118
abbrev n_value_text : Nat := 119
abbrev n_num_Op : Nat := 120
abbrev n_num_Sub : Nat := 129
abbrev n_num_Add : Nat := 130
abbrev n_num_Mul : Nat := 131
abbrev n_num_Div : Nat := 132
abbrev n_num_Mod : Nat := 133
abbrev n_math_bits_Mul64 : Nat := 138
abbrev n_num_size : Nat := 139
abbrev n_num_Neg : Nat := 140
def c_eval_frame_node : AFun := ⟨98, 2, [.cells 4 4],
  (.seq (.reg [⟨some 2, .box t_eval_frame 11 (.t 0), none⟩,
⟨some 4, .alloc t_api_Value 4 (.agg [.int .i64 0, .int .i64 0, .str [], .bool false]), none⟩]
[1, 2, 4])
(.seq (.reg [⟨some 13, .faddr (.t 2) 0, none⟩,
⟨some 14, .faddr (.t 13) 7, none⟩,
⟨some 15, .load (.t 14), none⟩,
⟨some 16, .mov (.t 1), none⟩,
⟨some 17, .iaddr 7 (.t 15) (.t 16), none⟩,
⟨some 18, .loadN (.t 17) 7, none⟩,
⟨some 5, .alloc t_api_Node 7 (.agg [.int .i64 0, .int .i64 0, .int .i64 0, .int .i64 0, .int .i64 0, .str [], .bool false]), none⟩,
⟨none, .store (.t 5) (.t 18) 7, none⟩]
[1, 2, 4, 5])
(.seq (.seq (.reg [⟨some 19, .faddr (.t 5) 0, none⟩,
⟨some 20, .load (.t 19), none⟩]
[1, 2, 4, 5, 20])
(.block 0
(.seq (.reg [⟨some 22, .bin .eql (.t 20) (.k (.int .i64 1)), none⟩,
⟨some 21, .mov (.t 22), none⟩]
[1, 2, 4, 5, 20, 21])
(.cond (.t 21)
(.seq (.reg [⟨some 23, .faddr (.t 5) 3, none⟩,
⟨some 24, .loadN (.t 23) 4, none⟩,
⟨none, .store (.t 4) (.t 24) 4, none⟩]
[4])
.ret)
(.seq (.reg [⟨some 26, .bin .eql (.t 20) (.k (.int .i64 2)), none⟩,
⟨some 25, .mov (.t 26), none⟩]
[1, 2, 4, 5, 20, 25])
(.cond (.t 25)
(.seq (.reg [⟨some 28, .loadN (.t 2) 11, none⟩,
⟨some 29, .faddr (.t 5) 1, none⟩,
⟨some 30, .load (.t 29), none⟩,
⟨some 31, .call n_eval_frame_quant [.t 28, .t 30], none⟩,
⟨some 27, .mov (.t 31), none⟩,
⟨some 32, .ext (.t 27) 0, none⟩,
⟨some 33, .ext (.t 27) 1, none⟩,
⟨some 6, .alloc t_api_Value 4 (.agg [.int .i64 0, .int .i64 0, .str [], .bool false]), none⟩,
⟨none, .store (.t 6) (.t 32) 4, none⟩,
⟨some 7, .mov (.t 33), none⟩]
[1, 4, 6, 7])
(.seq (.reg [⟨some 34, .mov (.t 1), none⟩,
⟨some 35, .loadN (.t 6) 4, none⟩,
⟨some 36, .mov (.t 7), none⟩,
⟨some 37, .call n_eval_must [.t 34, .t 35, .t 36], none⟩,
⟨none, .store (.t 4) (.t 37) 4, none⟩]
[4])
.ret))
(.seq (.reg [⟨some 39, .bin .eql (.t 20) (.k (.int .i64 3)), none⟩,
⟨some 38, .mov (.t 39), none⟩]
[1, 2, 4, 5, 38])
(.cond (.t 38)
(.seq (.reg [⟨some 40, .faddr (.t 2) 10, none⟩,
⟨some 41, .load (.t 40), none⟩,
⟨some 42, .faddr (.t 5) 1, none⟩,
⟨some 43, .load (.t 42), none⟩,
⟨some 44, .iaddr 4 (.t 41) (.t 43), none⟩,
⟨some 45, .loadN (.t 44) 4, none⟩,
⟨none, .store (.t 4) (.t 45) 4, none⟩]
[4])
.ret)
.skip))))))))
(.seq (.reg [⟨some 46, .loadN (.t 2) 11, none⟩,
⟨some 47, .faddr (.t 5) 1, none⟩,
⟨some 48, .load (.t 47), none⟩,
⟨some 49, .call n_eval_frame_node [.t 46, .t 48], none⟩,
⟨some 8, .alloc t_api_Value 4 (.agg [.int .i64 0, .int .i64 0, .str [], .bool false]), none⟩,
⟨none, .store (.t 8) (.t 49) 4, none⟩]
[1, 2, 4, 5, 8])
(.seq (.block 1
(.seq (.reg [⟨some 51, .faddr (.t 5) 0, none⟩,
⟨some 52, .load (.t 51), none⟩,
⟨some 53, .bin .leq (.t 52) (.k (.int .i64 5)), none⟩,
⟨some 50, .mov (.t 53), none⟩]
[1, 2, 4, 5, 8, 50])
(.cond (.t 50)
(.seq (.reg [⟨some 55, .faddr (.t 5) 0, none⟩,
⟨some 56, .load (.t 55), none⟩,
⟨some 57, .loadN (.t 8) 4, none⟩,
⟨some 58, .build [.int .i64 0, .int .i64 0, .str [], .bool false] [], none⟩,
⟨some 59, .call n_value_Op [.t 56, .t 57, .t 58], none⟩,
⟨some 54, .mov (.t 59), none⟩,
⟨some 60, .ext (.t 54) 0, none⟩,
⟨some 61, .ext (.t 54) 1, none⟩,
⟨some 9, .alloc t_api_Value 4 (.agg [.int .i64 0, .int .i64 0, .str [], .bool false]), none⟩,
⟨none, .store (.t 9) (.t 60) 4, none⟩,
⟨some 10, .mov (.t 61), none⟩]
[1, 4, 9, 10])
(.seq (.reg [⟨some 62, .mov (.t 1), none⟩,
⟨some 63, .loadN (.t 9) 4, none⟩,
⟨some 64, .mov (.t 10), none⟩,
⟨some 65, .call n_eval_must [.t 62, .t 63, .t 64], none⟩,
⟨none, .store (.t 4) (.t 65) 4, none⟩]
[4])
.ret))
(.seq (.seq (.reg [⟨some 67, .faddr (.t 5) 0, none⟩,
⟨some 68, .load (.t 67), none⟩,
⟨some 69, .bin .eql (.t 68) (.k (.int .i64 6)), none⟩,
⟨some 70, .mov (.t 69), none⟩,
⟨some 71, .faddr (.t 8) 3, (some (70, true))⟩,
⟨some 72, .load (.t 71), (some (70, true))⟩,
⟨some 73, .un .not (.t 72), (some (70, true))⟩,
⟨some 74, .pick (.t 70) (.t 73) (.k (.bool false)), none⟩,
⟨some 66, .mov (.t 74), none⟩]
[1, 2, 4, 5, 8, 66])
(.cond (.t 66)
.skip
(.reg [⟨some 75, .faddr (.t 5) 0, none⟩,
⟨some 76, .load (.t 75), none⟩,
⟨some 77, .bin .eql (.t 76) (.k (.int .i64 7)), none⟩,
⟨some 78, .mov (.t 77), none⟩,
⟨some 79, .faddr (.t 8) 3, (some (78, true))⟩,
⟨some 80, .load (.t 79), (some (78, true))⟩,
⟨some 81, .pick (.t 78) (.t 80) (.k (.bool false)), none⟩,
⟨some 66, .mov (.t 81), none⟩]
[1, 2, 4, 5, 8, 66])))
(.cond (.t 66)
(.seq (.reg [⟨some 82, .loadN (.t 8) 4, none⟩,
⟨none, .store (.t 4) (.t 82) 4, none⟩]
[4])
.ret)
.skip)))))
(.seq (.dregA [⟨some 84, .faddr (.t 5) 0, none⟩,
⟨some 85, .load (.t 84), none⟩,
⟨some 86, .loadN (.t 8) 4, none⟩,
⟨some 87, .loadN (.t 2) 11, none⟩,
⟨some 88, .faddr (.t 5) 2, none⟩,
⟨some 89, .load (.t 88), none⟩,
⟨some 90, .call n_eval_frame_node [.t 87, .t 89], none⟩,
⟨some 91, .call n_value_Op [.t 85, .t 86, .t 90], none⟩,
⟨some 83, .mov (.t 91), none⟩,
⟨some 92, .ext (.t 83) 0, none⟩,
⟨some 93, .ext (.t 83) 1, none⟩,
⟨some 11, .alloc t_api_Value 4 (.agg [.int .i64 0, .int .i64 0, .str [], .bool false]), none⟩,
⟨none, .store (.t 11) (.t 92) 4, none⟩,
⟨some 12, .mov (.t 93), none⟩] 11 12 [1, 4, 11, 12, 83, 84, 85, 86, 87, 88, 89, 90, 91, 92, 93]
[1, 4, 11, 12])
(.seq (.reg [⟨some 94, .mov (.t 1), none⟩,
⟨some 95, .loadN (.t 11) 4, none⟩,
⟨some 96, .mov (.t 12), none⟩,
⟨some 97, .call n_eval_must [.t 94, .t 95, .t 96], none⟩,
⟨none, .store (.t 4) (.t 97) 4, none⟩]
[4])
.ret)))))))⟩
theorem k_eval_frame_node : chkF Go.Proofs.Tryd.prog Go.Proofs.Tryd.f66 c_eval_frame_node = true := by kernel_rfl
theorem pc_eval_frame_node {G : Nat → Option AV} {args : List AV} {r : AV} (h : Runs Go.Proofs.Tryd.prog G c_eval_frame_node args r) (hk : args.length = c_eval_frame_node.k := by rfl) : PureC Go.Proofs.Tryd.prog G n_eval_frame_node args r := PureC.of_runs (fn := Go.Proofs.Tryd.f66) (A := c_eval_frame_node) Go.Proofs.Tryd.func66 k_eval_frame_node hk h
def c_eval_frame_quant : AFun := ⟨31, 2, [.cells 4 4, .t 5],
  (.seq (.reg [⟨some 2, .box t_eval_frame 11 (.t 0), none⟩,
⟨some 4, .alloc t_api_Value 4 (.agg [.int .i64 0, .int .i64 0, .str [], .bool false]), none⟩,
⟨some 5, .mov (.k (.int .i64 0)), none⟩]
[1, 2, 4])
(.seq (.reg [⟨some 9, .faddr (.t 2) 9, none⟩,
⟨some 10, .load (.t 9), none⟩,
⟨some 11, .mov (.t 1), none⟩,
⟨some 12, .call n_binding_Get [.t 10, .t 11], none⟩,
⟨some 8, .mov (.t 12), none⟩,
⟨some 13, .ext (.t 8) 0, none⟩,
⟨some 14, .ext (.t 8) 1, none⟩,
⟨some 6, .alloc t_api_Value 4 (.agg [.int .i64 0, .int .i64 0, .str [], .bool false]), none⟩,
⟨none, .store (.t 6) (.t 13) 4, none⟩,
⟨some 7, .mov (.t 14), none⟩]
[1, 2, 4, 6, 7])
(.seq (.seq (.dreg [⟨some 15, .mov (.t 7), none⟩,
⟨some 16, .un .not (.t 15), none⟩,
⟨some 17, .mov (.t 16), none⟩,
⟨some 18, .faddr (.t 6) 0, (some (17, false))⟩,
⟨some 19, .load (.t 18), (some (17, false))⟩,
⟨some 20, .faddr (.t 2) 0, (some (17, false))⟩,
⟨some 21, .faddr (.t 20) 2, (some (17, false))⟩,
⟨some 22, .load (.t 21), (some (17, false))⟩,
⟨some 23, .mov (.t 1), (some (17, false))⟩,
⟨some 24, .iaddr 3 (.t 22) (.t 23), (some (17, false))⟩,
⟨some 25, .faddr (.t 24) 2, (some (17, false))⟩,
⟨some 26, .load (.t 25), (some (17, false))⟩,
⟨some 27, .bin .neq (.t 19) (.t 26), (some (17, false))⟩,
⟨some 28, .pick (.t 17) (.k (.bool true)) (.t 27), none⟩]
[4, 6, 28])
(.cond (.t 28)
(.seq (.reg [⟨some 29, .build [.int .i64 0, .int .i64 0, .str [], .bool false] [], none⟩,
⟨none, .store (.t 4) (.t 29) 4, none⟩,
⟨some 5, .mov (.k (.int .i64 9)), none⟩]
[4, 5])
.ret)
.skip))
(.seq (.reg [⟨some 30, .loadN (.t 6) 4, none⟩,
⟨none, .store (.t 4) (.t 30) 4, none⟩,
⟨some 5, .mov (.k (.int .i64 0)), none⟩]
[4, 5])
.ret))))⟩
theorem k_eval_frame_quant : chkF Go.Proofs.Tryd.prog Go.Proofs.Tryd.f92 c_eval_frame_quant = true := by kernel_rfl
theorem pc_eval_frame_quant {G : Nat → Option AV} {args : List AV} {r : AV} (h : Runs Go.Proofs.Tryd.prog G c_eval_frame_quant args r) (hk : args.length = c_eval_frame_quant.k := by rfl) : PureC Go.Proofs.Tryd.prog G n_eval_frame_quant args r := PureC.of_runs (fn := Go.Proofs.Tryd.f92) (A := c_eval_frame_quant) Go.Proofs.Tryd.func92 k_eval_frame_quant hk h
def c_binding_Get : AFun := ⟨22, 2, [.cells 4 4, .t 5],
  (.seq (.reg [⟨some 4, .alloc t_api_Value 4 (.agg [.int .i64 0, .int .i64 0, .str [], .bool false]), none⟩,
⟨some 5, .mov (.k (.bool false)), none⟩]
[0, 1, 4])
(.seq (.seq (.reg [⟨some 8, .mov (.t 0), none⟩,
⟨some 9, .len false (.t 8), none⟩,
⟨some 10, .mov (.k (.int .i64 0)), none⟩]
[1, 4, 8, 9, 10])
(.block 0
(.loop [1, 4, 8, 9, 10] [4, 9]
  (.seq (.reg [⟨some 11, .bin .lss (.t 10) (.t 9), none⟩]
[1, 4, 8, 9, 10, 11])
(.seq (.cond (.t 11)
.skip
(.exit 0))
(.seq (.block 1
(.seq (.reg [⟨some 12, .iaddr 5 (.t 8) (.t 10), none⟩,
⟨some 13, .loadN (.t 12) 5, none⟩,
⟨some 7, .alloc t_api_Slot 5 (.agg [.int .i64 0, .int .i64 0, .int .i64 0, .str [], .bool false]), none⟩,
⟨none, .store (.t 7) (.t 13) 5, none⟩]
[1, 4, 7, 8, 9, 10])
(.seq (.reg [⟨some 14, .faddr (.t 7) 0, none⟩,
⟨some 15, .load (.t 14), none⟩,
⟨some 16, .mov (.t 1), none⟩,
⟨some 17, .bin .eql (.t 15) (.t 16), none⟩]
[1, 4, 7, 8, 9, 10, 17])
(.cond (.t 17)
(.seq (.reg [⟨some 18, .faddr (.t 7) 1, none⟩,
⟨some 19, .loadN (.t 18) 4, none⟩,
⟨none, .store (.t 4) (.t 19) 4, none⟩,
⟨some 5, .mov (.k (.bool true)), none⟩]
[4, 5])
.ret)
.skip))))
(.reg [⟨some 20, .bin .add (.t 10) (.k (.int .i64 1)), none⟩,
⟨some 10, .mov (.t 20), none⟩]
[1, 4, 8, 9, 10])))))))
(.seq (.reg [⟨some 21, .build [.int .i64 0, .int .i64 0, .str [], .bool false] [], none⟩,
⟨none, .store (.t 4) (.t 21) 4, none⟩,
⟨some 5, .mov (.k (.bool false)), none⟩]
[4, 5])
.ret)))⟩
theorem k_binding_Get : chkF Go.Proofs.Tryd.prog Go.Proofs.Tryd.f117 c_binding_Get = true := by kernel_rfl
theorem pc_binding_Get {G : Nat → Option AV} {args : List AV} {r : AV} (h : Runs Go.Proofs.Tryd.prog G c_binding_Get args r) (hk : args.length = c_binding_Get.k := by rfl) : PureC Go.Proofs.Tryd.prog G n_binding_Get args r := PureC.of_runs (fn := Go.Proofs.Tryd.f117) (A := c_binding_Get) Go.Proofs.Tryd.func117 k_binding_Get hk h
def c_core_Kind : AFun := ⟨20, 2, [.t 4],
  (.seq (.reg [⟨some 2, .box t_api_Qea 9 (.t 0), none⟩,
⟨some 4, .mov (.k (.int .i64 0)), none⟩]
[1, 2])
(.seq (.seq (.reg [⟨some 5, .mov (.t 1), none⟩,
⟨some 6, .bin .lss (.t 5) (.k (.int .i64 0)), none⟩,
⟨some 7, .mov (.t 6), none⟩,
⟨some 8, .mov (.t 1), (some (7, false))⟩,
⟨some 9, .faddr (.t 2) 7, (some (7, false))⟩,
⟨some 10, .load (.t 9), (some (7, false))⟩,
⟨some 11, .len false (.t 10), (some (7, false))⟩,
⟨some 12, .bin .geq (.t 8) (.t 11), (some (7, false))⟩,
⟨some 13, .pick (.t 7) (.k (.bool true)) (.t 12), none⟩]
[1, 2, 13])
(.cond (.t 13)
(.seq (.reg [⟨some 4, .mov (.k (.int .i64 0)), none⟩]
[4])
.ret)
.skip))
(.seq (.reg [⟨some 14, .loadN (.t 2) 9, none⟩,
⟨some 15, .call n_core_exprs [.t 14], none⟩,
⟨some 16, .mov (.t 1), none⟩,
⟨some 17, .iaddr 3 (.t 15) (.t 16), none⟩,
⟨some 18, .faddr (.t 17) 0, none⟩,
⟨some 19, .load (.t 18), none⟩,
⟨some 4, .mov (.t 19), none⟩]
[4])
.ret)))⟩
theorem k_core_Kind : chkF Go.Proofs.Tryd.prog Go.Proofs.Tryd.f39 c_core_Kind = true := by kernel_rfl
theorem pc_core_Kind {G : Nat → Option AV} {args : List AV} {r : AV} (h : Runs Go.Proofs.Tryd.prog G c_core_Kind args r) (hk : args.length = c_core_Kind.k := by rfl) : PureC Go.Proofs.Tryd.prog G n_core_Kind args r := PureC.of_runs (fn := Go.Proofs.Tryd.f39) (A := c_core_Kind) Go.Proofs.Tryd.func39 k_core_Kind hk h
def c_core_exprs : AFun := ⟨147, 1, [.t 2],
  (.seq (.reg [⟨some 1, .box t_api_Qea 9 (.t 0), none⟩,
⟨some 2, .nilrow t_core_expr 3, none⟩]
[1])
(.seq (.reg [⟨some 10, .faddr (.t 1) 7, none⟩,
⟨some 11, .load (.t 10), none⟩,
⟨some 12, .len false (.t 11), none⟩,
⟨some 13, .mks t_core_expr 3 24 (.agg [.int .i64 0, .int .i64 0, .int .i64 0]) (.t 12) (.t 12), none⟩,
⟨some 3, .mov (.t 13), none⟩]
[1, 3])
(.seq (.seq (.reg [⟨some 14, .faddr (.t 1) 7, none⟩,
⟨some 15, .load (.t 14), none⟩,
⟨some 16, .len false (.t 15), none⟩,
⟨some 17, .mov (.k (.int .i64 0)), none⟩]
[1, 3, 15, 16, 17])
(.block 0
(.loop [1, 3, 15, 16, 17] [1, 2, 12, 13, 16]
  (.seq (.reg [⟨some 18, .bin .lss (.t 17) (.t 16), none⟩]
[1, 3, 15, 16, 17, 18])
(.seq (.cond (.t 18)
.skip
(.exit 0))
(.seq (.block 1
(.seq (.reg [⟨some 19, .mov (.t 17), none⟩,
⟨some 20, .iaddr 7 (.t 15) (.t 17), none⟩,
⟨some 21, .loadN (.t 20) 7, none⟩,
⟨some 5, .alloc t_api_Node 7 (.agg [.int .i64 0, .int .i64 0, .int .i64 0, .int .i64 0, .int .i64 0, .str [], .bool false]), none⟩,
⟨some 4, .mov (.t 19), none⟩,
⟨none, .store (.t 5) (.t 21) 7, none⟩]
[1, 3, 4, 5, 15, 16, 17])
(.seq (.seq (.reg [⟨some 23, .loadN (.t 1) 9, none⟩,
⟨some 24, .mov (.t 4), none⟩,
⟨some 25, .call n_core_leaf [.t 23, .t 24], none⟩,
⟨some 22, .mov (.t 25), none⟩,
⟨some 26, .ext (.t 22) 0, none⟩,
⟨some 27, .ext (.t 22) 1, none⟩,
⟨some 6, .alloc t_core_expr 3 (.agg [.int .i64 0, .int .i64 0, .int .i64 0]), none⟩,
⟨none, .store (.t 6) (.t 26) 3, none⟩,
⟨some 7, .mov (.t 27), none⟩]
[1, 3, 4, 5, 6, 7, 15, 16, 17])
(.seq (.reg [⟨some 28, .mov (.t 7), none⟩]
[1, 3, 4, 5, 6, 15, 16, 17, 28])
(.cond (.t 28)
(.seq (.reg [⟨some 29, .mov (.t 3), none⟩,
⟨some 30, .mov (.t 4), none⟩,
⟨some 31, .loadN (.t 6) 3, none⟩,
⟨some 32, .iaddr 3 (.t 29) (.t 30), none⟩,
⟨none, .store (.t 32) (.t 31) 3, none⟩]
[1, 3, 15, 16, 17])
(.exit 1))
.skip)))
(.seq (.seq (.reg [⟨some 33, .faddr (.t 5) 0, none⟩,
⟨some 34, .load (.t 33), none⟩,
⟨some 35, .bin .lss (.t 34) (.k (.int .i64 4)), none⟩,
⟨some 36, .mov (.t 35), none⟩,
⟨some 37, .faddr (.t 5) 0, (some (36, false))⟩,
⟨some 38, .load (.t 37), (some (36, false))⟩,
⟨some 39, .bin .gtr (.t 38) (.k (.int .i64 16)), (some (36, false))⟩,
⟨some 40, .pick (.t 36) (.k (.bool true)) (.t 39), none⟩,
⟨some 41, .mov (.t 40), none⟩,
⟨some 42, .mov (.t 4), (some (41, false))⟩,
⟨some 43, .bin .eql (.t 42) (.k (.int .i64 0)), (some (41, false))⟩,
⟨some 44, .pick (.t 41) (.k (.bool true)) (.t 43), none⟩,
⟨some 45, .mov (.t 44), none⟩,
⟨some 46, .mov (.t 3), (some (45, false))⟩,
⟨some 47, .mov (.t 4), (some (45, false))⟩,
⟨some 48, .bin .sub (.t 47) (.k (.int .i64 1)), (some (45, false))⟩,
⟨some 49, .iaddr 3 (.t 46) (.t 48), (some (45, false))⟩,
⟨some 50, .faddr (.t 49) 0, (some (45, false))⟩,
⟨some 51, .load (.t 50), (some (45, false))⟩,
⟨some 52, .bin .eql (.t 51) (.k (.int .i64 0)), (some (45, false))⟩,
⟨some 53, .pick (.t 45) (.k (.bool true)) (.t 52), none⟩,
⟨some 54, .mov (.t 53), none⟩,
⟨some 55, .faddr (.t 5) 3, (some (54, false))⟩,
⟨some 56, .loadN (.t 55) 4, (some (54, false))⟩,
⟨some 57, .build [.int .i64 0, .int .i64 0, .str [], .bool false] [], (some (54, false))⟩,
⟨some 58, .eqA true [0, 0, 1, 2] (.t 56) (.t 57), (some (54, false))⟩,
⟨some 59, .pick (.t 54) (.k (.bool true)) (.t 58), none⟩]
[1, 3, 4, 5, 15, 16, 17, 59])
(.cond (.t 59)
(.exit 1)
.skip))
(.seq (.reg [⟨some 60, .mov (.t 3), none⟩,
⟨some 61, .mov (.t 4), none⟩,
⟨some 62, .bin .sub (.t 61) (.k (.int .i64 1)), none⟩,
⟨some 63, .iaddr 3 (.t 60) (.t 62), none⟩,
⟨some 64, .loadN (.t 63) 3, none⟩,
⟨some 8, .alloc t_core_expr 3 (.agg [.int .i64 0, .int .i64 0, .int .i64 0]), none⟩,
⟨none, .store (.t 8) (.t 64) 3, none⟩]
[1, 3, 4, 5, 8, 15, 16, 17])
(.seq (.seq (.reg [⟨some 65, .faddr (.t 5) 0, none⟩,
⟨some 66, .load (.t 65), none⟩,
⟨some 67, .bin .leq (.t 66) (.k (.int .i64 5)), none⟩]
[1, 3, 4, 5, 8, 15, 16, 17, 67])
(.cond (.t 67)
(.seq (.seq (.reg [⟨some 68, .faddr (.t 5) 1, none⟩,
⟨some 69, .load (.t 68), none⟩,
⟨some 70, .mov (.t 4), none⟩,
⟨some 71, .bin .sub (.t 70) (.k (.int .i64 1)), none⟩,
⟨some 72, .bin .eql (.t 69) (.t 71), none⟩,
⟨some 73, .mov (.t 72), none⟩,
⟨some 74, .faddr (.t 5) 2, (some (73, true))⟩,
⟨some 75, .load (.t 74), (some (73, true))⟩,
⟨some 76, .bin .eql (.t 75) (.k (.int .i64 0)), (some (73, true))⟩,
⟨some 77, .pick (.t 73) (.t 76) (.k (.bool false)), none⟩]
[1, 3, 4, 5, 8, 15, 16, 17, 77])
(.cond (.t 77)
(.dreg [⟨some 78, .mov (.t 3), none⟩,
⟨some 79, .mov (.t 4), none⟩,
⟨some 80, .faddr (.t 5) 0, none⟩,
⟨some 81, .load (.t 80), none⟩,
⟨some 82, .faddr (.t 8) 0, none⟩,
⟨some 83, .load (.t 82), none⟩,
⟨some 84, .faddr (.t 8) 0, none⟩,
⟨some 85, .load (.t 84), none⟩,
⟨some 86, .call n_value_Type [.t 81, .t 83, .t 85], none⟩,
⟨some 87, .faddr (.t 8) 1, none⟩,
⟨some 88, .load (.t 87), none⟩,
⟨some 89, .bin .add (.t 88) (.k (.int .i64 1)), none⟩,
⟨some 90, .faddr (.t 8) 2, none⟩,
⟨some 91, .load (.t 90), none⟩,
⟨some 92, .build [.int .i64 0, .int .i64 0, .int .i64 0] [(0, 1, .t 86), (1, 1, .t 89), (2, 1, .t 91)], none⟩,
⟨some 93, .iaddr 3 (.t 78) (.t 79), none⟩,
⟨none, .store (.t 93) (.t 92) 3, none⟩]
[1, 3, 15, 16, 17])
.skip))
(.exit 1))
.skip))
(.seq (.reg [⟨some 94, .faddr (.t 5) 2, none⟩,
⟨some 95, .load (.t 94), none⟩,
⟨some 96, .mov (.t 4), none⟩,
⟨some 97, .bin .sub (.t 96) (.k (.int .i64 1)), none⟩,
⟨some 98, .bin .eql (.t 95) (.t 97), none⟩,
⟨some 99, .mov (.t 98), none⟩,
⟨some 100, .faddr (.t 5) 1, (some (99, true))⟩,
⟨some 101, .load (.t 100), (some (99, true))⟩,
⟨some 102, .faddr (.t 8) 2, (some (99, true))⟩,
⟨some 103, .load (.t 102), (some (99, true))⟩,
⟨some 104, .bin .sub (.t 103) (.k (.int .i64 1)), (some (99, true))⟩,
⟨some 105, .bin .eql (.t 101) (.t 104), (some (99, true))⟩,
⟨some 106, .pick (.t 99) (.t 105) (.k (.bool false)), none⟩,
⟨some 107, .mov (.t 106), none⟩,
⟨some 108, .faddr (.t 5) 1, (some (107, true))⟩,
⟨some 109, .load (.t 108), (some (107, true))⟩,
⟨some 110, .bin .geq (.t 109) (.k (.int .i64 0)), (some (107, true))⟩,
⟨some 111, .pick (.t 107) (.t 110) (.k (.bool false)), none⟩,
⟨some 112, .mov (.t 111), none⟩,
⟨some 113, .mov (.t 3), (some (112, true))⟩,
⟨some 114, .faddr (.t 5) 1, (some (112, true))⟩,
⟨some 115, .load (.t 114), (some (112, true))⟩,
⟨some 116, .iaddr 3 (.t 113) (.t 115), (some (112, true))⟩,
⟨some 117, .faddr (.t 116) 0, (some (112, true))⟩,
⟨some 118, .load (.t 117), (some (112, true))⟩,
⟨some 119, .bin .neq (.t 118) (.k (.int .i64 0)), (some (112, true))⟩,
⟨some 120, .pick (.t 112) (.t 119) (.k (.bool false)), none⟩]
[1, 3, 4, 5, 8, 15, 16, 17, 120])
(.cond (.t 120)
(.seq (.reg [⟨some 121, .mov (.t 3), none⟩,
⟨some 122, .faddr (.t 5) 1, none⟩,
⟨some 123, .load (.t 122), none⟩,
⟨some 124, .iaddr 3 (.t 121) (.t 123), none⟩,
⟨some 125, .loadN (.t 124) 3, none⟩,
⟨some 9, .alloc t_core_expr 3 (.agg [.int .i64 0, .int .i64 0, .int .i64 0]), none⟩,
⟨none, .store (.t 9) (.t 125) 3, none⟩]
[1, 3, 4, 5, 8, 9, 15, 16, 17])
(.dreg [⟨some 126, .mov (.t 3), none⟩,
⟨some 127, .mov (.t 4), none⟩,
⟨some 128, .faddr (.t 5) 0, none⟩,
⟨some 129, .load (.t 128), none⟩,
⟨some 130, .faddr (.t 9) 0, none⟩,
⟨some 131, .load (.t 130), none⟩,
⟨some 132, .faddr (.t 8) 0, none⟩,
⟨some 133, .load (.t 132), none⟩,
⟨some 134, .call n_value_Type [.t 129, .t 131, .t 133], none⟩,
⟨some 135, .faddr (.t 9) 1, none⟩,
⟨some 136, .load (.t 135), none⟩,
⟨some 137, .faddr (.t 8) 1, none⟩,
⟨some 138, .load (.t 137), none⟩,
⟨some 139, .mx false (.t 136) (.t 138), none⟩,
⟨some 140, .bin .add (.t 139) (.k (.int .i64 1)), none⟩,
⟨some 141, .faddr (.t 9) 2, none⟩,
⟨some 142, .load (.t 141), none⟩,
⟨some 143, .build [.int .i64 0, .int .i64 0, .int .i64 0] [(0, 1, .t 134), (1, 1, .t 140), (2, 1, .t 142)], none⟩,
⟨some 144, .iaddr 3 (.t 126) (.t 127), none⟩,
⟨none, .store (.t 144) (.t 143) 3, none⟩]
[1, 3, 15, 16, 17]))
.skip))))))))
(.reg [⟨some 145, .bin .add (.t 17) (.k (.int .i64 1)), none⟩,
⟨some 17, .mov (.t 145), none⟩]
[1, 3, 15, 16, 17])))))))
(.seq (.reg [⟨some 146, .mov (.t 3), none⟩,
⟨some 2, .mov (.t 146), none⟩]
[2])
.ret))))⟩
theorem k_core_exprs : chkF Go.Proofs.Tryd.prog Go.Proofs.Tryd.f64 c_core_exprs = true := by kernel_rfl
theorem pc_core_exprs {G : Nat → Option AV} {args : List AV} {r : AV} (h : Runs Go.Proofs.Tryd.prog G c_core_exprs args r) (hk : args.length = c_core_exprs.k := by rfl) : PureC Go.Proofs.Tryd.prog G n_core_exprs args r := PureC.of_runs (fn := Go.Proofs.Tryd.f64) (A := c_core_exprs) Go.Proofs.Tryd.func64 k_core_exprs hk h
def c_core_leaf : AFun := ⟨105, 2, [.cells 4 3, .t 5],
  (.seq (.reg [⟨some 2, .box t_api_Qea 9 (.t 0), none⟩,
⟨some 4, .alloc t_core_expr 3 (.agg [.int .i64 0, .int .i64 0, .int .i64 0]), none⟩,
⟨some 5, .mov (.k (.bool false)), none⟩]
[1, 2, 4])
(.seq (.reg [⟨some 8, .faddr (.t 2) 7, none⟩,
⟨some 9, .load (.t 8), none⟩,
⟨some 10, .mov (.t 1), none⟩,
⟨some 11, .iaddr 7 (.t 9) (.t 10), none⟩,
⟨some 12, .loadN (.t 11) 7, none⟩,
⟨some 6, .alloc t_api_Node 7 (.agg [.int .i64 0, .int .i64 0, .int .i64 0, .int .i64 0, .int .i64 0, .str [], .bool false]), none⟩,
⟨none, .store (.t 6) (.t 12) 7, none⟩]
[1, 2, 4, 6])
(.seq (.reg [⟨some 13, .faddr (.t 6) 0, none⟩,
⟨some 14, .load (.t 13), none⟩,
⟨some 15, .faddr (.t 6) 1, none⟩,
⟨some 16, .load (.t 15), none⟩,
⟨some 17, .build [.int .i64 0, .int .i64 0, .int .i64 0, .int .i64 0, .int .i64 0, .str [], .bool false] [(0, 1, .t 14), (1, 1, .t 16)], none⟩,
⟨some 7, .alloc t_api_Node 7 (.agg [.int .i64 0, .int .i64 0, .int .i64 0, .int .i64 0, .int .i64 0, .str [], .bool false]), none⟩,
⟨none, .store (.t 7) (.t 17) 7, none⟩]
[1, 2, 4, 6, 7])
(.seq (.block 0
(.seq (.reg [⟨some 19, .faddr (.t 6) 0, none⟩,
⟨some 20, .load (.t 19), none⟩,
⟨some 21, .bin .eql (.t 20) (.k (.int .i64 1)), none⟩,
⟨some 22, .mov (.t 21), none⟩,
⟨some 23, .loadN (.t 6) 7, (some (22, true))⟩,
⟨some 24, .faddr (.t 6) 0, (some (22, true))⟩,
⟨some 25, .load (.t 24), (some (22, true))⟩,
⟨some 26, .faddr (.t 6) 3, (some (22, true))⟩,
⟨some 27, .loadN (.t 26) 4, (some (22, true))⟩,
⟨some 28, .build [.int .i64 0, .int .i64 0, .int .i64 0, .int .i64 0, .int .i64 0, .str [], .bool false] [(0, 1, .t 25), (3, 4, .t 27)], (some (22, true))⟩,
⟨some 29, .eqA false [0, 0, 0, 0, 0, 1, 2] (.t 23) (.t 28), (some (22, true))⟩,
⟨some 30, .pick (.t 22) (.t 29) (.k (.bool false)), none⟩,
⟨some 31, .mov (.t 30), none⟩,
⟨some 32, .faddr (.t 6) 3, (some (31, true))⟩,
⟨some 33, .loadN (.t 32) 4, (some (31, true))⟩,
⟨some 34, .call n_value_Right [.t 33], (some (31, true))⟩,
⟨some 35, .pick (.t 31) (.t 34) (.k (.bool false)), none⟩,
⟨some 18, .mov (.t 35), none⟩]
[1, 2, 4, 6, 7, 18])
(.cond (.t 18)
(.seq (.reg [⟨some 36, .faddr (.t 6) 3, none⟩,
⟨some 37, .faddr (.t 36) 0, none⟩,
⟨some 38, .load (.t 37), none⟩,
⟨some 39, .mov (.t 1), none⟩,
⟨some 40, .build [.int .i64 0, .int .i64 0, .int .i64 0] [(0, 1, .t 38), (1, 1, .k (.int .i64 1)), (2, 1, .t 39)], none⟩,
⟨none, .store (.t 4) (.t 40) 3, none⟩,
⟨some 5, .mov (.k (.bool true)), none⟩]
[4, 5])
.ret)
(.seq (.reg [⟨some 42, .faddr (.t 6) 0, none⟩,
⟨some 43, .load (.t 42), none⟩,
⟨some 44, .bin .eql (.t 43) (.k (.int .i64 2)), none⟩,
⟨some 45, .mov (.t 44), none⟩,
⟨some 46, .loadN (.t 6) 7, (some (45, true))⟩,
⟨some 47, .loadN (.t 7) 7, (some (45, true))⟩,
⟨some 48, .eqA false [0, 0, 0, 0, 0, 1, 2] (.t 46) (.t 47), (some (45, true))⟩,
⟨some 49, .pick (.t 45) (.t 48) (.k (.bool false)), none⟩,
⟨some 50, .mov (.t 49), none⟩,
⟨some 51, .faddr (.t 6) 1, (some (50, true))⟩,
⟨some 52, .load (.t 51), (some (50, true))⟩,
⟨some 53, .bin .geq (.t 52) (.k (.int .i64 0)), (some (50, true))⟩,
⟨some 54, .pick (.t 50) (.t 53) (.k (.bool false)), none⟩,
⟨some 55, .mov (.t 54), none⟩,
⟨some 56, .faddr (.t 6) 1, (some (55, true))⟩,
⟨some 57, .load (.t 56), (some (55, true))⟩,
⟨some 58, .faddr (.t 2) 2, (some (55, true))⟩,
⟨some 59, .load (.t 58), (some (55, true))⟩,
⟨some 60, .len false (.t 59), (some (55, true))⟩,
⟨some 61, .bin .lss (.t 57) (.t 60), (some (55, true))⟩,
⟨some 62, .pick (.t 55) (.t 61) (.k (.bool false)), none⟩,
⟨some 41, .mov (.t 62), none⟩]
[1, 2, 4, 6, 7, 41])
(.cond (.t 41)
(.seq (.reg [⟨some 63, .faddr (.t 2) 2, none⟩,
⟨some 64, .load (.t 63), none⟩,
⟨some 65, .faddr (.t 6) 1, none⟩,
⟨some 66, .load (.t 65), none⟩,
⟨some 67, .iaddr 3 (.t 64) (.t 66), none⟩,
⟨some 68, .faddr (.t 67) 2, none⟩,
⟨some 69, .load (.t 68), none⟩,
⟨some 70, .mov (.t 1), none⟩,
⟨some 71, .build [.int .i64 0, .int .i64 0, .int .i64 0] [(0, 1, .t 69), (1, 1, .k (.int .i64 1)), (2, 1, .t 70)], none⟩,
⟨none, .store (.t 4) (.t 71) 3, none⟩,
⟨some 5, .mov (.k (.bool true)), none⟩]
[4, 5])
.ret)
(.seq (.reg [⟨some 73, .faddr (.t 6) 0, none⟩,
⟨some 74, .load (.t 73), none⟩,
⟨some 75, .bin .eql (.t 74) (.k (.int .i64 3)), none⟩,
⟨some 76, .mov (.t 75), none⟩,
⟨some 77, .loadN (.t 6) 7, (some (76, true))⟩,
⟨some 78, .loadN (.t 7) 7, (some (76, true))⟩,
⟨some 79, .eqA false [0, 0, 0, 0, 0, 1, 2] (.t 77) (.t 78), (some (76, true))⟩,
⟨some 80, .pick (.t 76) (.t 79) (.k (.bool false)), none⟩,
⟨some 81, .mov (.t 80), none⟩,
⟨some 82, .faddr (.t 6) 1, (some (81, true))⟩,
⟨some 83, .load (.t 82), (some (81, true))⟩,
⟨some 84, .bin .geq (.t 83) (.k (.int .i64 0)), (some (81, true))⟩,
⟨some 85, .pick (.t 81) (.t 84) (.k (.bool false)), none⟩,
⟨some 86, .mov (.t 85), none⟩,
⟨some 87, .faddr (.t 6) 1, (some (86, true))⟩,
⟨some 88, .load (.t 87), (some (86, true))⟩,
⟨some 89, .faddr (.t 2) 3, (some (86, true))⟩,
⟨some 90, .load (.t 89), (some (86, true))⟩,
⟨some 91, .len false (.t 90), (some (86, true))⟩,
⟨some 92, .bin .lss (.t 88) (.t 91), (some (86, true))⟩,
⟨some 93, .pick (.t 86) (.t 92) (.k (.bool false)), none⟩,
⟨some 72, .mov (.t 93), none⟩]
[1, 2, 4, 6, 72])
(.cond (.t 72)
(.seq (.reg [⟨some 94, .faddr (.t 2) 3, none⟩,
⟨some 95, .load (.t 94), none⟩,
⟨some 96, .faddr (.t 6) 1, none⟩,
⟨some 97, .load (.t 96), none⟩,
⟨some 98, .iaddr 5 (.t 95) (.t 97), none⟩,
⟨some 99, .faddr (.t 98) 1, none⟩,
⟨some 100, .faddr (.t 99) 0, none⟩,
⟨some 101, .load (.t 100), none⟩,
⟨some 102, .mov (.t 1), none⟩,
⟨some 103, .build [.int .i64 0, .int .i64 0, .int .i64 0] [(0, 1, .t 101), (1, 1, .k (.int .i64 1)), (2, 1, .t 102)], none⟩,
⟨none, .store (.t 4) (.t 103) 3, none⟩,
⟨some 5, .mov (.k (.bool true)), none⟩]
[4, 5])
.ret)
.skip)))))))
(.seq (.reg [⟨some 104, .build [.int .i64 0, .int .i64 0, .int .i64 0] [], none⟩,
⟨none, .store (.t 4) (.t 104) 3, none⟩,
⟨some 5, .mov (.k (.bool false)), none⟩]
[4, 5])
.ret)))))⟩
theorem k_core_leaf : chkF Go.Proofs.Tryd.prog Go.Proofs.Tryd.f90 c_core_leaf = true := by kernel_rfl
theorem pc_core_leaf {G : Nat → Option AV} {args : List AV} {r : AV} (h : Runs Go.Proofs.Tryd.prog G c_core_leaf args r) (hk : args.length = c_core_leaf.k := by rfl) : PureC Go.Proofs.Tryd.prog G n_core_leaf args r := PureC.of_runs (fn := Go.Proofs.Tryd.f90) (A := c_core_leaf) Go.Proofs.Tryd.func90 k_core_leaf hk h
def c_eval_Fits : AFun := ⟨9, 2, [.t 4],
  (.seq (.reg [⟨some 2, .box t_api_Qea 9 (.t 0), none⟩,
⟨some 4, .mov (.k (.bool false)), none⟩]
[1, 2])
(.seq (.reg [⟨some 5, .mov (.t 1), none⟩,
⟨some 6, .faddr (.t 2) 3, none⟩,
⟨some 7, .load (.t 6), none⟩,
⟨some 8, .call n_slices_EqualFunc_api_Value_api_Free_api_Value_api_Free [.t 5, .t 7, .f n_eval_Fits_1], none⟩,
⟨some 4, .mov (.t 8), none⟩]
[4])
.ret))⟩
theorem k_eval_Fits : chkF Go.Proofs.Tryd.prog Go.Proofs.Tryd.f19 c_eval_Fits = true := by kernel_rfl
theorem pc_eval_Fits {G : Nat → Option AV} {args : List AV} {r : AV} (h : Runs Go.Proofs.Tryd.prog G c_eval_Fits args r) (hk : args.length = c_eval_Fits.k := by rfl) : PureC Go.Proofs.Tryd.prog G n_eval_Fits args r := PureC.of_runs (fn := Go.Proofs.Tryd.f19) (A := c_eval_Fits) Go.Proofs.Tryd.func19 k_eval_Fits hk h
def c_eval_Fits_1 : AFun := ⟨15, 2, [.t 4],
  (.seq (.reg [⟨some 2, .box t_api_Value 4 (.t 0), none⟩,
⟨some 3, .box t_api_Free 5 (.t 1), none⟩,
⟨some 4, .mov (.k (.bool false)), none⟩]
[2, 3])
(.seq (.reg [⟨some 5, .loadN (.t 2) 4, none⟩,
⟨some 6, .call n_value_Right [.t 5], none⟩,
⟨some 7, .mov (.t 6), none⟩,
⟨some 8, .faddr (.t 2) 0, (some (7, true))⟩,
⟨some 9, .load (.t 8), (some (7, true))⟩,
⟨some 10, .faddr (.t 3) 1, (some (7, true))⟩,
⟨some 11, .faddr (.t 10) 0, (some (7, true))⟩,
⟨some 12, .load (.t 11), (some (7, true))⟩,
⟨some 13, .bin .eql (.t 9) (.t 12), (some (7, true))⟩,
⟨some 14, .pick (.t 7) (.t 13) (.k (.bool false)), none⟩,
⟨some 4, .mov (.t 14), none⟩]
[4])
.ret))⟩
theorem k_eval_Fits_1 : chkF Go.Proofs.Tryd.prog Go.Proofs.Tryd.f44 c_eval_Fits_1 = true := by kernel_rfl
theorem pc_eval_Fits_1 {G : Nat → Option AV} {args : List AV} {r : AV} (h : Runs Go.Proofs.Tryd.prog G c_eval_Fits_1 args r) (hk : args.length = c_eval_Fits_1.k := by rfl) : PureC Go.Proofs.Tryd.prog G n_eval_Fits_1 args r := PureC.of_runs (fn := Go.Proofs.Tryd.f44) (A := c_eval_Fits_1) Go.Proofs.Tryd.func44 k_eval_Fits_1 hk h
def c_eval_Free : AFun := ⟨34, 2, [.t 4],
  (.seq (.reg [⟨some 4, .nilrow t_api_Value 4, none⟩]
[0, 1])
(.seq (.reg [⟨some 8, .mov (.t 0), none⟩,
⟨some 9, .call n_slices_Clone_api_Value_api_Value [.t 8], none⟩,
⟨some 5, .mov (.t 9), none⟩]
[1, 5])
(.seq (.seq (.reg [⟨some 10, .mov (.t 1), none⟩,
⟨some 11, .len false (.t 10), none⟩,
⟨some 12, .mov (.k (.int .i64 0)), none⟩]
[5, 10, 11, 12])
(.block 0
(.loop [5, 10, 11, 12] [4, 9, 11]
  (.seq (.reg [⟨some 13, .bin .lss (.t 12) (.t 11), none⟩]
[5, 10, 11, 12, 13])
(.seq (.cond (.t 13)
.skip
(.exit 0))
(.seq (.block 1
(.seq (.reg [⟨some 14, .iaddr 5 (.t 10) (.t 12), none⟩,
⟨some 15, .loadN (.t 14) 5, none⟩,
⟨some 7, .alloc t_api_Slot 5 (.agg [.int .i64 0, .int .i64 0, .int .i64 0, .str [], .bool false]), none⟩,
⟨none, .store (.t 7) (.t 15) 5, none⟩]
[5, 7, 10, 11, 12])
(.seq (.reg [⟨some 16, .faddr (.t 7) 0, none⟩,
⟨some 17, .load (.t 16), none⟩,
⟨some 18, .bin .geq (.t 17) (.k (.int .i64 0)), none⟩,
⟨some 19, .mov (.t 18), none⟩,
⟨some 20, .faddr (.t 7) 0, (some (19, true))⟩,
⟨some 21, .load (.t 20), (some (19, true))⟩,
⟨some 22, .mov (.t 5), (some (19, true))⟩,
⟨some 23, .len false (.t 22), (some (19, true))⟩,
⟨some 24, .bin .lss (.t 21) (.t 23), (some (19, true))⟩,
⟨some 25, .pick (.t 19) (.t 24) (.k (.bool false)), none⟩]
[5, 7, 10, 11, 12, 25])
(.cond (.t 25)
(.reg [⟨some 26, .mov (.t 5), none⟩,
⟨some 27, .faddr (.t 7) 0, none⟩,
⟨some 28, .load (.t 27), none⟩,
⟨some 29, .faddr (.t 7) 1, none⟩,
⟨some 30, .loadN (.t 29) 4, none⟩,
⟨some 31, .iaddr 4 (.t 26) (.t 28), none⟩,
⟨none, .store (.t 31) (.t 30) 4, none⟩]
[5, 10, 11, 12])
.skip))))
(.reg [⟨some 32, .bin .add (.t 12) (.k (.int .i64 1)), none⟩,
⟨some 12, .mov (.t 32), none⟩]
[5, 10, 11, 12])))))))
(.seq (.reg [⟨some 33, .mov (.t 5), none⟩,
⟨some 4, .mov (.t 33), none⟩]
[4])
.ret))))⟩
theorem k_eval_Free : chkF Go.Proofs.Tryd.prog Go.Proofs.Tryd.f22 c_eval_Free = true := by kernel_rfl
theorem pc_eval_Free {G : Nat → Option AV} {args : List AV} {r : AV} (h : Runs Go.Proofs.Tryd.prog G c_eval_Free args r) (hk : args.length = c_eval_Free.k := by rfl) : PureC Go.Proofs.Tryd.prog G n_eval_Free args r := PureC.of_runs (fn := Go.Proofs.Tryd.f22) (A := c_eval_Free) Go.Proofs.Tryd.func22 k_eval_Free hk h
def c_eval_Guard : AFun := ⟨54, 4, [.t 8, .t 9],
  (.seq (.reg [⟨some 4, .box t_api_Qea 9 (.t 0), none⟩,
⟨some 8, .mov (.k (.bool false)), none⟩,
⟨some 9, .mov (.k (.int .i64 0)), none⟩]
[1, 2, 3, 4])
(.seq (.block 0
(.seq (.reg [⟨some 13, .mov (.t 1), none⟩,
⟨some 14, .bin .lss (.t 13) (.k (.int .i64 0)), none⟩,
⟨some 15, .mov (.t 14), none⟩,
⟨some 16, .mov (.t 1), (some (15, false))⟩,
⟨some 17, .faddr (.t 4) 8, (some (15, false))⟩,
⟨some 18, .load (.t 17), (some (15, false))⟩,
⟨some 19, .len false (.t 18), (some (15, false))⟩,
⟨some 20, .bin .geq (.t 16) (.t 19), (some (15, false))⟩,
⟨some 21, .pick (.t 15) (.k (.bool true)) (.t 20), none⟩,
⟨some 22, .mov (.t 21), none⟩,
⟨some 23, .loadN (.t 4) 9, (some (22, false))⟩,
⟨some 24, .mov (.t 3), (some (22, false))⟩,
⟨some 25, .call n_eval_Fits [.t 23, .t 24], (some (22, false))⟩,
⟨some 26, .un .not (.t 25), (some (22, false))⟩,
⟨some 27, .pick (.t 22) (.k (.bool true)) (.t 26), none⟩,
⟨some 12, .mov (.t 27), none⟩]
[1, 2, 3, 4, 12])
(.cond (.t 12)
(.seq (.reg [⟨some 8, .mov (.k (.bool false)), none⟩,
⟨some 9, .mov (.k (.int .i64 1)), none⟩]
[8, 9])
.ret)
(.seq (.reg [⟨some 29, .faddr (.t 4) 8, none⟩,
⟨some 30, .load (.t 29), none⟩,
⟨some 31, .mov (.t 1), none⟩,
⟨some 32, .iaddr 5 (.t 30) (.t 31), none⟩,
⟨some 33, .faddr (.t 32) 3, none⟩,
⟨some 34, .load (.t 33), none⟩,
⟨some 35, .bin .lss (.t 34) (.k (.int .i64 0)), none⟩,
⟨some 28, .mov (.t 35), none⟩]
[1, 2, 3, 4, 28])
(.cond (.t 28)
(.seq (.reg [⟨some 8, .mov (.k (.bool true)), none⟩,
⟨some 9, .mov (.k (.int .i64 0)), none⟩]
[8, 9])
.ret)
.skip)))))
(.seq (.dregA [⟨some 37, .loadN (.t 4) 9, none⟩,
⟨some 38, .mov (.t 2), none⟩,
⟨some 39, .mov (.t 3), none⟩,
⟨some 40, .build [.str [], .nils, .nils, .nils, .nils, .int .i64 0, .nils, .nils, .nils, .nils, .nils] [(0, 9, .t 37), (9, 1, .t 38), (10, 1, .t 39)], none⟩,
⟨some 41, .faddr (.t 4) 8, none⟩,
⟨some 42, .load (.t 41), none⟩,
⟨some 43, .mov (.t 1), none⟩,
⟨some 44, .iaddr 5 (.t 42) (.t 43), none⟩,
⟨some 45, .faddr (.t 44) 3, none⟩,
⟨some 46, .load (.t 45), none⟩,
⟨some 47, .call n_eval_frame_run [.t 40, .t 46], none⟩,
⟨some 36, .mov (.t 47), none⟩,
⟨some 48, .ext (.t 36) 0, none⟩,
⟨some 49, .ext (.t 36) 1, none⟩,
⟨some 10, .alloc t_api_Value 4 (.agg [.int .i64 0, .int .i64 0, .str [], .bool false]), none⟩,
⟨none, .store (.t 10) (.t 48) 4, none⟩,
⟨some 11, .mov (.t 49), none⟩] 14 15 [10, 11, 36, 37, 38, 39, 40, 41, 42, 43, 44, 45, 46, 47, 48, 49]
[10, 11])
(.seq (.dreg [⟨some 50, .faddr (.t 10) 3, none⟩,
⟨some 51, .load (.t 50), none⟩,
⟨some 52, .mov (.t 11), none⟩,
⟨some 53, .call n_eval_errno [.t 52], none⟩,
⟨some 8, .mov (.t 51), none⟩,
⟨some 9, .mov (.t 53), none⟩]
[8, 9])
.ret))))⟩
theorem k_eval_Guard : chkF Go.Proofs.Tryd.prog Go.Proofs.Tryd.f38 c_eval_Guard = true := by kernel_rfl
theorem pc_eval_Guard {G : Nat → Option AV} {args : List AV} {r : AV} (h : Runs Go.Proofs.Tryd.prog G c_eval_Guard args r) (hk : args.length = c_eval_Guard.k := by rfl) : PureC Go.Proofs.Tryd.prog G n_eval_Guard args r := PureC.of_runs (fn := Go.Proofs.Tryd.f38) (A := c_eval_Guard) Go.Proofs.Tryd.func38 k_eval_Guard hk h
def c_eval_Value : AFun := ⟨35, 4, [.cells 8 4, .t 9],
  (.seq (.reg [⟨some 4, .box t_api_Qea 9 (.t 0), none⟩,
⟨some 8, .alloc t_api_Value 4 (.agg [.int .i64 0, .int .i64 0, .str [], .bool false]), none⟩,
⟨some 9, .mov (.k (.int .i64 0)), none⟩]
[1, 2, 3, 4, 8])
(.seq (.seq (.reg [⟨some 12, .loadN (.t 4) 9, none⟩,
⟨some 13, .mov (.t 3), none⟩,
⟨some 14, .call n_eval_Fits [.t 12, .t 13], none⟩,
⟨some 15, .un .not (.t 14), none⟩,
⟨some 16, .mov (.t 15), none⟩,
⟨some 17, .loadN (.t 4) 9, (some (16, false))⟩,
⟨some 18, .mov (.t 1), (some (16, false))⟩,
⟨some 19, .call n_core_Kind [.t 17, .t 18], (some (16, false))⟩,
⟨some 20, .bin .eql (.t 19) (.k (.int .i64 0)), (some (16, false))⟩,
⟨some 21, .pick (.t 16) (.k (.bool true)) (.t 20), none⟩]
[1, 2, 3, 4, 8, 21])
(.cond (.t 21)
(.seq (.reg [⟨some 22, .build [.int .i64 0, .int .i64 0, .str [], .bool false] [], none⟩,
⟨none, .store (.t 8) (.t 22) 4, none⟩,
⟨some 9, .mov (.k (.int .i64 1)), none⟩]
[8, 9])
.ret)
.skip))
(.seq (.reg [⟨some 24, .loadN (.t 4) 9, none⟩,
⟨some 25, .mov (.t 2), none⟩,
⟨some 26, .mov (.t 3), none⟩,
⟨some 27, .build [.str [], .nils, .nils, .nils, .nils, .int .i64 0, .nils, .nils, .nils, .nils, .nils] [(0, 9, .t 24), (9, 1, .t 25), (10, 1, .t 26)], none⟩,
⟨some 28, .mov (.t 1), none⟩,
⟨some 29, .call n_eval_frame_run [.t 27, .t 28], none⟩,
⟨some 23, .mov (.t 29), none⟩,
⟨some 30, .ext (.t 23) 0, none⟩,
⟨some 31, .ext (.t 23) 1, none⟩,
⟨some 10, .alloc t_api_Value 4 (.agg [.int .i64 0, .int .i64 0, .str [], .bool false]), none⟩,
⟨none, .store (.t 10) (.t 30) 4, none⟩,
⟨some 11, .mov (.t 31), none⟩]
[8, 10, 11])
(.seq (.dreg [⟨some 32, .loadN (.t 10) 4, none⟩,
⟨some 33, .mov (.t 11), none⟩,
⟨some 34, .call n_eval_errno [.t 33], none⟩,
⟨none, .store (.t 8) (.t 32) 4, none⟩,
⟨some 9, .mov (.t 34), none⟩]
[8, 9])
.ret))))⟩
theorem k_eval_Value : chkF Go.Proofs.Tryd.prog Go.Proofs.Tryd.f17 c_eval_Value = true := by kernel_rfl
theorem pc_eval_Value {G : Nat → Option AV} {args : List AV} {r : AV} (h : Runs Go.Proofs.Tryd.prog G c_eval_Value args r) (hk : args.length = c_eval_Value.k := by rfl) : PureC Go.Proofs.Tryd.prog G n_eval_Value args r := PureC.of_runs (fn := Go.Proofs.Tryd.f17) (A := c_eval_Value) Go.Proofs.Tryd.func17 k_eval_Value hk h
def c_eval_errno : AFun := ⟨23, 1, [.t 2],
  (.seq (.reg [⟨some 2, .mov (.k (.int .i64 0)), none⟩]
[0])
(.seq (.reg [⟨some 3, .alloc t_eval_wrong 2 (.agg [.int .i64 0, .nili]), none⟩]
[0, 3])
(.seq (.seq (.reg [⟨some 6, .mov (.t 0), none⟩,
⟨some 7, .mki t_Peval_wrong (.t 3), none⟩,
⟨some 8, .call n_errors_As [.t 6, .t 7], none⟩,
⟨some 9, .un .not (.t 8), none⟩]
[3, 9])
(.cond (.t 9)
(.seq (.reg [⟨some 2, .mov (.k (.int .i64 0)), none⟩]
[2])
.ret)
.skip))
(.seq (.seq (.reg [⟨some 10, .mkrow t_api_Errno 1 4 (.int .i64 0) [(0, .k (.int .i64 3)), (1, .k (.int .i64 6)), (2, .k (.int .i64 7)), (3, .k (.int .i64 9))], none⟩,
⟨some 11, .len false (.t 10), none⟩,
⟨some 12, .mov (.k (.int .i64 0)), none⟩]
[3, 10, 11, 12])
(.block 0
(.loop [3, 10, 11, 12] [3, 8, 10, 11]
  (.seq (.reg [⟨some 13, .bin .lss (.t 12) (.t 11), none⟩]
[3, 10, 11, 12, 13])
(.seq (.cond (.t 13)
.skip
(.exit 0))
(.seq (.block 1
(.seq (.reg [⟨some 14, .iaddr 1 (.t 10) (.t 12), none⟩,
⟨some 15, .load (.t 14), none⟩,
⟨some 5, .mov (.t 15), none⟩]
[3, 5, 10, 11, 12])
(.seq (.reg [⟨some 16, .loadN (.t 3) 2, none⟩,
⟨some 17, .mki t_eval_wrong (.t 16), none⟩,
⟨some 18, .mov (.t 5), none⟩,
⟨some 19, .mki t_api_Errno (.t 18), none⟩,
⟨some 20, .call n_errors_Is [.t 17, .t 19], none⟩]
[3, 5, 10, 11, 12, 20])
(.cond (.t 20)
(.seq (.reg [⟨some 21, .mov (.t 5), none⟩,
⟨some 2, .mov (.t 21), none⟩]
[2])
.ret)
.skip))))
(.reg [⟨some 22, .bin .add (.t 12) (.k (.int .i64 1)), none⟩,
⟨some 12, .mov (.t 22), none⟩]
[3, 10, 11, 12])))))))
(.seq (.reg [⟨some 2, .mov (.k (.int .i64 8)), none⟩]
[2])
.ret)))))⟩
theorem k_eval_errno : chkF Go.Proofs.Tryd.prog Go.Proofs.Tryd.f41 c_eval_errno = true := by kernel_rfl
theorem pc_eval_errno {G : Nat → Option AV} {args : List AV} {r : AV} (h : Runs Go.Proofs.Tryd.prog G c_eval_errno args r) (hk : args.length = c_eval_errno.k := by rfl) : PureC Go.Proofs.Tryd.prog G n_eval_errno args r := PureC.of_runs (fn := Go.Proofs.Tryd.f41) (A := c_eval_errno) Go.Proofs.Tryd.func41 k_eval_errno hk h
def c_num_Add : AFun := ⟨17, 2, [.t 4, .t 5],
  (.seq (.reg [⟨some 4, .mov (.k (.int .i64 0)), none⟩,
⟨some 5, .mov (.k (.int .i64 0)), none⟩]
[0, 1])
(.seq (.seq (.reg [⟨some 7, .mov (.t 0), none⟩,
⟨some 8, .mov (.t 1), none⟩,
⟨some 9, .bin .add (.t 7) (.t 8), none⟩,
⟨some 6, .mov (.t 9), none⟩]
[0, 1, 6])
(.seq (.reg [⟨some 10, .mov (.t 6), none⟩,
⟨some 11, .mov (.t 0), none⟩,
⟨some 12, .bin .lss (.t 10) (.t 11), none⟩,
⟨some 13, .mov (.t 1), none⟩,
⟨some 14, .bin .lss (.t 13) (.k (.int .i64 0)), none⟩,
⟨some 15, .eqB false (.t 12) (.t 14), none⟩]
[6, 15])
(.cond (.t 15)
(.seq (.reg [⟨some 16, .mov (.t 6), none⟩,
⟨some 4, .mov (.t 16), none⟩,
⟨some 5, .mov (.k (.int .i64 0)), none⟩]
[4, 5])
.ret)
.skip)))
(.seq (.reg [⟨some 4, .mov (.k (.int .i64 0)), none⟩,
⟨some 5, .mov (.k (.int .i64 6)), none⟩]
[4, 5])
.ret)))⟩
theorem k_num_Add : chkF Go.Proofs.Tryd.prog Go.Proofs.Tryd.f130 c_num_Add = true := by kernel_rfl
theorem pc_num_Add {G : Nat → Option AV} {args : List AV} {r : AV} (h : Runs Go.Proofs.Tryd.prog G c_num_Add args r) (hk : args.length = c_num_Add.k := by rfl) : PureC Go.Proofs.Tryd.prog G n_num_Add args r := PureC.of_runs (fn := Go.Proofs.Tryd.f130) (A := c_num_Add) Go.Proofs.Tryd.func130 k_num_Add hk h
def c_num_Div : AFun := ⟨19, 2, [.t 4, .t 5],
  (.seq (.reg [⟨some 4, .mov (.k (.int .i64 0)), none⟩,
⟨some 5, .mov (.k (.int .i64 0)), none⟩]
[0, 1])
(.seq (.block 0
(.seq (.reg [⟨some 7, .mov (.t 1), none⟩,
⟨some 8, .bin .eql (.t 7) (.k (.int .i64 0)), none⟩,
⟨some 6, .mov (.t 8), none⟩]
[0, 1, 6])
(.cond (.t 6)
(.seq (.reg [⟨some 4, .mov (.k (.int .i64 0)), none⟩,
⟨some 5, .mov (.k (.int .i64 7)), none⟩]
[4, 5])
.ret)
(.seq (.reg [⟨some 10, .mov (.t 1), none⟩,
⟨some 11, .bin .eql (.t 10) (.k (.int .i64 (-1))), none⟩,
⟨some 9, .mov (.t 11), none⟩]
[0, 1, 9])
(.cond (.t 9)
(.seq (.reg [⟨some 12, .mov (.t 0), none⟩,
⟨some 13, .call n_num_Neg [.t 12], none⟩,
⟨some 14, .ext (.t 13) 0, none⟩,
⟨some 15, .ext (.t 13) 1, none⟩,
⟨some 4, .mov (.t 14), none⟩,
⟨some 5, .mov (.t 15), none⟩]
[4, 5])
.ret)
.skip)))))
(.seq (.reg [⟨some 16, .mov (.t 0), none⟩,
⟨some 17, .mov (.t 1), none⟩,
⟨some 18, .bin .quo (.t 16) (.t 17), none⟩,
⟨some 4, .mov (.t 18), none⟩,
⟨some 5, .mov (.k (.int .i64 0)), none⟩]
[4, 5])
.ret)))⟩
theorem k_num_Div : chkF Go.Proofs.Tryd.prog Go.Proofs.Tryd.f132 c_num_Div = true := by kernel_rfl
theorem pc_num_Div {G : Nat → Option AV} {args : List AV} {r : AV} (h : Runs Go.Proofs.Tryd.prog G c_num_Div args r) (hk : args.length = c_num_Div.k := by rfl) : PureC Go.Proofs.Tryd.prog G n_num_Div args r := PureC.of_runs (fn := Go.Proofs.Tryd.f132) (A := c_num_Div) Go.Proofs.Tryd.func132 k_num_Div hk h
def c_num_Mod : AFun := ⟨15, 2, [.t 4, .t 5],
  (.seq (.reg [⟨some 4, .mov (.k (.int .i64 0)), none⟩,
⟨some 5, .mov (.k (.int .i64 0)), none⟩]
[0, 1])
(.seq (.block 0
(.seq (.reg [⟨some 7, .mov (.t 1), none⟩,
⟨some 8, .bin .eql (.t 7) (.k (.int .i64 0)), none⟩,
⟨some 6, .mov (.t 8), none⟩]
[0, 1, 6])
(.cond (.t 6)
(.seq (.reg [⟨some 4, .mov (.k (.int .i64 0)), none⟩,
⟨some 5, .mov (.k (.int .i64 7)), none⟩]
[4, 5])
.ret)
(.seq (.reg [⟨some 10, .mov (.t 1), none⟩,
⟨some 11, .bin .eql (.t 10) (.k (.int .i64 (-1))), none⟩,
⟨some 9, .mov (.t 11), none⟩]
[0, 1, 9])
(.cond (.t 9)
(.seq (.reg [⟨some 4, .mov (.k (.int .i64 0)), none⟩,
⟨some 5, .mov (.k (.int .i64 0)), none⟩]
[4, 5])
.ret)
.skip)))))
(.seq (.reg [⟨some 12, .mov (.t 0), none⟩,
⟨some 13, .mov (.t 1), none⟩,
⟨some 14, .bin .rem (.t 12) (.t 13), none⟩,
⟨some 4, .mov (.t 14), none⟩,
⟨some 5, .mov (.k (.int .i64 0)), none⟩]
[4, 5])
.ret)))⟩
theorem k_num_Mod : chkF Go.Proofs.Tryd.prog Go.Proofs.Tryd.f133 c_num_Mod = true := by kernel_rfl
theorem pc_num_Mod {G : Nat → Option AV} {args : List AV} {r : AV} (h : Runs Go.Proofs.Tryd.prog G c_num_Mod args r) (hk : args.length = c_num_Mod.k := by rfl) : PureC Go.Proofs.Tryd.prog G n_num_Mod args r := PureC.of_runs (fn := Go.Proofs.Tryd.f133) (A := c_num_Mod) Go.Proofs.Tryd.func133 k_num_Mod hk h
def c_num_Mul : AFun := ⟨42, 2, [.t 4, .t 5],
  (.seq (.reg [⟨some 4, .mov (.k (.int .i64 0)), none⟩,
⟨some 5, .mov (.k (.int .i64 0)), none⟩]
[0, 1])
(.seq (.reg [⟨some 10, .mov (.t 0), none⟩,
⟨some 11, .call n_num_size [.t 10], none⟩,
⟨some 12, .mov (.t 1), none⟩,
⟨some 13, .call n_num_size [.t 12], none⟩,
⟨some 14, .call n_math_bits_Mul64 [.t 11, .t 13], none⟩,
⟨some 9, .mov (.t 14), none⟩,
⟨some 15, .ext (.t 9) 0, none⟩,
⟨some 16, .ext (.t 9) 1, none⟩,
⟨some 6, .mov (.t 15), none⟩,
⟨some 7, .mov (.t 16), none⟩]
[0, 1, 6, 7])
(.seq (.reg [⟨some 17, .mov (.t 0), none⟩,
⟨some 18, .bin .lss (.t 17) (.k (.int .i64 0)), none⟩,
⟨some 19, .mov (.t 1), none⟩,
⟨some 20, .bin .lss (.t 19) (.k (.int .i64 0)), none⟩,
⟨some 21, .eqB true (.t 18) (.t 20), none⟩,
⟨some 8, .mov (.t 21), none⟩]
[6, 7, 8])
(.seq (.block 0
(.seq (.reg [⟨some 23, .mov (.t 6), none⟩,
⟨some 24, .bin .gtr (.t 23) (.k (.int .u64 0)), none⟩,
⟨some 22, .mov (.t 24), none⟩]
[7, 8, 22])
(.cond (.t 22)
(.seq (.reg [⟨some 4, .mov (.k (.int .i64 0)), none⟩,
⟨some 5, .mov (.k (.int .i64 6)), none⟩]
[4, 5])
.ret)
(.seq (.reg [⟨some 26, .mov (.t 8), none⟩,
⟨some 27, .mov (.t 26), none⟩,
⟨some 28, .mov (.t 7), (some (27, true))⟩,
⟨some 29, .bin .leq (.t 28) (.k (.int .u64 9223372036854775808)), (some (27, true))⟩,
⟨some 30, .pick (.t 27) (.t 29) (.k (.bool false)), none⟩,
⟨some 25, .mov (.t 30), none⟩]
[7, 8, 25])
(.cond (.t 25)
(.seq (.reg [⟨some 31, .mov (.t 7), none⟩,
⟨some 32, .conv .i64 (.t 31), none⟩,
⟨some 33, .un .neg (.t 32), none⟩,
⟨some 4, .mov (.t 33), none⟩,
⟨some 5, .mov (.k (.int .i64 0)), none⟩]
[4, 5])
.ret)
(.seq (.reg [⟨some 35, .mov (.t 8), none⟩,
⟨some 36, .mov (.t 35), none⟩,
⟨some 37, .mov (.t 7), (some (36, false))⟩,
⟨some 38, .bin .gtr (.t 37) (.k (.int .u64 9223372036854775807)), (some (36, false))⟩,
⟨some 39, .pick (.t 36) (.k (.bool true)) (.t 38), none⟩,
⟨some 34, .mov (.t 39), none⟩]
[7, 34])
(.cond (.t 34)
(.seq (.reg [⟨some 4, .mov (.k (.int .i64 0)), none⟩,
⟨some 5, .mov (.k (.int .i64 6)), none⟩]
[4, 5])
.ret)
.skip)))))))
(.seq (.reg [⟨some 40, .mov (.t 7), none⟩,
⟨some 41, .conv .i64 (.t 40), none⟩,
⟨some 4, .mov (.t 41), none⟩,
⟨some 5, .mov (.k (.int .i64 0)), none⟩]
[4, 5])
.ret)))))⟩
theorem k_num_Mul : chkF Go.Proofs.Tryd.prog Go.Proofs.Tryd.f131 c_num_Mul = true := by kernel_rfl
theorem pc_num_Mul {G : Nat → Option AV} {args : List AV} {r : AV} (h : Runs Go.Proofs.Tryd.prog G c_num_Mul args r) (hk : args.length = c_num_Mul.k := by rfl) : PureC Go.Proofs.Tryd.prog G n_num_Mul args r := PureC.of_runs (fn := Go.Proofs.Tryd.f131) (A := c_num_Mul) Go.Proofs.Tryd.func131 k_num_Mul hk h
def c_num_Neg : AFun := ⟨8, 1, [.t 2, .t 3],
  (.seq (.reg [⟨some 2, .mov (.k (.int .i64 0)), none⟩,
⟨some 3, .mov (.k (.int .i64 0)), none⟩]
[0])
(.seq (.reg [⟨some 4, .mov (.t 0), none⟩,
⟨some 5, .call n_num_Sub [.k (.int .i64 0), .t 4], none⟩,
⟨some 6, .ext (.t 5) 0, none⟩,
⟨some 7, .ext (.t 5) 1, none⟩,
⟨some 2, .mov (.t 6), none⟩,
⟨some 3, .mov (.t 7), none⟩]
[2, 3])
.ret))⟩
theorem k_num_Neg : chkF Go.Proofs.Tryd.prog Go.Proofs.Tryd.f140 c_num_Neg = true := by kernel_rfl
theorem pc_num_Neg {G : Nat → Option AV} {args : List AV} {r : AV} (h : Runs Go.Proofs.Tryd.prog G c_num_Neg args r) (hk : args.length = c_num_Neg.k := by rfl) : PureC Go.Proofs.Tryd.prog G n_num_Neg args r := PureC.of_runs (fn := Go.Proofs.Tryd.f140) (A := c_num_Neg) Go.Proofs.Tryd.func140 k_num_Neg hk h
def c_num_Op : AFun := ⟨47, 3, [.t 6, .t 7],
  (.seq (.reg [⟨some 6, .mov (.k (.int .i64 0)), none⟩,
⟨some 7, .mov (.k (.int .i64 0)), none⟩]
[0, 1, 2])
(.seq (.seq (.reg [⟨some 8, .mov (.t 0), none⟩]
[1, 2, 8])
(.block 0
(.seq (.block 6
(.seq (.block 5
(.seq (.block 4
(.seq (.block 3
(.seq (.block 2
(.seq (.block 1
(.seq (.seq (.seq (.reg [⟨some 10, .bin .eql (.t 8) (.k (.int .i64 5)), none⟩,
⟨some 9, .mov (.t 10), none⟩]
[1, 2, 8, 9])
(.cond (.t 9)
(.exit 1)
.skip))
(.seq (.seq (.reg [⟨some 12, .bin .eql (.t 8) (.k (.int .i64 9)), none⟩,
⟨some 11, .mov (.t 12), none⟩]
[1, 2, 8, 11])
(.cond (.t 11)
(.exit 2)
.skip))
(.seq (.seq (.reg [⟨some 14, .bin .eql (.t 8) (.k (.int .i64 8)), none⟩,
⟨some 13, .mov (.t 14), none⟩]
[1, 2, 8, 13])
(.cond (.t 13)
(.exit 3)
.skip))
(.seq (.seq (.reg [⟨some 16, .bin .eql (.t 8) (.k (.int .i64 10)), none⟩,
⟨some 15, .mov (.t 16), none⟩]
[1, 2, 8, 15])
(.cond (.t 15)
(.exit 4)
.skip))
(.seq (.seq (.reg [⟨some 18, .bin .eql (.t 8) (.k (.int .i64 11)), none⟩,
⟨some 17, .mov (.t 18), none⟩]
[1, 2, 8, 17])
(.cond (.t 17)
(.exit 5)
.skip))
(.seq (.reg [⟨some 20, .bin .eql (.t 8) (.k (.int .i64 12)), none⟩,
⟨some 19, .mov (.t 20), none⟩]
[1, 2, 19])
(.cond (.t 19)
(.exit 6)
.skip)))))))
(.exit 0)))
(.reg [⟨some 21, .mov (.t 1), none⟩,
⟨some 1, .mov (.k (.int .i64 0)), none⟩,
⟨some 2, .mov (.t 21), none⟩]
[1, 2])))
(.seq (.seq (.reg [⟨some 22, .mov (.t 1), none⟩,
⟨some 23, .mov (.t 2), none⟩,
⟨some 24, .call n_num_Sub [.t 22, .t 23], none⟩,
⟨some 25, .ext (.t 24) 0, none⟩,
⟨some 26, .ext (.t 24) 1, none⟩,
⟨some 6, .mov (.t 25), none⟩,
⟨some 7, .mov (.t 26), none⟩]
[6, 7])
.ret)
(.exit 0))))
(.seq (.seq (.reg [⟨some 27, .mov (.t 1), none⟩,
⟨some 28, .mov (.t 2), none⟩,
⟨some 29, .call n_num_Add [.t 27, .t 28], none⟩,
⟨some 30, .ext (.t 29) 0, none⟩,
⟨some 31, .ext (.t 29) 1, none⟩,
⟨some 6, .mov (.t 30), none⟩,
⟨some 7, .mov (.t 31), none⟩]
[6, 7])
.ret)
(.exit 0))))
(.seq (.seq (.reg [⟨some 32, .mov (.t 1), none⟩,
⟨some 33, .mov (.t 2), none⟩,
⟨some 34, .call n_num_Mul [.t 32, .t 33], none⟩,
⟨some 35, .ext (.t 34) 0, none⟩,
⟨some 36, .ext (.t 34) 1, none⟩,
⟨some 6, .mov (.t 35), none⟩,
⟨some 7, .mov (.t 36), none⟩]
[6, 7])
.ret)
(.exit 0))))
(.seq (.seq (.reg [⟨some 37, .mov (.t 1), none⟩,
⟨some 38, .mov (.t 2), none⟩,
⟨some 39, .call n_num_Div [.t 37, .t 38], none⟩,
⟨some 40, .ext (.t 39) 0, none⟩,
⟨some 41, .ext (.t 39) 1, none⟩,
⟨some 6, .mov (.t 40), none⟩,
⟨some 7, .mov (.t 41), none⟩]
[6, 7])
.ret)
(.exit 0))))
(.seq (.seq (.reg [⟨some 42, .mov (.t 1), none⟩,
⟨some 43, .mov (.t 2), none⟩,
⟨some 44, .call n_num_Mod [.t 42, .t 43], none⟩,
⟨some 45, .ext (.t 44) 0, none⟩,
⟨some 46, .ext (.t 44) 1, none⟩,
⟨some 6, .mov (.t 45), none⟩,
⟨some 7, .mov (.t 46), none⟩]
[6, 7])
.ret)
(.exit 0)))))
(.seq (.reg [⟨some 6, .mov (.k (.int .i64 0)), none⟩,
⟨some 7, .mov (.k (.int .i64 1)), none⟩]
[6, 7])
.ret)))⟩
theorem k_num_Op : chkF Go.Proofs.Tryd.prog Go.Proofs.Tryd.f120 c_num_Op = true := by kernel_rfl
theorem pc_num_Op {G : Nat → Option AV} {args : List AV} {r : AV} (h : Runs Go.Proofs.Tryd.prog G c_num_Op args r) (hk : args.length = c_num_Op.k := by rfl) : PureC Go.Proofs.Tryd.prog G n_num_Op args r := PureC.of_runs (fn := Go.Proofs.Tryd.f120) (A := c_num_Op) Go.Proofs.Tryd.func120 k_num_Op hk h
def c_num_Sub : AFun := ⟨17, 2, [.t 4, .t 5],
  (.seq (.reg [⟨some 4, .mov (.k (.int .i64 0)), none⟩,
⟨some 5, .mov (.k (.int .i64 0)), none⟩]
[0, 1])
(.seq (.seq (.reg [⟨some 7, .mov (.t 0), none⟩,
⟨some 8, .mov (.t 1), none⟩,
⟨some 9, .bin .sub (.t 7) (.t 8), none⟩,
⟨some 6, .mov (.t 9), none⟩]
[0, 1, 6])
(.seq (.reg [⟨some 10, .mov (.t 6), none⟩,
⟨some 11, .mov (.t 0), none⟩,
⟨some 12, .bin .gtr (.t 10) (.t 11), none⟩,
⟨some 13, .mov (.t 1), none⟩,
⟨some 14, .bin .lss (.t 13) (.k (.int .i64 0)), none⟩,
⟨some 15, .eqB false (.t 12) (.t 14), none⟩]
[6, 15])
(.cond (.t 15)
(.seq (.reg [⟨some 16, .mov (.t 6), none⟩,
⟨some 4, .mov (.t 16), none⟩,
⟨some 5, .mov (.k (.int .i64 0)), none⟩]
[4, 5])
.ret)
.skip)))
(.seq (.reg [⟨some 4, .mov (.k (.int .i64 0)), none⟩,
⟨some 5, .mov (.k (.int .i64 6)), none⟩]
[4, 5])
.ret)))⟩
theorem k_num_Sub : chkF Go.Proofs.Tryd.prog Go.Proofs.Tryd.f129 c_num_Sub = true := by kernel_rfl
theorem pc_num_Sub {G : Nat → Option AV} {args : List AV} {r : AV} (h : Runs Go.Proofs.Tryd.prog G c_num_Sub args r) (hk : args.length = c_num_Sub.k := by rfl) : PureC Go.Proofs.Tryd.prog G n_num_Sub args r := PureC.of_runs (fn := Go.Proofs.Tryd.f129) (A := c_num_Sub) Go.Proofs.Tryd.func129 k_num_Sub hk h
def c_num_size : AFun := ⟨10, 1, [.t 2],
  (.seq (.reg [⟨some 2, .mov (.k (.int .u64 0)), none⟩]
[0])
(.seq (.seq (.reg [⟨some 3, .mov (.t 0), none⟩,
⟨some 4, .bin .lss (.t 3) (.k (.int .i64 0)), none⟩]
[0, 4])
(.cond (.t 4)
(.seq (.reg [⟨some 5, .mov (.t 0), none⟩,
⟨some 6, .conv .u64 (.t 5), none⟩,
⟨some 7, .un .neg (.t 6), none⟩,
⟨some 2, .mov (.t 7), none⟩]
[2])
.ret)
.skip))
(.seq (.reg [⟨some 8, .mov (.t 0), none⟩,
⟨some 9, .conv .u64 (.t 8), none⟩,
⟨some 2, .mov (.t 9), none⟩]
[2])
.ret)))⟩
theorem k_num_size : chkF Go.Proofs.Tryd.prog Go.Proofs.Tryd.f139 c_num_size = true := by kernel_rfl
theorem pc_num_size {G : Nat → Option AV} {args : List AV} {r : AV} (h : Runs Go.Proofs.Tryd.prog G c_num_size args r) (hk : args.length = c_num_size.k := by rfl) : PureC Go.Proofs.Tryd.prog G n_num_size args r := PureC.of_runs (fn := Go.Proofs.Tryd.f139) (A := c_num_size) Go.Proofs.Tryd.func139 k_num_size hk h
def c_proctorlaw16_EvalFree : AFun := ⟨61, 2, [.t 4],
  (.seq (.reg [⟨some 4, .mov (.k (.bool false)), none⟩]
[0, 1])
(.seq (.seq (.reg [⟨some 7, .mov (.t 0), none⟩,
⟨some 8, .len false (.t 7), none⟩,
⟨some 9, .bin .gtr (.t 8) (.k (.int .i64 20)), none⟩,
⟨some 10, .mov (.t 9), none⟩,
⟨some 11, .mov (.t 1), (some (10, false))⟩,
⟨some 12, .len false (.t 11), (some (10, false))⟩,
⟨some 13, .bin .gtr (.t 12) (.k (.int .i64 20)), (some (10, false))⟩,
⟨some 14, .pick (.t 10) (.k (.bool true)) (.t 13), none⟩]
[0, 1, 14])
(.cond (.t 14)
(.seq (.reg [⟨some 15, .call n_proctorlaw16_awake [], none⟩,
⟨some 4, .mov (.t 15), none⟩]
[4])
.ret)
.skip))
(.seq (.reg [⟨some 16, .mkrow t_api_Value 4 0 (.agg [.int .i64 0, .int .i64 0, .str [], .bool false]) [], none⟩,
⟨some 17, .mov (.t 0), none⟩,
⟨some 18, .app t_api_Value 4 40 (.t 16) (.t 17), none⟩,
⟨some 5, .mov (.t 18), none⟩]
[0, 1, 5])
(.seq (.seq (.reg [⟨some 6, .mov (.k (.int .i64 0)), none⟩]
[0, 1, 5, 6])
(.block 0
(.loop [0, 1, 5, 6] [8, 12, 15, 16, 18]
  (.seq (.seq (.reg [⟨some 19, .mov (.t 6), none⟩,
⟨some 20, .mov (.t 1), none⟩,
⟨some 21, .len false (.t 20), none⟩,
⟨some 22, .bin .lss (.t 19) (.t 21), none⟩]
[0, 1, 5, 6, 22])
(.cond (.t 22)
.skip
(.exit 0)))
(.seq (.block 1
(.seq (.reg [⟨some 25, .mov (.t 1), none⟩,
⟨some 26, .mov (.t 6), none⟩,
⟨some 27, .iaddr 5 (.t 25) (.t 26), none⟩,
⟨some 28, .faddr (.t 27) 0, none⟩,
⟨some 29, .load (.t 28), none⟩,
⟨some 30, .bin .geq (.t 29) (.k (.int .i64 0)), none⟩,
⟨some 31, .mov (.t 30), none⟩,
⟨some 32, .mov (.t 1), (some (31, true))⟩,
⟨some 33, .mov (.t 6), (some (31, true))⟩,
⟨some 34, .iaddr 5 (.t 32) (.t 33), (some (31, true))⟩,
⟨some 35, .faddr (.t 34) 0, (some (31, true))⟩,
⟨some 36, .load (.t 35), (some (31, true))⟩,
⟨some 37, .mov (.t 5), (some (31, true))⟩,
⟨some 38, .len false (.t 37), (some (31, true))⟩,
⟨some 39, .bin .lss (.t 36) (.t 38), (some (31, true))⟩,
⟨some 40, .pick (.t 31) (.t 39) (.k (.bool false)), none⟩]
[0, 1, 5, 6, 40])
(.cond (.t 40)
(.dreg [⟨some 41, .mov (.t 5), none⟩,
⟨some 42, .mov (.t 1), none⟩,
⟨some 43, .mov (.t 6), none⟩,
⟨some 44, .iaddr 5 (.t 42) (.t 43), none⟩,
⟨some 45, .faddr (.t 44) 0, none⟩,
⟨some 46, .load (.t 45), none⟩,
⟨some 47, .mov (.t 1), none⟩,
⟨some 48, .mov (.t 6), none⟩,
⟨some 49, .iaddr 5 (.t 47) (.t 48), none⟩,
⟨some 50, .faddr (.t 49) 1, none⟩,
⟨some 51, .loadN (.t 50) 4, none⟩,
⟨some 52, .iaddr 4 (.t 41) (.t 46), none⟩,
⟨none, .store (.t 52) (.t 51) 4, none⟩]
[0, 1, 5, 6])
.skip)))
(.reg [⟨some 23, .mov (.t 6), none⟩,
⟨some 24, .bin .add (.t 23) (.k (.int .i64 1)), none⟩,
⟨some 6, .mov (.t 24), none⟩]
[0, 1, 5, 6]))))))
(.seq (.reg [⟨some 53, .mov (.t 0), none⟩,
⟨some 54, .mov (.t 1), none⟩,
⟨some 55, .call n_eval_Free [.t 53, .t 54], none⟩,
⟨some 56, .mov (.t 5), none⟩,
⟨some 57, .call n_proctorlaw16_same [.t 55, .t 56], none⟩,
⟨some 58, .mov (.t 57), none⟩,
⟨some 59, .call n_proctorlaw16_awake [], (some (58, true))⟩,
⟨some 60, .pick (.t 58) (.t 59) (.k (.bool false)), none⟩,
⟨some 4, .mov (.t 60), none⟩]
[4])
.ret)))))⟩
theorem k_proctorlaw16_EvalFree : chkF Go.Proofs.Tryd.prog Go.Proofs.Tryd.f5 c_proctorlaw16_EvalFree = true := by kernel_rfl
theorem pc_proctorlaw16_EvalFree {G : Nat → Option AV} {args : List AV} {r : AV} (h : Runs Go.Proofs.Tryd.prog G c_proctorlaw16_EvalFree args r) (hk : args.length = c_proctorlaw16_EvalFree.k := by rfl) : PureC Go.Proofs.Tryd.prog G n_proctorlaw16_EvalFree args r := PureC.of_runs (fn := Go.Proofs.Tryd.f5) (A := c_proctorlaw16_EvalFree) Go.Proofs.Tryd.func5 k_proctorlaw16_EvalFree hk h
def c_proctorlaw16_awake : AFun := ⟨58, 0, [.t 0],
  (.seq (.reg [⟨some 0, .mov (.k (.bool false)), none⟩]
[])
(.seq (.reg [⟨some 8, .build [.int .i64 0, .int .i64 0, .str [], .bool false] [(0, 1, .k (.int .i64 1)), (1, 1, .k (.int .i64 1))], none⟩,
⟨some 1, .alloc t_api_Value 4 (.agg [.int .i64 0, .int .i64 0, .str [], .bool false]), none⟩,
⟨none, .store (.t 1) (.t 8) 4, none⟩]
[1])
(.seq (.reg [⟨some 9, .build [.int .i64 0, .int .i64 0, .int .i64 0, .int .i64 0, .int .i64 0, .str [], .bool false] [(0, 1, .k (.int .i64 3))], none⟩,
⟨some 10, .build [.int .i64 0, .int .i64 0, .str [], .bool false] [(0, 1, .k (.int .i64 1))], none⟩,
⟨some 11, .build [.int .i64 0, .int .i64 0, .int .i64 0, .int .i64 0, .int .i64 0, .str [], .bool false] [(0, 1, .k (.int .i64 1)), (3, 4, .t 10)], none⟩,
⟨some 12, .build [.int .i64 0, .int .i64 0, .int .i64 0, .int .i64 0, .int .i64 0, .str [], .bool false] [(0, 1, .k (.int .i64 13)), (1, 1, .k (.int .i64 0)), (2, 1, .k (.int .i64 1))], none⟩,
⟨some 13, .loadN (.t 1) 4, none⟩,
⟨some 14, .build [.int .i64 0, .int .i64 0, .int .i64 0, .int .i64 0, .int .i64 0, .str [], .bool false] [(0, 1, .k (.int .i64 1)), (3, 4, .t 13)], none⟩,
⟨some 15, .build [.int .i64 0, .int .i64 0, .str [], .bool false] [(0, 1, .k (.int .i64 1)), (1, 1, .k (.int .i64 7))], none⟩,
⟨some 16, .build [.int .i64 0, .int .i64 0, .int .i64 0, .int .i64 0, .int .i64 0, .str [], .bool false] [(0, 1, .k (.int .i64 1)), (3, 4, .t 15)], none⟩,
⟨some 17, .build [.int .i64 0, .int .i64 0, .int .i64 0, .int .i64 0, .int .i64 0, .str [], .bool false] [(0, 1, .k (.int .i64 3))], none⟩,
⟨some 18, .build [.int .i64 0, .int .i64 0, .int .i64 0, .int .i64 0, .int .i64 0, .str [], .bool false] [(0, 1, .k (.int .i64 11)), (1, 1, .k (.int .i64 4)), (2, 1, .k (.int .i64 5))], none⟩,
⟨some 19, .build [.int .i64 0, .int .i64 0, .int .i64 0, .int .i64 0, .int .i64 0, .str [], .bool false] [(0, 1, .k (.int .i64 15)), (1, 1, .k (.int .i64 3)), (2, 1, .k (.int .i64 6))], none⟩,
⟨some 20, .build [.int .i64 0, .int .i64 0, .int .i64 0, .int .i64 0, .int .i64 0, .str [], .bool false] [(0, 1, .k (.int .i64 7)), (1, 1, .k (.int .i64 2)), (2, 1, .k (.int .i64 7))], none⟩,
⟨some 21, .mkrow t_api_Node 7 9 (.agg [.int .i64 0, .int .i64 0, .int .i64 0, .int .i64 0, .int .i64 0, .str [], .bool false]) [(0, .t 9), (1, .t 11), (2, .t 12), (3, .t 14), (4, .t 16), (5, .t 17), (6, .t 18), (7, .t 19), (8, .t 20)], none⟩,
⟨some 2, .mov (.t 21), none⟩]
[1, 2])
(.seq (.reg [⟨some 22, .build [.str [], .nils] [(0, 1, .k (.str [97]))], none⟩,
⟨some 23, .mkrow t_api_Decl 2 1 (.agg [.str [], .nils]) [(0, .t 22)], none⟩,
⟨some 24, .loadN (.t 1) 4, none⟩,
⟨some 25, .build [.str [], .int .i64 0, .int .i64 0, .str [], .bool false] [(0, 1, .k (.str [102])), (1, 4, .t 24)], none⟩,
⟨some 26, .mkrow t_api_Free 5 1 (.agg [.str [], .int .i64 0, .int .i64 0, .str [], .bool false]) [(0, .t 25)], none⟩,
⟨some 27, .build [.str [], .bool false, .bool false] [(0, 1, .k (.str [115]))], none⟩,
⟨some 28, .mkrow t_api_State 3 1 (.agg [.str [], .bool false, .bool false]) [(0, .t 27)], none⟩,
⟨some 29, .build [.int .i64 0, .nils] [], none⟩,
⟨some 30, .mkrow t_api_Symbol 2 1 (.agg [.int .i64 0, .nils]) [(0, .t 29)], none⟩,
⟨some 31, .mov (.t 2), none⟩,
⟨some 32, .build [.int .i64 0, .int .i64 0, .int .i64 0, .int .i64 0, .nils] [(3, 1, .k (.int .i64 8))], none⟩,
⟨some 33, .mkrow t_api_Trans 5 1 (.agg [.int .i64 0, .int .i64 0, .int .i64 0, .int .i64 0, .nils]) [(0, .t 32)], none⟩,
⟨some 34, .build [.str [], .nils, .nils, .nils, .nils, .int .i64 0, .nils, .nils, .nils] [(0, 1, .k (.str [113])), (1, 1, .t 23), (3, 1, .t 26), (4, 1, .t 28), (6, 1, .t 30), (7, 1, .t 31), (8, 1, .t 33)], none⟩,
⟨some 3, .alloc t_api_Qea 9 (.agg [.str [], .nils, .nils, .nils, .nils, .int .i64 0, .nils, .nils, .nils]), none⟩,
⟨none, .store (.t 3) (.t 34) 9, none⟩]
[3])
(.seq (.reg [⟨some 36, .loadN (.t 3) 9, none⟩,
⟨some 37, .build [.int .i64 0, .int .i64 0, .str [], .bool false] [(0, 1, .k (.int .i64 1))], none⟩,
⟨some 38, .mkrow t_api_Value 4 1 (.agg [.int .i64 0, .int .i64 0, .str [], .bool false]) [(0, .t 37)], none⟩,
⟨some 39, .call n_eval_Guard [.t 36, .k (.int .i64 0), .k (.nils), .t 38], none⟩,
⟨some 35, .mov (.t 39), none⟩,
⟨some 40, .ext (.t 35) 0, none⟩,
⟨some 41, .ext (.t 35) 1, none⟩,
⟨some 4, .mov (.t 40), none⟩,
⟨some 5, .mov (.t 41), none⟩]
[3, 4, 5])
(.seq (.reg [⟨some 43, .loadN (.t 3) 9, none⟩,
⟨some 44, .build [.int .i64 0, .int .i64 0, .str [], .bool false] [(0, 1, .k (.int .i64 1))], none⟩,
⟨some 45, .mkrow t_api_Value 4 1 (.agg [.int .i64 0, .int .i64 0, .str [], .bool false]) [(0, .t 44)], none⟩,
⟨some 46, .call n_eval_Value [.t 43, .k (.int .i64 6), .k (.nils), .t 45], none⟩,
⟨some 42, .mov (.t 46), none⟩,
⟨some 47, .ext (.t 42) 0, none⟩,
⟨some 48, .ext (.t 42) 1, none⟩,
⟨some 6, .alloc t_api_Value 4 (.agg [.int .i64 0, .int .i64 0, .str [], .bool false]), none⟩,
⟨none, .store (.t 6) (.t 47) 4, none⟩,
⟨some 7, .mov (.t 48), none⟩]
[4, 5, 7])
(.seq (.reg [⟨some 49, .mov (.t 4), none⟩,
⟨some 50, .mov (.t 49), none⟩,
⟨some 51, .mov (.t 5), (some (50, true))⟩,
⟨some 52, .bin .eql (.t 51) (.k (.int .i64 0)), (some (50, true))⟩,
⟨some 53, .pick (.t 50) (.t 52) (.k (.bool false)), none⟩,
⟨some 54, .mov (.t 53), none⟩,
⟨some 55, .mov (.t 7), (some (54, true))⟩,
⟨some 56, .bin .eql (.t 55) (.k (.int .i64 7)), (some (54, true))⟩,
⟨some 57, .pick (.t 54) (.t 56) (.k (.bool false)), none⟩,
⟨some 0, .mov (.t 57), none⟩]
[0])
.ret)))))))⟩
theorem k_proctorlaw16_awake : chkF Go.Proofs.Tryd.prog Go.Proofs.Tryd.f16 c_proctorlaw16_awake = true := by kernel_rfl
theorem pc_proctorlaw16_awake {G : Nat → Option AV} {args : List AV} {r : AV} (h : ∀ c, c = c_proctorlaw16_awake → Runs Go.Proofs.Tryd.prog G c args r) (hk : args.length = c_proctorlaw16_awake.k := by rfl) : PureC Go.Proofs.Tryd.prog G n_proctorlaw16_awake args r := by
  generalize hc : c_proctorlaw16_awake = c at *
  have k := k_proctorlaw16_awake
  rw [hc] at k
  generalize hf : Go.Proofs.Tryd.f16 = f at *
  have h := h _ rfl
  exact PureC.of_runs (fn := f) (A := c) (hf ▸ Go.Proofs.Tryd.func16) k hk h
def c_proctorlaw16_same : AFun := ⟨26, 2, [.t 4],
  (.seq (.reg [⟨some 4, .mov (.k (.bool false)), none⟩]
[0, 1])
(.seq (.seq (.reg [⟨some 6, .mov (.t 0), none⟩,
⟨some 7, .len false (.t 6), none⟩,
⟨some 8, .mov (.t 1), none⟩,
⟨some 9, .len false (.t 8), none⟩,
⟨some 10, .bin .neq (.t 7) (.t 9), none⟩]
[0, 1, 10])
(.cond (.t 10)
(.seq (.reg [⟨some 4, .mov (.k (.bool false)), none⟩]
[4])
.ret)
.skip))
(.seq (.seq (.reg [⟨some 5, .mov (.k (.int .i64 0)), none⟩]
[0, 1, 5])
(.block 0
(.loop [0, 1, 5] [7, 9]
  (.seq (.seq (.reg [⟨some 11, .mov (.t 5), none⟩,
⟨some 12, .mov (.t 0), none⟩,
⟨some 13, .len false (.t 12), none⟩,
⟨some 14, .bin .lss (.t 11) (.t 13), none⟩]
[0, 1, 5, 14])
(.cond (.t 14)
.skip
(.exit 0)))
(.seq (.block 1
(.seq (.dreg [⟨some 17, .mov (.t 0), none⟩,
⟨some 18, .mov (.t 5), none⟩,
⟨some 19, .iaddr 4 (.t 17) (.t 18), none⟩,
⟨some 20, .loadN (.t 19) 4, none⟩,
⟨some 21, .mov (.t 1), none⟩,
⟨some 22, .mov (.t 5), none⟩,
⟨some 23, .iaddr 4 (.t 21) (.t 22), none⟩,
⟨some 24, .loadN (.t 23) 4, none⟩,
⟨some 25, .eqA true [0, 0, 1, 2] (.t 20) (.t 24), none⟩]
[0, 1, 5, 25])
(.cond (.t 25)
(.seq (.reg [⟨some 4, .mov (.k (.bool false)), none⟩]
[4])
.ret)
.skip)))
(.reg [⟨some 15, .mov (.t 5), none⟩,
⟨some 16, .bin .add (.t 15) (.k (.int .i64 1)), none⟩,
⟨some 5, .mov (.t 16), none⟩]
[0, 1, 5]))))))
(.seq (.reg [⟨some 4, .mov (.k (.bool true)), none⟩]
[4])
.ret))))⟩
theorem k_proctorlaw16_same : chkF Go.Proofs.Tryd.prog Go.Proofs.Tryd.f21 c_proctorlaw16_same = true := by kernel_rfl
theorem pc_proctorlaw16_same {G : Nat → Option AV} {args : List AV} {r : AV} (h : Runs Go.Proofs.Tryd.prog G c_proctorlaw16_same args r) (hk : args.length = c_proctorlaw16_same.k := by rfl) : PureC Go.Proofs.Tryd.prog G n_proctorlaw16_same args r := PureC.of_runs (fn := Go.Proofs.Tryd.f21) (A := c_proctorlaw16_same) Go.Proofs.Tryd.func21 k_proctorlaw16_same hk h
def c_value_Bool : AFun := ⟨5, 1, [.cells 2 4],
  (.seq (.reg [⟨some 2, .alloc t_api_Value 4 (.agg [.int .i64 0, .int .i64 0, .str [], .bool false]), none⟩]
[0, 2])
(.seq (.reg [⟨some 3, .mov (.t 0), none⟩,
⟨some 4, .build [.int .i64 0, .int .i64 0, .str [], .bool false] [(0, 1, .k (.int .i64 3)), (3, 1, .t 3)], none⟩,
⟨none, .store (.t 2) (.t 4) 4, none⟩]
[2])
.ret))⟩
theorem k_value_Bool : chkF Go.Proofs.Tryd.prog Go.Proofs.Tryd.f71 c_value_Bool = true := by kernel_rfl
theorem pc_value_Bool {G : Nat → Option AV} {args : List AV} {r : AV} (h : Runs Go.Proofs.Tryd.prog G c_value_Bool args r) (hk : args.length = c_value_Bool.k := by rfl) : PureC Go.Proofs.Tryd.prog G n_value_Bool args r := PureC.of_runs (fn := Go.Proofs.Tryd.f71) (A := c_value_Bool) Go.Proofs.Tryd.func71 k_value_Bool hk h
def c_value_Int : AFun := ⟨5, 1, [.cells 2 4],
  (.seq (.reg [⟨some 2, .alloc t_api_Value 4 (.agg [.int .i64 0, .int .i64 0, .str [], .bool false]), none⟩]
[0, 2])
(.seq (.reg [⟨some 3, .mov (.t 0), none⟩,
⟨some 4, .build [.int .i64 0, .int .i64 0, .str [], .bool false] [(0, 1, .k (.int .i64 1)), (1, 1, .t 3)], none⟩,
⟨none, .store (.t 2) (.t 4) 4, none⟩]
[2])
.ret))⟩
theorem k_value_Int : chkF Go.Proofs.Tryd.prog Go.Proofs.Tryd.f69 c_value_Int = true := by kernel_rfl
theorem pc_value_Int {G : Nat → Option AV} {args : List AV} {r : AV} (h : Runs Go.Proofs.Tryd.prog G c_value_Int args r) (hk : args.length = c_value_Int.k := by rfl) : PureC Go.Proofs.Tryd.prog G n_value_Int args r := PureC.of_runs (fn := Go.Proofs.Tryd.f69) (A := c_value_Int) Go.Proofs.Tryd.func69 k_value_Int hk h
def c_value_Less : AFun := ⟨41, 2, [.t 4],
  (.seq (.reg [⟨some 2, .box t_api_Value 4 (.t 0), none⟩,
⟨some 3, .box t_api_Value 4 (.t 1), none⟩,
⟨some 4, .mov (.k (.bool false)), none⟩]
[2, 3])
(.seq (.block 0
(.seq (.reg [⟨some 6, .faddr (.t 2) 0, none⟩,
⟨some 7, .load (.t 6), none⟩,
⟨some 8, .faddr (.t 3) 0, none⟩,
⟨some 9, .load (.t 8), none⟩,
⟨some 10, .bin .neq (.t 7) (.t 9), none⟩,
⟨some 5, .mov (.t 10), none⟩]
[2, 3, 5])
(.cond (.t 5)
(.seq (.reg [⟨some 11, .faddr (.t 2) 0, none⟩,
⟨some 12, .load (.t 11), none⟩,
⟨some 13, .faddr (.t 3) 0, none⟩,
⟨some 14, .load (.t 13), none⟩,
⟨some 15, .bin .lss (.t 12) (.t 14), none⟩,
⟨some 4, .mov (.t 15), none⟩]
[4])
.ret)
(.seq (.reg [⟨some 17, .faddr (.t 2) 0, none⟩,
⟨some 18, .load (.t 17), none⟩,
⟨some 19, .bin .eql (.t 18) (.k (.int .i64 1)), none⟩,
⟨some 16, .mov (.t 19), none⟩]
[2, 3, 16])
(.cond (.t 16)
(.seq (.reg [⟨some 20, .faddr (.t 2) 1, none⟩,
⟨some 21, .load (.t 20), none⟩,
⟨some 22, .faddr (.t 3) 1, none⟩,
⟨some 23, .load (.t 22), none⟩,
⟨some 24, .bin .lss (.t 21) (.t 23), none⟩,
⟨some 4, .mov (.t 24), none⟩]
[4])
.ret)
(.seq (.reg [⟨some 26, .faddr (.t 2) 0, none⟩,
⟨some 27, .load (.t 26), none⟩,
⟨some 28, .bin .eql (.t 27) (.k (.int .i64 2)), none⟩,
⟨some 25, .mov (.t 28), none⟩]
[2, 3, 25])
(.cond (.t 25)
(.seq (.reg [⟨some 29, .faddr (.t 2) 2, none⟩,
⟨some 30, .load (.t 29), none⟩,
⟨some 31, .faddr (.t 3) 2, none⟩,
⟨some 32, .load (.t 31), none⟩,
⟨some 33, .bin .lss (.t 30) (.t 32), none⟩,
⟨some 4, .mov (.t 33), none⟩]
[4])
.ret)
.skip)))))))
(.seq (.reg [⟨some 34, .faddr (.t 2) 3, none⟩,
⟨some 35, .load (.t 34), none⟩,
⟨some 36, .un .not (.t 35), none⟩,
⟨some 37, .mov (.t 36), none⟩,
⟨some 38, .faddr (.t 3) 3, (some (37, true))⟩,
⟨some 39, .load (.t 38), (some (37, true))⟩,
⟨some 40, .pick (.t 37) (.t 39) (.k (.bool false)), none⟩,
⟨some 4, .mov (.t 40), none⟩]
[4])
.ret)))⟩
theorem k_value_Less : chkF Go.Proofs.Tryd.prog Go.Proofs.Tryd.f60 c_value_Less = true := by kernel_rfl
theorem pc_value_Less {G : Nat → Option AV} {args : List AV} {r : AV} (h : Runs Go.Proofs.Tryd.prog G c_value_Less args r) (hk : args.length = c_value_Less.k := by rfl) : PureC Go.Proofs.Tryd.prog G n_value_Less args r := PureC.of_runs (fn := Go.Proofs.Tryd.f60) (A := c_value_Less) Go.Proofs.Tryd.func60 k_value_Less hk h
def c_value_Name : AFun := ⟨10, 1, [.t 2],
  (.seq (.reg [⟨some 2, .mov (.k (.str [])), none⟩]
[0])
(.seq (.seq (.reg [⟨some 3, .mov (.t 0), none⟩]
[3])
(.block 0
(.seq (.reg [⟨some 5, .bin .eql (.t 3) (.k (.int .i64 1)), none⟩,
⟨some 4, .mov (.t 5), none⟩]
[3, 4])
(.cond (.t 4)
(.seq (.reg [⟨some 2, .mov (.k (.str [105, 110, 116])), none⟩]
[2])
.ret)
(.seq (.reg [⟨some 7, .bin .eql (.t 3) (.k (.int .i64 2)), none⟩,
⟨some 6, .mov (.t 7), none⟩]
[3, 6])
(.cond (.t 6)
(.seq (.reg [⟨some 2, .mov (.k (.str [115, 116, 114, 105, 110, 103])), none⟩]
[2])
.ret)
(.seq (.reg [⟨some 9, .bin .eql (.t 3) (.k (.int .i64 3)), none⟩,
⟨some 8, .mov (.t 9), none⟩]
[8])
(.cond (.t 8)
(.seq (.reg [⟨some 2, .mov (.k (.str [98, 111, 111, 108])), none⟩]
[2])
.ret)
.skip))))))))
(.seq (.reg [⟨some 2, .mov (.k (.str [])), none⟩]
[2])
.ret)))⟩
theorem k_value_Name : chkF Go.Proofs.Tryd.prog Go.Proofs.Tryd.f116 c_value_Name = true := by kernel_rfl
theorem pc_value_Name {G : Nat → Option AV} {args : List AV} {r : AV} (h : Runs Go.Proofs.Tryd.prog G c_value_Name args r) (hk : args.length = c_value_Name.k := by rfl) : PureC Go.Proofs.Tryd.prog G n_value_Name args r := PureC.of_runs (fn := Go.Proofs.Tryd.f116) (A := c_value_Name) Go.Proofs.Tryd.func116 k_value_Name hk h
def c_value_Op : AFun := ⟨117, 3, [.cells 6 4, .t 7],
  (.seq (.reg [⟨some 4, .box t_api_Value 4 (.t 1), none⟩,
⟨some 5, .box t_api_Value 4 (.t 2), none⟩,
⟨some 6, .alloc t_api_Value 4 (.agg [.int .i64 0, .int .i64 0, .str [], .bool false]), none⟩,
⟨some 7, .mov (.k (.int .i64 0)), none⟩]
[0, 4, 5, 6])
(.seq (.block 0
(.seq (.reg [⟨some 11, .mov (.t 0), none⟩,
⟨some 12, .bin .lss (.t 11) (.k (.int .i64 4)), none⟩,
⟨some 13, .mov (.t 12), none⟩,
⟨some 14, .mov (.t 0), (some (13, false))⟩,
⟨some 15, .bin .gtr (.t 14) (.k (.int .i64 16)), (some (13, false))⟩,
⟨some 16, .pick (.t 13) (.k (.bool true)) (.t 15), none⟩,
⟨some 10, .mov (.t 16), none⟩]
[0, 4, 5, 6, 10])
(.cond (.t 10)
(.seq (.reg [⟨some 17, .build [.int .i64 0, .int .i64 0, .str [], .bool false] [], none⟩,
⟨none, .store (.t 6) (.t 17) 4, none⟩,
⟨some 7, .mov (.k (.int .i64 1)), none⟩]
[6, 7])
.ret)
(.seq (.reg [⟨some 19, .mov (.t 0), none⟩,
⟨some 20, .faddr (.t 4) 0, none⟩,
⟨some 21, .load (.t 20), none⟩,
⟨some 22, .faddr (.t 5) 0, none⟩,
⟨some 23, .load (.t 22), none⟩,
⟨some 24, .call n_value_Type [.t 19, .t 21, .t 23], none⟩,
⟨some 25, .bin .eql (.t 24) (.k (.int .i64 0)), none⟩,
⟨some 18, .mov (.t 25), none⟩]
[0, 4, 5, 6, 18])
(.cond (.t 18)
(.seq (.reg [⟨some 26, .build [.int .i64 0, .int .i64 0, .str [], .bool false] [], none⟩,
⟨none, .store (.t 6) (.t 26) 4, none⟩,
⟨some 7, .mov (.k (.int .i64 8)), none⟩]
[6, 7])
.ret)
.skip)))))
(.seq (.seq (.reg [⟨some 27, .mov (.t 0), none⟩]
[0, 4, 5, 6, 27])
(.block 1
(.seq (.reg [⟨some 29, .bin .eql (.t 27) (.k (.int .i64 4)), none⟩,
⟨some 28, .mov (.t 29), none⟩]
[0, 4, 5, 6, 27, 28])
(.cond (.t 28)
(.seq (.reg [⟨some 30, .faddr (.t 4) 3, none⟩,
⟨some 31, .load (.t 30), none⟩,
⟨some 32, .un .not (.t 31), none⟩,
⟨some 33, .call n_value_truth [.t 32], none⟩,
⟨some 34, .ext (.t 33) 0, none⟩,
⟨some 35, .ext (.t 33) 1, none⟩,
⟨none, .store (.t 6) (.t 34) 4, none⟩,
⟨some 7, .mov (.t 35), none⟩]
[6, 7])
.ret)
(.seq (.reg [⟨some 37, .bin .eql (.t 27) (.k (.int .i64 6)), none⟩,
⟨some 36, .mov (.t 37), none⟩]
[0, 4, 5, 6, 27, 36])
(.cond (.t 36)
(.seq (.reg [⟨some 38, .faddr (.t 4) 3, none⟩,
⟨some 39, .load (.t 38), none⟩,
⟨some 40, .mov (.t 39), none⟩,
⟨some 41, .faddr (.t 5) 3, (some (40, true))⟩,
⟨some 42, .load (.t 41), (some (40, true))⟩,
⟨some 43, .pick (.t 40) (.t 42) (.k (.bool false)), none⟩,
⟨some 44, .call n_value_truth [.t 43], none⟩,
⟨some 45, .ext (.t 44) 0, none⟩,
⟨some 46, .ext (.t 44) 1, none⟩,
⟨none, .store (.t 6) (.t 45) 4, none⟩,
⟨some 7, .mov (.t 46), none⟩]
[6, 7])
.ret)
(.seq (.reg [⟨some 48, .bin .eql (.t 27) (.k (.int .i64 7)), none⟩,
⟨some 47, .mov (.t 48), none⟩]
[0, 4, 5, 6, 27, 47])
(.cond (.t 47)
(.seq (.reg [⟨some 49, .faddr (.t 4) 3, none⟩,
⟨some 50, .load (.t 49), none⟩,
⟨some 51, .mov (.t 50), none⟩,
⟨some 52, .faddr (.t 5) 3, (some (51, false))⟩,
⟨some 53, .load (.t 52), (some (51, false))⟩,
⟨some 54, .pick (.t 51) (.k (.bool true)) (.t 53), none⟩,
⟨some 55, .call n_value_truth [.t 54], none⟩,
⟨some 56, .ext (.t 55) 0, none⟩,
⟨some 57, .ext (.t 55) 1, none⟩,
⟨none, .store (.t 6) (.t 56) 4, none⟩,
⟨some 7, .mov (.t 57), none⟩]
[6, 7])
.ret)
(.seq (.reg [⟨some 59, .bin .eql (.t 27) (.k (.int .i64 13)), none⟩,
⟨some 58, .mov (.t 59), none⟩]
[0, 4, 5, 6, 27, 58])
(.cond (.t 58)
(.seq (.reg [⟨some 60, .loadN (.t 4) 4, none⟩,
⟨some 61, .loadN (.t 5) 4, none⟩,
⟨some 62, .eqA false [0, 0, 1, 2] (.t 60) (.t 61), none⟩,
⟨some 63, .call n_value_truth [.t 62], none⟩,
⟨some 64, .ext (.t 63) 0, none⟩,
⟨some 65, .ext (.t 63) 1, none⟩,
⟨none, .store (.t 6) (.t 64) 4, none⟩,
⟨some 7, .mov (.t 65), none⟩]
[6, 7])
.ret)
(.seq (.reg [⟨some 67, .bin .eql (.t 27) (.k (.int .i64 14)), none⟩,
⟨some 66, .mov (.t 67), none⟩]
[0, 4, 5, 6, 27, 66])
(.cond (.t 66)
(.seq (.reg [⟨some 68, .loadN (.t 4) 4, none⟩,
⟨some 69, .loadN (.t 5) 4, none⟩,
⟨some 70, .eqA true [0, 0, 1, 2] (.t 68) (.t 69), none⟩,
⟨some 71, .call n_value_truth [.t 70], none⟩,
⟨some 72, .ext (.t 71) 0, none⟩,
⟨some 73, .ext (.t 71) 1, none⟩,
⟨none, .store (.t 6) (.t 72) 4, none⟩,
⟨some 7, .mov (.t 73), none⟩]
[6, 7])
.ret)
(.seq (.reg [⟨some 75, .bin .eql (.t 27) (.k (.int .i64 15)), none⟩,
⟨some 74, .mov (.t 75), none⟩]
[0, 4, 5, 6, 27, 74])
(.cond (.t 74)
(.seq (.reg [⟨some 76, .loadN (.t 4) 4, none⟩,
⟨some 77, .loadN (.t 5) 4, none⟩,
⟨some 78, .call n_value_Less [.t 76, .t 77], none⟩,
⟨some 79, .call n_value_truth [.t 78], none⟩,
⟨some 80, .ext (.t 79) 0, none⟩,
⟨some 81, .ext (.t 79) 1, none⟩,
⟨none, .store (.t 6) (.t 80) 4, none⟩,
⟨some 7, .mov (.t 81), none⟩]
[6, 7])
.ret)
(.seq (.reg [⟨some 83, .bin .eql (.t 27) (.k (.int .i64 16)), none⟩,
⟨some 82, .mov (.t 83), none⟩]
[0, 4, 5, 6, 82])
(.cond (.t 82)
(.seq (.reg [⟨some 84, .loadN (.t 5) 4, none⟩,
⟨some 85, .loadN (.t 4) 4, none⟩,
⟨some 86, .call n_value_Less [.t 84, .t 85], none⟩,
⟨some 87, .un .not (.t 86), none⟩,
⟨some 88, .call n_value_truth [.t 87], none⟩,
⟨some 89, .ext (.t 88) 0, none⟩,
⟨some 90, .ext (.t 88) 1, none⟩,
⟨none, .store (.t 6) (.t 89) 4, none⟩,
⟨some 7, .mov (.t 90), none⟩]
[6, 7])
.ret)
.skip))))))))))))))))
(.seq (.seq (.reg [⟨some 91, .faddr (.t 4) 0, none⟩,
⟨some 92, .load (.t 91), none⟩,
⟨some 93, .bin .eql (.t 92) (.k (.int .i64 2)), none⟩]
[0, 4, 5, 6, 93])
(.cond (.t 93)
(.seq (.reg [⟨some 94, .faddr (.t 4) 2, none⟩,
⟨some 95, .load (.t 94), none⟩,
⟨some 96, .faddr (.t 5) 2, none⟩,
⟨some 97, .load (.t 96), none⟩,
⟨some 98, .bin .add (.t 95) (.t 97), none⟩,
⟨some 99, .call n_value_text [.t 98], none⟩,
⟨some 100, .ext (.t 99) 0, none⟩,
⟨some 101, .ext (.t 99) 1, none⟩,
⟨none, .store (.t 6) (.t 100) 4, none⟩,
⟨some 7, .mov (.t 101), none⟩]
[6, 7])
.ret)
.skip))
(.seq (.reg [⟨some 103, .mov (.t 0), none⟩,
⟨some 104, .faddr (.t 4) 1, none⟩,
⟨some 105, .load (.t 104), none⟩,
⟨some 106, .faddr (.t 5) 1, none⟩,
⟨some 107, .load (.t 106), none⟩,
⟨some 108, .call n_num_Op [.t 103, .t 105, .t 107], none⟩,
⟨some 102, .mov (.t 108), none⟩,
⟨some 109, .ext (.t 102) 0, none⟩,
⟨some 110, .ext (.t 102) 1, none⟩,
⟨some 8, .mov (.t 109), none⟩,
⟨some 9, .mov (.t 110), none⟩]
[6, 8, 9])
(.seq (.seq (.reg [⟨some 111, .mov (.t 9), none⟩,
⟨some 112, .bin .neq (.t 111) (.k (.int .i64 0)), none⟩]
[6, 8, 9, 112])
(.cond (.t 112)
(.seq (.reg [⟨some 113, .build [.int .i64 0, .int .i64 0, .str [], .bool false] [], none⟩,
⟨some 114, .mov (.t 9), none⟩,
⟨none, .store (.t 6) (.t 113) 4, none⟩,
⟨some 7, .mov (.t 114), none⟩]
[6, 7])
.ret)
.skip))
(.seq (.reg [⟨some 115, .mov (.t 8), none⟩,
⟨some 116, .call n_value_Int [.t 115], none⟩,
⟨none, .store (.t 6) (.t 116) 4, none⟩,
⟨some 7, .mov (.k (.int .i64 0)), none⟩]
[6, 7])
.ret)))))))⟩
theorem k_value_Op : chkF Go.Proofs.Tryd.prog Go.Proofs.Tryd.f94 c_value_Op = true := by kernel_rfl
theorem pc_value_Op {G : Nat → Option AV} {args : List AV} {r : AV} (h : Runs Go.Proofs.Tryd.prog G c_value_Op args r) (hk : args.length = c_value_Op.k := by rfl) : PureC Go.Proofs.Tryd.prog G n_value_Op args r := PureC.of_runs (fn := Go.Proofs.Tryd.f94) (A := c_value_Op) Go.Proofs.Tryd.func94 k_value_Op hk h
def c_value_Right : AFun := ⟨32, 1, [.t 2],
  (.seq (.reg [⟨some 1, .box t_api_Value 4 (.t 0), none⟩,
⟨some 2, .mov (.k (.bool false)), none⟩]
[1])
(.seq (.seq (.reg [⟨some 3, .faddr (.t 1) 0, none⟩,
⟨some 4, .load (.t 3), none⟩]
[1, 4])
(.block 0
(.seq (.reg [⟨some 6, .bin .eql (.t 4) (.k (.int .i64 1)), none⟩,
⟨some 5, .mov (.t 6), none⟩]
[1, 4, 5])
(.cond (.t 5)
(.seq (.dreg [⟨some 7, .loadN (.t 1) 4, none⟩,
⟨some 8, .faddr (.t 1) 1, none⟩,
⟨some 9, .load (.t 8), none⟩,
⟨some 10, .call n_value_Int [.t 9], none⟩,
⟨some 11, .eqA false [0, 0, 1, 2] (.t 7) (.t 10), none⟩,
⟨some 2, .mov (.t 11), none⟩]
[2])
.ret)
(.seq (.reg [⟨some 13, .bin .eql (.t 4) (.k (.int .i64 2)), none⟩,
⟨some 12, .mov (.t 13), none⟩]
[1, 4, 12])
(.cond (.t 12)
(.seq (.dreg [⟨some 14, .loadN (.t 1) 4, none⟩,
⟨some 15, .faddr (.t 1) 2, none⟩,
⟨some 16, .load (.t 15), none⟩,
⟨some 17, .call n_value_Str [.t 16], none⟩,
⟨some 18, .eqA false [0, 0, 1, 2] (.t 14) (.t 17), none⟩,
⟨some 19, .mov (.t 18), none⟩,
⟨some 20, .faddr (.t 1) 2, (some (19, true))⟩,
⟨some 21, .load (.t 20), (some (19, true))⟩,
⟨some 22, .len true (.t 21), (some (19, true))⟩,
⟨some 23, .bin .leq (.t 22) (.k (.int .i64 4096)), (some (19, true))⟩,
⟨some 24, .pick (.t 19) (.t 23) (.k (.bool false)), none⟩,
⟨some 2, .mov (.t 24), none⟩]
[2])
.ret)
(.seq (.reg [⟨some 26, .bin .eql (.t 4) (.k (.int .i64 3)), none⟩,
⟨some 25, .mov (.t 26), none⟩]
[1, 25])
(.cond (.t 25)
(.seq (.dreg [⟨some 27, .loadN (.t 1) 4, none⟩,
⟨some 28, .faddr (.t 1) 3, none⟩,
⟨some 29, .load (.t 28), none⟩,
⟨some 30, .call n_value_Bool [.t 29], none⟩,
⟨some 31, .eqA false [0, 0, 1, 2] (.t 27) (.t 30), none⟩,
⟨some 2, .mov (.t 31), none⟩]
[2])
.ret)
.skip))))))))
(.seq (.reg [⟨some 2, .mov (.k (.bool false)), none⟩]
[2])
.ret)))⟩
theorem k_value_Right : chkF Go.Proofs.Tryd.prog Go.Proofs.Tryd.f45 c_value_Right = true := by kernel_rfl
theorem pc_value_Right {G : Nat → Option AV} {args : List AV} {r : AV} (h : Runs Go.Proofs.Tryd.prog G c_value_Right args r) (hk : args.length = c_value_Right.k := by rfl) : PureC Go.Proofs.Tryd.prog G n_value_Right args r := PureC.of_runs (fn := Go.Proofs.Tryd.f45) (A := c_value_Right) Go.Proofs.Tryd.func45 k_value_Right hk h
def c_value_Str : AFun := ⟨5, 1, [.cells 2 4],
  (.seq (.reg [⟨some 2, .alloc t_api_Value 4 (.agg [.int .i64 0, .int .i64 0, .str [], .bool false]), none⟩]
[0, 2])
(.seq (.reg [⟨some 3, .mov (.t 0), none⟩,
⟨some 4, .build [.int .i64 0, .int .i64 0, .str [], .bool false] [(0, 1, .k (.int .i64 2)), (2, 1, .t 3)], none⟩,
⟨none, .store (.t 2) (.t 4) 4, none⟩]
[2])
.ret))⟩
theorem k_value_Str : chkF Go.Proofs.Tryd.prog Go.Proofs.Tryd.f70 c_value_Str = true := by kernel_rfl
theorem pc_value_Str {G : Nat → Option AV} {args : List AV} {r : AV} (h : Runs Go.Proofs.Tryd.prog G c_value_Str args r) (hk : args.length = c_value_Str.k := by rfl) : PureC Go.Proofs.Tryd.prog G n_value_Str args r := PureC.of_runs (fn := Go.Proofs.Tryd.f70) (A := c_value_Str) Go.Proofs.Tryd.func70 k_value_Str hk h
def c_value_Type : AFun := ⟨81, 3, [.t 6],
  (.seq (.reg [⟨some 6, .mov (.k (.int .i64 0)), none⟩]
[0, 1, 2])
(.seq (.seq (.reg [⟨some 7, .mov (.t 0), none⟩]
[1, 2, 7])
(.block 0
(.seq (.block 7
(.seq (.block 6
(.seq (.block 5
(.seq (.block 4
(.seq (.block 3
(.seq (.block 2
(.seq (.block 1
(.seq (.seq (.seq (.reg [⟨some 9, .bin .eql (.t 7) (.k (.int .i64 4)), none⟩,
⟨some 8, .mov (.t 9), none⟩]
[1, 2, 7, 8])
(.cond (.t 8)
(.exit 1)
.skip))
(.seq (.seq (.seq (.reg [⟨some 11, .bin .eql (.t 7) (.k (.int .i64 6)), none⟩,
⟨some 10, .mov (.t 11), none⟩]
[1, 2, 7, 10])
(.cond (.t 10)
.skip
(.reg [⟨some 12, .bin .eql (.t 7) (.k (.int .i64 7)), none⟩,
⟨some 10, .mov (.t 12), none⟩]
[1, 2, 7, 10])))
(.cond (.t 10)
(.exit 2)
.skip))
(.seq (.seq (.reg [⟨some 14, .bin .eql (.t 7) (.k (.int .i64 5)), none⟩,
⟨some 13, .mov (.t 14), none⟩]
[1, 2, 7, 13])
(.cond (.t 13)
(.exit 3)
.skip))
(.seq (.seq (.seq (.reg [⟨some 16, .bin .eql (.t 7) (.k (.int .i64 9)), none⟩,
⟨some 15, .mov (.t 16), none⟩]
[1, 2, 7, 15])
(.cond (.t 15)
.skip
(.seq (.reg [⟨some 17, .bin .eql (.t 7) (.k (.int .i64 10)), none⟩,
⟨some 15, .mov (.t 17), none⟩]
[1, 2, 7, 15])
(.cond (.t 15)
.skip
(.seq (.reg [⟨some 18, .bin .eql (.t 7) (.k (.int .i64 11)), none⟩,
⟨some 15, .mov (.t 18), none⟩]
[1, 2, 7, 15])
(.cond (.t 15)
.skip
(.reg [⟨some 19, .bin .eql (.t 7) (.k (.int .i64 12)), none⟩,
⟨some 15, .mov (.t 19), none⟩]
[1, 2, 7, 15])))))))
(.cond (.t 15)
(.exit 4)
.skip))
(.seq (.seq (.reg [⟨some 21, .bin .eql (.t 7) (.k (.int .i64 8)), none⟩,
⟨some 20, .mov (.t 21), none⟩]
[1, 2, 7, 20])
(.cond (.t 20)
(.exit 5)
.skip))
(.seq (.seq (.seq (.reg [⟨some 23, .bin .eql (.t 7) (.k (.int .i64 13)), none⟩,
⟨some 22, .mov (.t 23), none⟩]
[1, 2, 7, 22])
(.cond (.t 22)
.skip
(.reg [⟨some 24, .bin .eql (.t 7) (.k (.int .i64 14)), none⟩,
⟨some 22, .mov (.t 24), none⟩]
[1, 2, 7, 22])))
(.cond (.t 22)
(.exit 6)
.skip))
(.seq (.seq (.reg [⟨some 26, .bin .eql (.t 7) (.k (.int .i64 15)), none⟩,
⟨some 25, .mov (.t 26), none⟩]
[1, 2, 7, 25])
(.cond (.t 25)
.skip
(.reg [⟨some 27, .bin .eql (.t 7) (.k (.int .i64 16)), none⟩,
⟨some 25, .mov (.t 27), none⟩]
[1, 2, 25])))
(.cond (.t 25)
(.exit 7)
.skip))))))))
(.exit 0)))
(.reg [⟨some 28, .mov (.t 1), none⟩,
⟨some 2, .mov (.t 28), none⟩]
[1, 2])))
(.seq (.seq (.reg [⟨some 29, .mov (.t 1), none⟩,
⟨some 30, .bin .eql (.t 29) (.k (.int .i64 3)), none⟩,
⟨some 31, .mov (.t 30), none⟩,
⟨some 32, .mov (.t 2), (some (31, true))⟩,
⟨some 33, .mov (.t 1), (some (31, true))⟩,
⟨some 34, .bin .eql (.t 32) (.t 33), (some (31, true))⟩,
⟨some 35, .pick (.t 31) (.t 34) (.k (.bool false)), none⟩,
⟨some 36, .call n_value_when [.t 35, .k (.int .i64 3)], none⟩,
⟨some 6, .mov (.t 36), none⟩]
[6])
.ret)
(.exit 0))))
(.reg [⟨some 37, .mov (.t 1), none⟩,
⟨some 2, .mov (.t 37), none⟩]
[1, 2])))
(.seq (.seq (.reg [⟨some 38, .mov (.t 1), none⟩,
⟨some 39, .bin .eql (.t 38) (.k (.int .i64 1)), none⟩,
⟨some 40, .mov (.t 39), none⟩,
⟨some 41, .mov (.t 2), (some (40, true))⟩,
⟨some 42, .mov (.t 1), (some (40, true))⟩,
⟨some 43, .bin .eql (.t 41) (.t 42), (some (40, true))⟩,
⟨some 44, .pick (.t 40) (.t 43) (.k (.bool false)), none⟩,
⟨some 45, .mov (.t 1), none⟩,
⟨some 46, .call n_value_when [.t 44, .t 45], none⟩,
⟨some 6, .mov (.t 46), none⟩]
[6])
.ret)
(.exit 0))))
(.seq (.seq (.reg [⟨some 47, .mov (.t 1), none⟩,
⟨some 48, .bin .eql (.t 47) (.k (.int .i64 1)), none⟩,
⟨some 49, .mov (.t 48), none⟩,
⟨some 50, .mov (.t 1), (some (49, false))⟩,
⟨some 51, .bin .eql (.t 50) (.k (.int .i64 2)), (some (49, false))⟩,
⟨some 52, .pick (.t 49) (.k (.bool true)) (.t 51), none⟩,
⟨some 53, .mov (.t 52), none⟩,
⟨some 54, .mov (.t 2), (some (53, true))⟩,
⟨some 55, .mov (.t 1), (some (53, true))⟩,
⟨some 56, .bin .eql (.t 54) (.t 55), (some (53, true))⟩,
⟨some 57, .pick (.t 53) (.t 56) (.k (.bool false)), none⟩,
⟨some 58, .mov (.t 1), none⟩,
⟨some 59, .call n_value_when [.t 57, .t 58], none⟩,
⟨some 6, .mov (.t 59), none⟩]
[6])
.ret)
(.exit 0))))
(.seq (.seq (.reg [⟨some 60, .mov (.t 1), none⟩,
⟨some 61, .call n_value_Name [.t 60], none⟩,
⟨some 62, .bin .neq (.t 61) (.k (.str [])), none⟩,
⟨some 63, .mov (.t 62), none⟩,
⟨some 64, .mov (.t 2), (some (63, true))⟩,
⟨some 65, .mov (.t 1), (some (63, true))⟩,
⟨some 66, .bin .eql (.t 64) (.t 65), (some (63, true))⟩,
⟨some 67, .pick (.t 63) (.t 66) (.k (.bool false)), none⟩,
⟨some 68, .call n_value_when [.t 67, .k (.int .i64 3)], none⟩,
⟨some 6, .mov (.t 68), none⟩]
[6])
.ret)
(.exit 0))))
(.seq (.seq (.reg [⟨some 69, .mov (.t 1), none⟩,
⟨some 70, .bin .eql (.t 69) (.k (.int .i64 1)), none⟩,
⟨some 71, .mov (.t 70), none⟩,
⟨some 72, .mov (.t 1), (some (71, false))⟩,
⟨some 73, .bin .eql (.t 72) (.k (.int .i64 2)), (some (71, false))⟩,
⟨some 74, .pick (.t 71) (.k (.bool true)) (.t 73), none⟩,
⟨some 75, .mov (.t 74), none⟩,
⟨some 76, .mov (.t 2), (some (75, true))⟩,
⟨some 77, .mov (.t 1), (some (75, true))⟩,
⟨some 78, .bin .eql (.t 76) (.t 77), (some (75, true))⟩,
⟨some 79, .pick (.t 75) (.t 78) (.k (.bool false)), none⟩,
⟨some 80, .call n_value_when [.t 79, .k (.int .i64 3)], none⟩,
⟨some 6, .mov (.t 80), none⟩]
[6])
.ret)
(.exit 0)))))
(.seq (.reg [⟨some 6, .mov (.k (.int .i64 0)), none⟩]
[6])
.ret)))⟩
theorem k_value_Type : chkF Go.Proofs.Tryd.prog Go.Proofs.Tryd.f91 c_value_Type = true := by kernel_rfl
theorem pc_value_Type {G : Nat → Option AV} {args : List AV} {r : AV} (h : Runs Go.Proofs.Tryd.prog G c_value_Type args r) (hk : args.length = c_value_Type.k := by rfl) : PureC Go.Proofs.Tryd.prog G n_value_Type args r := PureC.of_runs (fn := Go.Proofs.Tryd.f91) (A := c_value_Type) Go.Proofs.Tryd.func91 k_value_Type hk h
def c_value_text : AFun := ⟨10, 1, [.cells 2 4, .t 3],
  (.seq (.reg [⟨some 2, .alloc t_api_Value 4 (.agg [.int .i64 0, .int .i64 0, .str [], .bool false]), none⟩,
⟨some 3, .mov (.k (.int .i64 0)), none⟩]
[0, 2])
(.seq (.seq (.reg [⟨some 4, .mov (.t 0), none⟩,
⟨some 5, .len true (.t 4), none⟩,
⟨some 6, .bin .gtr (.t 5) (.k (.int .i64 4096)), none⟩]
[0, 2, 6])
(.cond (.t 6)
(.seq (.reg [⟨some 7, .build [.int .i64 0, .int .i64 0, .str [], .bool false] [], none⟩,
⟨none, .store (.t 2) (.t 7) 4, none⟩,
⟨some 3, .mov (.k (.int .i64 3)), none⟩]
[2, 3])
.ret)
.skip))
(.seq (.reg [⟨some 8, .mov (.t 0), none⟩,
⟨some 9, .call n_value_Str [.t 8], none⟩,
⟨none, .store (.t 2) (.t 9) 4, none⟩,
⟨some 3, .mov (.k (.int .i64 0)), none⟩]
[2, 3])
.ret)))⟩
theorem k_value_text : chkF Go.Proofs.Tryd.prog Go.Proofs.Tryd.f119 c_value_text = true := by kernel_rfl
theorem pc_value_text {G : Nat → Option AV} {args : List AV} {r : AV} (h : Runs Go.Proofs.Tryd.prog G c_value_text args r) (hk : args.length = c_value_text.k := by rfl) : PureC Go.Proofs.Tryd.prog G n_value_text args r := PureC.of_runs (fn := Go.Proofs.Tryd.f119) (A := c_value_text) Go.Proofs.Tryd.func119 k_value_text hk h
def c_value_truth : AFun := ⟨6, 1, [.cells 2 4, .t 3],
  (.seq (.reg [⟨some 2, .alloc t_api_Value 4 (.agg [.int .i64 0, .int .i64 0, .str [], .bool false]), none⟩,
⟨some 3, .mov (.k (.int .i64 0)), none⟩]
[0, 2])
(.seq (.reg [⟨some 4, .mov (.t 0), none⟩,
⟨some 5, .call n_value_Bool [.t 4], none⟩,
⟨none, .store (.t 2) (.t 5) 4, none⟩,
⟨some 3, .mov (.k (.int .i64 0)), none⟩]
[2, 3])
.ret))⟩
theorem k_value_truth : chkF Go.Proofs.Tryd.prog Go.Proofs.Tryd.f118 c_value_truth = true := by kernel_rfl
theorem pc_value_truth {G : Nat → Option AV} {args : List AV} {r : AV} (h : Runs Go.Proofs.Tryd.prog G c_value_truth args r) (hk : args.length = c_value_truth.k := by rfl) : PureC Go.Proofs.Tryd.prog G n_value_truth args r := PureC.of_runs (fn := Go.Proofs.Tryd.f118) (A := c_value_truth) Go.Proofs.Tryd.func118 k_value_truth hk h
def c_value_when : AFun := ⟨8, 2, [.t 4],
  (.seq (.reg [⟨some 4, .mov (.k (.int .i64 0)), none⟩]
[0, 1])
(.seq (.seq (.reg [⟨some 5, .mov (.t 0), none⟩,
⟨some 6, .un .not (.t 5), none⟩]
[1, 6])
(.cond (.t 6)
(.seq (.reg [⟨some 4, .mov (.k (.int .i64 0)), none⟩]
[4])
.ret)
.skip))
(.seq (.reg [⟨some 7, .mov (.t 1), none⟩,
⟨some 4, .mov (.t 7), none⟩]
[4])
.ret)))⟩
theorem k_value_when : chkF Go.Proofs.Tryd.prog Go.Proofs.Tryd.f115 c_value_when = true := by kernel_rfl
theorem pc_value_when {G : Nat → Option AV} {args : List AV} {r : AV} (h : Runs Go.Proofs.Tryd.prog G c_value_when args r) (hk : args.length = c_value_when.k := by rfl) : PureC Go.Proofs.Tryd.prog G n_value_when args r := PureC.of_runs (fn := Go.Proofs.Tryd.f115) (A := c_value_when) Go.Proofs.Tryd.func115 k_value_when hk h
def c_slices_EqualFunc_api_Value_api_Free_api_Value_api_Free : AFun := ⟨32, 3, [.t 6],
  (.seq (.reg [⟨some 6, .mov (.k (.bool false)), none⟩]
[0, 1, 2])
(.seq (.seq (.reg [⟨some 10, .mov (.t 0), none⟩,
⟨some 11, .len false (.t 10), none⟩,
⟨some 12, .mov (.t 1), none⟩,
⟨some 13, .len false (.t 12), none⟩,
⟨some 14, .bin .neq (.t 11) (.t 13), none⟩]
[0, 1, 2, 14])
(.cond (.t 14)
(.seq (.reg [⟨some 6, .mov (.k (.bool false)), none⟩]
[6])
.ret)
.skip))
(.seq (.seq (.reg [⟨some 15, .mov (.t 0), none⟩,
⟨some 16, .len false (.t 15), none⟩,
⟨some 17, .mov (.k (.int .i64 0)), none⟩]
[1, 2, 15, 16, 17])
(.block 0
(.loop [1, 2, 15, 16, 17] [11, 13, 16]
  (.seq (.reg [⟨some 18, .bin .lss (.t 17) (.t 16), none⟩]
[1, 2, 15, 16, 17, 18])
(.seq (.cond (.t 18)
.skip
(.exit 0))
(.seq (.block 1
(.seq (.reg [⟨some 19, .mov (.t 17), none⟩,
⟨some 20, .iaddr 4 (.t 15) (.t 17), none⟩,
⟨some 21, .loadN (.t 20) 4, none⟩,
⟨some 8, .alloc t_api_Value 4 (.agg [.int .i64 0, .int .i64 0, .str [], .bool false]), none⟩,
⟨some 7, .mov (.t 19), none⟩,
⟨none, .store (.t 8) (.t 21) 4, none⟩]
[1, 2, 7, 8, 15, 16, 17])
(.seq (.reg [⟨some 22, .mov (.t 1), none⟩,
⟨some 23, .mov (.t 7), none⟩,
⟨some 24, .iaddr 5 (.t 22) (.t 23), none⟩,
⟨some 25, .loadN (.t 24) 5, none⟩,
⟨some 9, .alloc t_api_Free 5 (.agg [.str [], .int .i64 0, .int .i64 0, .str [], .bool false]), none⟩,
⟨none, .store (.t 9) (.t 25) 5, none⟩]
[1, 2, 8, 9, 15, 16, 17])
(.seq (.reg [⟨some 26, .mov (.t 2), none⟩,
⟨some 27, .loadN (.t 8) 4, none⟩,
⟨some 28, .loadN (.t 9) 5, none⟩,
⟨some 29, .callv (.t 26) [.t 27, .t 28], none⟩,
⟨some 30, .un .not (.t 29), none⟩]
[1, 2, 15, 16, 17, 30])
(.cond (.t 30)
(.seq (.reg [⟨some 6, .mov (.k (.bool false)), none⟩]
[6])
.ret)
.skip)))))
(.reg [⟨some 31, .bin .add (.t 17) (.k (.int .i64 1)), none⟩,
⟨some 17, .mov (.t 31), none⟩]
[1, 2, 15, 16, 17])))))))
(.seq (.reg [⟨some 6, .mov (.k (.bool true)), none⟩]
[6])
.ret))))⟩
theorem k_slices_EqualFunc_api_Value_api_Free_api_Value_api_Free : chkF Go.Proofs.Tryd.prog Go.Proofs.Tryd.f43 c_slices_EqualFunc_api_Value_api_Free_api_Value_api_Free = true := by kernel_rfl
theorem pc_slices_EqualFunc_api_Value_api_Free_api_Value_api_Free {G : Nat → Option AV} {args : List AV} {r : AV} (h : Runs Go.Proofs.Tryd.prog G c_slices_EqualFunc_api_Value_api_Free_api_Value_api_Free args r) (hk : args.length = c_slices_EqualFunc_api_Value_api_Free_api_Value_api_Free.k := by rfl) : PureC Go.Proofs.Tryd.prog G n_slices_EqualFunc_api_Value_api_Free_api_Value_api_Free args r := PureC.of_runs (fn := Go.Proofs.Tryd.f43) (A := c_slices_EqualFunc_api_Value_api_Free_api_Value_api_Free) Go.Proofs.Tryd.func43 k_slices_EqualFunc_api_Value_api_Free_api_Value_api_Free hk h
def c_eval_must : AFun := ⟨15, 3, [.cells 6 4],
  (.seq (.reg [⟨some 4, .box t_api_Value 4 (.t 1), none⟩,
⟨some 6, .alloc t_api_Value 4 (.agg [.int .i64 0, .int .i64 0, .str [], .bool false]), none⟩]
[0, 2, 4, 6])
(.seq (.seq (.reg [⟨some 7, .mov (.t 2), none⟩,
⟨some 8, .bin .neq (.t 7) (.k (.int .i64 0)), none⟩]
[0, 2, 4, 6, 8])
(.cond (.t 8)
(.reg [⟨some 9, .mov (.t 0), none⟩,
⟨some 10, .mov (.t 2), none⟩,
⟨some 11, .mki t_api_Errno (.t 10), none⟩,
⟨some 12, .build [.int .i64 0, .nili] [(0, 1, .t 9), (1, 1, .t 11)], none⟩,
⟨some 13, .mki t_eval_wrong (.t 12), none⟩,
⟨none, .bad, none⟩]
[4, 6])
.skip))
(.seq (.reg [⟨some 14, .loadN (.t 4) 4, none⟩,
⟨none, .store (.t 6) (.t 14) 4, none⟩]
[6])
.ret)))⟩
theorem k_eval_must : chkF Go.Proofs.Tryd.prog Go.Proofs.Tryd.f93 c_eval_must = true := by kernel_rfl
theorem pc_eval_must {G : Nat → Option AV} {args : List AV} {r : AV} (h : Runs Go.Proofs.Tryd.prog G c_eval_must args r) (hk : args.length = c_eval_must.k := by rfl) : PureC Go.Proofs.Tryd.prog G n_eval_must args r := PureC.of_runs (fn := Go.Proofs.Tryd.f93) (A := c_eval_must) Go.Proofs.Tryd.func93 k_eval_must hk h
end Go.Proofs.YtdfdiglnpekcpabDoor.Ab
