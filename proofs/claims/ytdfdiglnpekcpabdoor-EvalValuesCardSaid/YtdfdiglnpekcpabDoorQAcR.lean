/-
  The functions' abstract code, by program (acgen.py), and that the model's code is it, reckoned by the kernel. No claim is proved here.
-/
import Derived.Test.YtdfdiglnpekcpabDoorQAbRun
import Derived.Test.YtdfdiglnpekcpabDoorProg
namespace Go.Proofs.YtdfdiglnpekcpabDoor.Ab
open Go
abbrev t_int : Nat := 3
abbrev t_bool : Nat := 4
abbrev t_string : Nat := 9
abbrev t_api_Qea : Nat := 30
abbrev t_api_Value : Nat := 46
abbrev t_api_Errno : Nat := 47
abbrev t_api_Slot : Nat := 55
abbrev t_api_Free : Nat := 62
abbrev t_api_State : Nat := 64
abbrev t_api_Node : Nat := 78
abbrev t_api_Decl : Nat := 81
abbrev t_api_Symbol : Nat := 84
abbrev t_api_Trans : Nat := 87
abbrev t_eval_frame : Nat := 95
abbrev t_api_Arg : Nat := 108
abbrev t_core_expr : Nat := 124
abbrev t_eval_wrong : Nat := 128
abbrev t_Peval_wrong : Nat := 132
abbrev t_api_Set : Nat := 145
abbrev n_proctorlaw16_EvalValues : Nat := 4
abbrev n_proctorlaw16_small : Nat := 15
abbrev n_proctorlaw16_awake : Nat := 16
abbrev n_eval_Value : Nat := 17
abbrev n_proctorref16_Fits : Nat := 18
abbrev n_eval_Fits : Nat := 19
abbrev n_proctorref16_Value : Nat := 20
abbrev n_proctorref13_Few : Nat := 23
abbrev n_proctorref13_Right : Nat := 24
abbrev n_proctorref03_Less : Nat := 32
abbrev n_proctorref05_Right : Nat := 37
abbrev n_eval_Guard : Nat := 38
abbrev n_core_Kind : Nat := 39
abbrev n_eval_frame_run : Nat := 40
abbrev n_eval_errno : Nat := 41
abbrev n_proctorref03_Right : Nat := 42
abbrev n_slices_EqualFunc_api_Value_api_Free_api_Value_api_Free : Nat := 43
abbrev n_eval_Fits_1 : Nat := 44
abbrev n_value_Right : Nat := 45
abbrev n_proctorref05_Get : Nat := 46
abbrev n_proctorref03_Op : Nat := 47
abbrev n_proctorref07_Check : Nat := 49
abbrev n_proctorref13_names : Nat := 50
abbrev n_proctorref13_trans : Nat := 51
abbrev n_proctorref13_symbols : Nat := 52
abbrev n_value_Less : Nat := 60
abbrev n_proctorref03_Below : Nat := 61
abbrev n_core_exprs : Nat := 64
abbrev n_eval_frame_node : Nat := 66
abbrev n_errors_As : Nat := 67
abbrev n_errors_Is : Nat := 68
abbrev n_value_Int : Nat := 69
abbrev n_value_Str : Nat := 70
abbrev n_value_Bool : Nat := 71
abbrev n_proctorref03_truth : Nat := 72
abbrev n_proctorref03_arith : Nat := 73
abbrev n_proctorref07_Name : Nat := 74
abbrev n_proctorref07_Find : Nat := 75
abbrev n_proctorref13_twice : Nat := 76
abbrev n_proctorref13_Kind : Nat := 77
abbrev n_proctorref13_bound : Nat := 78
abbrev n_proctorref13_symbol : Nat := 79
abbrev n_proctorref13_SameSymbol : Nat := 80
abbrev n_proctorref13_Names : Nat := 81
abbrev n_core_leaf : Nat := 90
abbrev n_value_Type : Nat := 91
abbrev n_eval_frame_quant : Nat := 92
abbrev n_eval_must : Nat := 93
abbrev n_value_Op : Nat := 94
abbrev n_proctorref01_Add : Nat := 101
abbrev n_proctorref03_number : Nat := 102
abbrev n_proctorref01_Sub : Nat := 103
abbrev n_proctorref01_Mul : Nat := 104
abbrev n_proctorref01_Div : Nat := 105
abbrev n_proctorref07_Words : Nat := 106
abbrev n_proctorref07_Spelt : Nat := 107
abbrev n_proctorref13_below : Nat := 108
abbrev n_proctorref13_arg : Nat := 109
abbrev n_value_when : Nat := 115
abbrev n_value_Name : Nat := 116
abbrev n_binding_Get : Nat := 117
abbrev n_value_truth : Nat := 118
abbrev n_value_text : Nat := 119
abbrev n_num_Op : Nat := 120
abbrev n_proctorref13_Type : Nat := 123
abbrev n_num_Sub : Nat := 129
abbrev n_num_Add : Nat := 130
abbrev n_num_Mul : Nat := 131
abbrev n_num_Div : Nat := 132
abbrev n_num_Mod : Nat := 133
abbrev n_math_bits_Mul64 : Nat := 138
abbrev n_num_size : Nat := 139
abbrev n_num_Neg : Nat := 140
def c_eval_frame_node : AFun := ⟨98, 2, [.cells 4 4],
  (.seq (.reg [⟨some 2, .box t_eval_frame 11 (.t 0), none⟩,
⟨some 4, .alloc t_api_Value 4 (.agg [.int .i64 0, .int .i64 0, .str [], .bool false]), none⟩]
[1, 2, 4])
(.seq (.reg [⟨some 13, .faddr (.t 2) 0, none⟩,
⟨some 14, .faddr (.t 13) 7, none⟩,
⟨some 15, .load (.t 14), none⟩,
⟨some 16, .mov (.t 1), none⟩,
⟨some 17, .iaddr 7 (.t 15) (.t 16), none⟩,
⟨some 18, .loadN (.t 17) 7, none⟩,
⟨some 5, .alloc t_api_Node 7 (.agg [.int .i64 0, .int .i64 0, .int .i64 0, .int .i64 0, .int .i64 0, .str [], .bool false]), none⟩,
⟨none, .store (.t 5) (.t 18) 7, none⟩]
[1, 2, 4, 5])
(.seq (.seq (.reg [⟨some 19, .faddr (.t 5) 0, none⟩,
⟨some 20, .load (.t 19), none⟩]
[1, 2, 4, 5, 20])
(.block 0
(.seq (.reg [⟨some 22, .bin .eql (.t 20) (.k (.int .i64 1)), none⟩,
⟨some 21, .mov (.t 22), none⟩]
[1, 2, 4, 5, 20, 21])
(.cond (.t 21)
(.seq (.reg [⟨some 23, .faddr (.t 5) 3, none⟩,
⟨some 24, .loadN (.t 23) 4, none⟩,
⟨none, .store (.t 4) (.t 24) 4, none⟩]
[4])
.ret)
(.seq (.reg [⟨some 26, .bin .eql (.t 20) (.k (.int .i64 2)), none⟩,
⟨some 25, .mov (.t 26), none⟩]
[1, 2, 4, 5, 20, 25])
(.cond (.t 25)
(.seq (.reg [⟨some 28, .loadN (.t 2) 11, none⟩,
⟨some 29, .faddr (.t 5) 1, none⟩,
⟨some 30, .load (.t 29), none⟩,
⟨some 31, .call n_eval_frame_quant [.t 28, .t 30], none⟩,
⟨some 27, .mov (.t 31), none⟩,
⟨some 32, .ext (.t 27) 0, none⟩,
⟨some 33, .ext (.t 27) 1, none⟩,
⟨some 6, .alloc t_api_Value 4 (.agg [.int .i64 0, .int .i64 0, .str [], .bool false]), none⟩,
⟨none, .store (.t 6) (.t 32) 4, none⟩,
⟨some 7, .mov (.t 33), none⟩]
[1, 4, 6, 7])
(.seq (.reg [⟨some 34, .mov (.t 1), none⟩,
⟨some 35, .loadN (.t 6) 4, none⟩,
⟨some 36, .mov (.t 7), none⟩,
⟨some 37, .call n_eval_must [.t 34, .t 35, .t 36], none⟩,
⟨none, .store (.t 4) (.t 37) 4, none⟩]
[4])
.ret))
(.seq (.reg [⟨some 39, .bin .eql (.t 20) (.k (.int .i64 3)), none⟩,
⟨some 38, .mov (.t 39), none⟩]
[1, 2, 4, 5, 38])
(.cond (.t 38)
(.seq (.reg [⟨some 40, .faddr (.t 2) 10, none⟩,
⟨some 41, .load (.t 40), none⟩,
⟨some 42, .faddr (.t 5) 1, none⟩,
⟨some 43, .load (.t 42), none⟩,
⟨some 44, .iaddr 4 (.t 41) (.t 43), none⟩,
⟨some 45, .loadN (.t 44) 4, none⟩,
⟨none, .store (.t 4) (.t 45) 4, none⟩]
[4])
.ret)
.skip))))))))
(.seq (.reg [⟨some 46, .loadN (.t 2) 11, none⟩,
⟨some 47, .faddr (.t 5) 1, none⟩,
⟨some 48, .load (.t 47), none⟩,
⟨some 49, .call n_eval_frame_node [.t 46, .t 48], none⟩,
⟨some 8, .alloc t_api_Value 4 (.agg [.int .i64 0, .int .i64 0, .str [], .bool false]), none⟩,
⟨none, .store (.t 8) (.t 49) 4, none⟩]
[1, 2, 4, 5, 8])
(.seq (.block 1
(.seq (.reg [⟨some 51, .faddr (.t 5) 0, none⟩,
⟨some 52, .load (.t 51), none⟩,
⟨some 53, .bin .leq (.t 52) (.k (.int .i64 5)), none⟩,
⟨some 50, .mov (.t 53), none⟩]
[1, 2, 4, 5, 8, 50])
(.cond (.t 50)
(.seq (.reg [⟨some 55, .faddr (.t 5) 0, none⟩,
⟨some 56, .load (.t 55), none⟩,
⟨some 57, .loadN (.t 8) 4, none⟩,
⟨some 58, .build [.int .i64 0, .int .i64 0, .str [], .bool false] [], none⟩,
⟨some 59, .call n_value_Op [.t 56, .t 57, .t 58], none⟩,
⟨some 54, .mov (.t 59), none⟩,
⟨some 60, .ext (.t 54) 0, none⟩,
⟨some 61, .ext (.t 54) 1, none⟩,
⟨some 9, .alloc t_api_Value 4 (.agg [.int .i64 0, .int .i64 0, .str [], .bool false]), none⟩,
⟨none, .store (.t 9) (.t 60) 4, none⟩,
⟨some 10, .mov (.t 61), none⟩]
[1, 4, 9, 10])
(.seq (.reg [⟨some 62, .mov (.t 1), none⟩,
⟨some 63, .loadN (.t 9) 4, none⟩,
⟨some 64, .mov (.t 10), none⟩,
⟨some 65, .call n_eval_must [.t 62, .t 63, .t 64], none⟩,
⟨none, .store (.t 4) (.t 65) 4, none⟩]
[4])
.ret))
(.seq (.seq (.reg [⟨some 67, .faddr (.t 5) 0, none⟩,
⟨some 68, .load (.t 67), none⟩,
⟨some 69, .bin .eql (.t 68) (.k (.int .i64 6)), none⟩,
⟨some 70, .mov (.t 69), none⟩,
⟨some 71, .faddr (.t 8) 3, (some (70, true))⟩,
⟨some 72, .load (.t 71), (some (70, true))⟩,
⟨some 73, .un .not (.t 72), (some (70, true))⟩,
⟨some 74, .pick (.t 70) (.t 73) (.k (.bool false)), none⟩,
⟨some 66, .mov (.t 74), none⟩]
[1, 2, 4, 5, 8, 66])
(.cond (.t 66)
.skip
(.reg [⟨some 75, .faddr (.t 5) 0, none⟩,
⟨some 76, .load (.t 75), none⟩,
⟨some 77, .bin .eql (.t 76) (.k (.int .i64 7)), none⟩,
⟨some 78, .mov (.t 77), none⟩,
⟨some 79, .faddr (.t 8) 3, (some (78, true))⟩,
⟨some 80, .load (.t 79), (some (78, true))⟩,
⟨some 81, .pick (.t 78) (.t 80) (.k (.bool false)), none⟩,
⟨some 66, .mov (.t 81), none⟩]
[1, 2, 4, 5, 8, 66])))
(.cond (.t 66)
(.seq (.reg [⟨some 82, .loadN (.t 8) 4, none⟩,
⟨none, .store (.t 4) (.t 82) 4, none⟩]
[4])
.ret)
.skip)))))
(.seq (.dregA [⟨some 84, .faddr (.t 5) 0, none⟩,
⟨some 85, .load (.t 84), none⟩,
⟨some 86, .loadN (.t 8) 4, none⟩,
⟨some 87, .loadN (.t 2) 11, none⟩,
⟨some 88, .faddr (.t 5) 2, none⟩,
⟨some 89, .load (.t 88), none⟩,
⟨some 90, .call n_eval_frame_node [.t 87, .t 89], none⟩,
⟨some 91, .call n_value_Op [.t 85, .t 86, .t 90], none⟩,
⟨some 83, .mov (.t 91), none⟩,
⟨some 92, .ext (.t 83) 0, none⟩,
⟨some 93, .ext (.t 83) 1, none⟩,
⟨some 11, .alloc t_api_Value 4 (.agg [.int .i64 0, .int .i64 0, .str [], .bool false]), none⟩,
⟨none, .store (.t 11) (.t 92) 4, none⟩,
⟨some 12, .mov (.t 93), none⟩] 11 12 [1, 4, 11, 12, 83, 84, 85, 86, 87, 88, 89, 90, 91, 92, 93]
[1, 4, 11, 12])
(.seq (.reg [⟨some 94, .mov (.t 1), none⟩,
⟨some 95, .loadN (.t 11) 4, none⟩,
⟨some 96, .mov (.t 12), none⟩,
⟨some 97, .call n_eval_must [.t 94, .t 95, .t 96], none⟩,
⟨none, .store (.t 4) (.t 97) 4, none⟩]
[4])
.ret)))))))⟩
theorem k_eval_frame_node : chkF Go.Proofs.Tryd.prog Go.Proofs.Tryd.f66 c_eval_frame_node = true := by kernel_rfl
theorem pc_eval_frame_node {G : Nat → Option AV} {args : List AV} {r : AV} (h : Runs Go.Proofs.Tryd.prog G c_eval_frame_node args r) (hk : args.length = c_eval_frame_node.k := by rfl) : PureC Go.Proofs.Tryd.prog G n_eval_frame_node args r := PureC.of_runs (fn := Go.Proofs.Tryd.f66) (A := c_eval_frame_node) Go.Proofs.Tryd.func66 k_eval_frame_node hk h
def c_eval_frame_quant : AFun := ⟨31, 2, [.cells 4 4, .t 5],
  (.seq (.reg [⟨some 2, .box t_eval_frame 11 (.t 0), none⟩,
⟨some 4, .alloc t_api_Value 4 (.agg [.int .i64 0, .int .i64 0, .str [], .bool false]), none⟩,
⟨some 5, .mov (.k (.int .i64 0)), none⟩]
[1, 2, 4])
(.seq (.reg [⟨some 9, .faddr (.t 2) 9, none⟩,
⟨some 10, .load (.t 9), none⟩,
⟨some 11, .mov (.t 1), none⟩,
⟨some 12, .call n_binding_Get [.t 10, .t 11], none⟩,
⟨some 8, .mov (.t 12), none⟩,
⟨some 13, .ext (.t 8) 0, none⟩,
⟨some 14, .ext (.t 8) 1, none⟩,
⟨some 6, .alloc t_api_Value 4 (.agg [.int .i64 0, .int .i64 0, .str [], .bool false]), none⟩,
⟨none, .store (.t 6) (.t 13) 4, none⟩,
⟨some 7, .mov (.t 14), none⟩]
[1, 2, 4, 6, 7])
(.seq (.seq (.dreg [⟨some 15, .mov (.t 7), none⟩,
⟨some 16, .un .not (.t 15), none⟩,
⟨some 17, .mov (.t 16), none⟩,
⟨some 18, .faddr (.t 6) 0, (some (17, false))⟩,
⟨some 19, .load (.t 18), (some (17, false))⟩,
⟨some 20, .faddr (.t 2) 0, (some (17, false))⟩,
⟨some 21, .faddr (.t 20) 2, (some (17, false))⟩,
⟨some 22, .load (.t 21), (some (17, false))⟩,
⟨some 23, .mov (.t 1), (some (17, false))⟩,
⟨some 24, .iaddr 3 (.t 22) (.t 23), (some (17, false))⟩,
⟨some 25, .faddr (.t 24) 2, (some (17, false))⟩,
⟨some 26, .load (.t 25), (some (17, false))⟩,
⟨some 27, .bin .neq (.t 19) (.t 26), (some (17, false))⟩,
⟨some 28, .pick (.t 17) (.k (.bool true)) (.t 27), none⟩]
[4, 6, 28])
(.cond (.t 28)
(.seq (.reg [⟨some 29, .build [.int .i64 0, .int .i64 0, .str [], .bool false] [], none⟩,
⟨none, .store (.t 4) (.t 29) 4, none⟩,
⟨some 5, .mov (.k (.int .i64 9)), none⟩]
[4, 5])
.ret)
.skip))
(.seq (.reg [⟨some 30, .loadN (.t 6) 4, none⟩,
⟨none, .store (.t 4) (.t 30) 4, none⟩,
⟨some 5, .mov (.k (.int .i64 0)), none⟩]
[4, 5])
.ret))))⟩
theorem k_eval_frame_quant : chkF Go.Proofs.Tryd.prog Go.Proofs.Tryd.f92 c_eval_frame_quant = true := by kernel_rfl
theorem pc_eval_frame_quant {G : Nat → Option AV} {args : List AV} {r : AV} (h : Runs Go.Proofs.Tryd.prog G c_eval_frame_quant args r) (hk : args.length = c_eval_frame_quant.k := by rfl) : PureC Go.Proofs.Tryd.prog G n_eval_frame_quant args r := PureC.of_runs (fn := Go.Proofs.Tryd.f92) (A := c_eval_frame_quant) Go.Proofs.Tryd.func92 k_eval_frame_quant hk h
def c_binding_Get : AFun := ⟨22, 2, [.cells 4 4, .t 5],
  (.seq (.reg [⟨some 4, .alloc t_api_Value 4 (.agg [.int .i64 0, .int .i64 0, .str [], .bool false]), none⟩,
⟨some 5, .mov (.k (.bool false)), none⟩]
[0, 1, 4])
(.seq (.seq (.reg [⟨some 8, .mov (.t 0), none⟩,
⟨some 9, .len false (.t 8), none⟩,
⟨some 10, .mov (.k (.int .i64 0)), none⟩]
[1, 4, 8, 9, 10])
(.block 0
(.loop [1, 4, 8, 9, 10] [4, 9]
  (.seq (.reg [⟨some 11, .bin .lss (.t 10) (.t 9), none⟩]
[1, 4, 8, 9, 10, 11])
(.seq (.cond (.t 11)
.skip
(.exit 0))
(.seq (.block 1
(.seq (.reg [⟨some 12, .iaddr 5 (.t 8) (.t 10), none⟩,
⟨some 13, .loadN (.t 12) 5, none⟩,
⟨some 7, .alloc t_api_Slot 5 (.agg [.int .i64 0, .int .i64 0, .int .i64 0, .str [], .bool false]), none⟩,
⟨none, .store (.t 7) (.t 13) 5, none⟩]
[1, 4, 7, 8, 9, 10])
(.seq (.reg [⟨some 14, .faddr (.t 7) 0, none⟩,
⟨some 15, .load (.t 14), none⟩,
⟨some 16, .mov (.t 1), none⟩,
⟨some 17, .bin .eql (.t 15) (.t 16), none⟩]
[1, 4, 7, 8, 9, 10, 17])
(.cond (.t 17)
(.seq (.reg [⟨some 18, .faddr (.t 7) 1, none⟩,
⟨some 19, .loadN (.t 18) 4, none⟩,
⟨none, .store (.t 4) (.t 19) 4, none⟩,
⟨some 5, .mov (.k (.bool true)), none⟩]
[4, 5])
.ret)
.skip))))
(.reg [⟨some 20, .bin .add (.t 10) (.k (.int .i64 1)), none⟩,
⟨some 10, .mov (.t 20), none⟩]
[1, 4, 8, 9, 10])))))))
(.seq (.reg [⟨some 21, .build [.int .i64 0, .int .i64 0, .str [], .bool false] [], none⟩,
⟨none, .store (.t 4) (.t 21) 4, none⟩,
⟨some 5, .mov (.k (.bool false)), none⟩]
[4, 5])
.ret)))⟩
theorem k_binding_Get : chkF Go.Proofs.Tryd.prog Go.Proofs.Tryd.f117 c_binding_Get = true := by kernel_rfl
theorem pc_binding_Get {G : Nat → Option AV} {args : List AV} {r : AV} (h : Runs Go.Proofs.Tryd.prog G c_binding_Get args r) (hk : args.length = c_binding_Get.k := by rfl) : PureC Go.Proofs.Tryd.prog G n_binding_Get args r := PureC.of_runs (fn := Go.Proofs.Tryd.f117) (A := c_binding_Get) Go.Proofs.Tryd.func117 k_binding_Get hk h
def c_core_Kind : AFun := ⟨20, 2, [.t 4],
  (.seq (.reg [⟨some 2, .box t_api_Qea 9 (.t 0), none⟩,
⟨some 4, .mov (.k (.int .i64 0)), none⟩]
[1, 2])
(.seq (.seq (.reg [⟨some 5, .mov (.t 1), none⟩,
⟨some 6, .bin .lss (.t 5) (.k (.int .i64 0)), none⟩,
⟨some 7, .mov (.t 6), none⟩,
⟨some 8, .mov (.t 1), (some (7, false))⟩,
⟨some 9, .faddr (.t 2) 7, (some (7, false))⟩,
⟨some 10, .load (.t 9), (some (7, false))⟩,
⟨some 11, .len false (.t 10), (some (7, false))⟩,
⟨some 12, .bin .geq (.t 8) (.t 11), (some (7, false))⟩,
⟨some 13, .pick (.t 7) (.k (.bool true)) (.t 12), none⟩]
[1, 2, 13])
(.cond (.t 13)
(.seq (.reg [⟨some 4, .mov (.k (.int .i64 0)), none⟩]
[4])
.ret)
.skip))
(.seq (.reg [⟨some 14, .loadN (.t 2) 9, none⟩,
⟨some 15, .call n_core_exprs [.t 14], none⟩,
⟨some 16, .mov (.t 1), none⟩,
⟨some 17, .iaddr 3 (.t 15) (.t 16), none⟩,
⟨some 18, .faddr (.t 17) 0, none⟩,
⟨some 19, .load (.t 18), none⟩,
⟨some 4, .mov (.t 19), none⟩]
[4])
.ret)))⟩
theorem k_core_Kind : chkF Go.Proofs.Tryd.prog Go.Proofs.Tryd.f39 c_core_Kind = true := by kernel_rfl
theorem pc_core_Kind {G : Nat → Option AV} {args : List AV} {r : AV} (h : Runs Go.Proofs.Tryd.prog G c_core_Kind args r) (hk : args.length = c_core_Kind.k := by rfl) : PureC Go.Proofs.Tryd.prog G n_core_Kind args r := PureC.of_runs (fn := Go.Proofs.Tryd.f39) (A := c_core_Kind) Go.Proofs.Tryd.func39 k_core_Kind hk h
def c_core_exprs : AFun := ⟨147, 1, [.t 2],
  (.seq (.reg [⟨some 1, .box t_api_Qea 9 (.t 0), none⟩,
⟨some 2, .nilrow t_core_expr 3, none⟩]
[1])
(.seq (.reg [⟨some 10, .faddr (.t 1) 7, none⟩,
⟨some 11, .load (.t 10), none⟩,
⟨some 12, .len false (.t 11), none⟩,
⟨some 13, .mks t_core_expr 3 24 (.agg [.int .i64 0, .int .i64 0, .int .i64 0]) (.t 12) (.t 12), none⟩,
⟨some 3, .mov (.t 13), none⟩]
[1, 3])
(.seq (.seq (.reg [⟨some 14, .faddr (.t 1) 7, none⟩,
⟨some 15, .load (.t 14), none⟩,
⟨some 16, .len false (.t 15), none⟩,
⟨some 17, .mov (.k (.int .i64 0)), none⟩]
[1, 3, 15, 16, 17])
(.block 0
(.loop [1, 3, 15, 16, 17] [1, 2, 12, 13, 16]
  (.seq (.reg [⟨some 18, .bin .lss (.t 17) (.t 16), none⟩]
[1, 3, 15, 16, 17, 18])
(.seq (.cond (.t 18)
.skip
(.exit 0))
(.seq (.block 1
(.seq (.reg [⟨some 19, .mov (.t 17), none⟩,
⟨some 20, .iaddr 7 (.t 15) (.t 17), none⟩,
⟨some 21, .loadN (.t 20) 7, none⟩,
⟨some 5, .alloc t_api_Node 7 (.agg [.int .i64 0, .int .i64 0, .int .i64 0, .int .i64 0, .int .i64 0, .str [], .bool false]), none⟩,
⟨some 4, .mov (.t 19), none⟩,
⟨none, .store (.t 5) (.t 21) 7, none⟩]
[1, 3, 4, 5, 15, 16, 17])
(.seq (.seq (.reg [⟨some 23, .loadN (.t 1) 9, none⟩,
⟨some 24, .mov (.t 4), none⟩,
⟨some 25, .call n_core_leaf [.t 23, .t 24], none⟩,
⟨some 22, .mov (.t 25), none⟩,
⟨some 26, .ext (.t 22) 0, none⟩,
⟨some 27, .ext (.t 22) 1, none⟩,
⟨some 6, .alloc t_core_expr 3 (.agg [.int .i64 0, .int .i64 0, .int .i64 0]), none⟩,
⟨none, .store (.t 6) (.t 26) 3, none⟩,
⟨some 7, .mov (.t 27), none⟩]
[1, 3, 4, 5, 6, 7, 15, 16, 17])
(.seq (.reg [⟨some 28, .mov (.t 7), none⟩]
[1, 3, 4, 5, 6, 15, 16, 17, 28])
(.cond (.t 28)
(.seq (.reg [⟨some 29, .mov (.t 3), none⟩,
⟨some 30, .mov (.t 4), none⟩,
⟨some 31, .loadN (.t 6) 3, none⟩,
⟨some 32, .iaddr 3 (.t 29) (.t 30), none⟩,
⟨none, .store (.t 32) (.t 31) 3, none⟩]
[1, 3, 15, 16, 17])
(.exit 1))
.skip)))
(.seq (.seq (.reg [⟨some 33, .faddr (.t 5) 0, none⟩,
⟨some 34, .load (.t 33), none⟩,
⟨some 35, .bin .lss (.t 34) (.k (.int .i64 4)), none⟩,
⟨some 36, .mov (.t 35), none⟩,
⟨some 37, .faddr (.t 5) 0, (some (36, false))⟩,
⟨some 38, .load (.t 37), (some (36, false))⟩,
⟨some 39, .bin .gtr (.t 38) (.k (.int .i64 16)), (some (36, false))⟩,
⟨some 40, .pick (.t 36) (.k (.bool true)) (.t 39), none⟩,
⟨some 41, .mov (.t 40), none⟩,
⟨some 42, .mov (.t 4), (some (41, false))⟩,
⟨some 43, .bin .eql (.t 42) (.k (.int .i64 0)), (some (41, false))⟩,
⟨some 44, .pick (.t 41) (.k (.bool true)) (.t 43), none⟩,
⟨some 45, .mov (.t 44), none⟩,
⟨some 46, .mov (.t 3), (some (45, false))⟩,
⟨some 47, .mov (.t 4), (some (45, false))⟩,
⟨some 48, .bin .sub (.t 47) (.k (.int .i64 1)), (some (45, false))⟩,
⟨some 49, .iaddr 3 (.t 46) (.t 48), (some (45, false))⟩,
⟨some 50, .faddr (.t 49) 0, (some (45, false))⟩,
⟨some 51, .load (.t 50), (some (45, false))⟩,
⟨some 52, .bin .eql (.t 51) (.k (.int .i64 0)), (some (45, false))⟩,
⟨some 53, .pick (.t 45) (.k (.bool true)) (.t 52), none⟩,
⟨some 54, .mov (.t 53), none⟩,
⟨some 55, .faddr (.t 5) 3, (some (54, false))⟩,
⟨some 56, .loadN (.t 55) 4, (some (54, false))⟩,
⟨some 57, .build [.int .i64 0, .int .i64 0, .str [], .bool false] [], (some (54, false))⟩,
⟨some 58, .eqA true [0, 0, 1, 2] (.t 56) (.t 57), (some (54, false))⟩,
⟨some 59, .pick (.t 54) (.k (.bool true)) (.t 58), none⟩]
[1, 3, 4, 5, 15, 16, 17, 59])
(.cond (.t 59)
(.exit 1)
.skip))
(.seq (.reg [⟨some 60, .mov (.t 3), none⟩,
⟨some 61, .mov (.t 4), none⟩,
⟨some 62, .bin .sub (.t 61) (.k (.int .i64 1)), none⟩,
⟨some 63, .iaddr 3 (.t 60) (.t 62), none⟩,
⟨some 64, .loadN (.t 63) 3, none⟩,
⟨some 8, .alloc t_core_expr 3 (.agg [.int .i64 0, .int .i64 0, .int .i64 0]), none⟩,
⟨none, .store (.t 8) (.t 64) 3, none⟩]
[1, 3, 4, 5, 8, 15, 16, 17])
(.seq (.seq (.reg [⟨some 65, .faddr (.t 5) 0, none⟩,
⟨some 66, .load (.t 65), none⟩,
⟨some 67, .bin .leq (.t 66) (.k (.int .i64 5)), none⟩]
[1, 3, 4, 5, 8, 15, 16, 17, 67])
(.cond (.t 67)
(.seq (.seq (.reg [⟨some 68, .faddr (.t 5) 1, none⟩,
⟨some 69, .load (.t 68), none⟩,
⟨some 70, .mov (.t 4), none⟩,
⟨some 71, .bin .sub (.t 70) (.k (.int .i64 1)), none⟩,
⟨some 72, .bin .eql (.t 69) (.t 71), none⟩,
⟨some 73, .mov (.t 72), none⟩,
⟨some 74, .faddr (.t 5) 2, (some (73, true))⟩,
⟨some 75, .load (.t 74), (some (73, true))⟩,
⟨some 76, .bin .eql (.t 75) (.k (.int .i64 0)), (some (73, true))⟩,
⟨some 77, .pick (.t 73) (.t 76) (.k (.bool false)), none⟩]
[1, 3, 4, 5, 8, 15, 16, 17, 77])
(.cond (.t 77)
(.dreg [⟨some 78, .mov (.t 3), none⟩,
⟨some 79, .mov (.t 4), none⟩,
⟨some 80, .faddr (.t 5) 0, none⟩,
⟨some 81, .load (.t 80), none⟩,
⟨some 82, .faddr (.t 8) 0, none⟩,
⟨some 83, .load (.t 82), none⟩,
⟨some 84, .faddr (.t 8) 0, none⟩,
⟨some 85, .load (.t 84), none⟩,
⟨some 86, .call n_value_Type [.t 81, .t 83, .t 85], none⟩,
⟨some 87, .faddr (.t 8) 1, none⟩,
⟨some 88, .load (.t 87), none⟩,
⟨some 89, .bin .add (.t 88) (.k (.int .i64 1)), none⟩,
⟨some 90, .faddr (.t 8) 2, none⟩,
⟨some 91, .load (.t 90), none⟩,
⟨some 92, .build [.int .i64 0, .int .i64 0, .int .i64 0] [(0, 1, .t 86), (1, 1, .t 89), (2, 1, .t 91)], none⟩,
⟨some 93, .iaddr 3 (.t 78) (.t 79), none⟩,
⟨none, .store (.t 93) (.t 92) 3, none⟩]
[1, 3, 15, 16, 17])
.skip))
(.exit 1))
.skip))
(.seq (.reg [⟨some 94, .faddr (.t 5) 2, none⟩,
⟨some 95, .load (.t 94), none⟩,
⟨some 96, .mov (.t 4), none⟩,
⟨some 97, .bin .sub (.t 96) (.k (.int .i64 1)), none⟩,
⟨some 98, .bin .eql (.t 95) (.t 97), none⟩,
⟨some 99, .mov (.t 98), none⟩,
⟨some 100, .faddr (.t 5) 1, (some (99, true))⟩,
⟨some 101, .load (.t 100), (some (99, true))⟩,
⟨some 102, .faddr (.t 8) 2, (some (99, true))⟩,
⟨some 103, .load (.t 102), (some (99, true))⟩,
⟨some 104, .bin .sub (.t 103) (.k (.int .i64 1)), (some (99, true))⟩,
⟨some 105, .bin .eql (.t 101) (.t 104), (some (99, true))⟩,
⟨some 106, .pick (.t 99) (.t 105) (.k (.bool false)), none⟩,
⟨some 107, .mov (.t 106), none⟩,
⟨some 108, .faddr (.t 5) 1, (some (107, true))⟩,
⟨some 109, .load (.t 108), (some (107, true))⟩,
⟨some 110, .bin .geq (.t 109) (.k (.int .i64 0)), (some (107, true))⟩,
⟨some 111, .pick (.t 107) (.t 110) (.k (.bool false)), none⟩,
⟨some 112, .mov (.t 111), none⟩,
⟨some 113, .mov (.t 3), (some (112, true))⟩,
⟨some 114, .faddr (.t 5) 1, (some (112, true))⟩,
⟨some 115, .load (.t 114), (some (112, true))⟩,
⟨some 116, .iaddr 3 (.t 113) (.t 115), (some (112, true))⟩,
⟨some 117, .faddr (.t 116) 0, (some (112, true))⟩,
⟨some 118, .load (.t 117), (some (112, true))⟩,
⟨some 119, .bin .neq (.t 118) (.k (.int .i64 0)), (some (112, true))⟩,
⟨some 120, .pick (.t 112) (.t 119) (.k (.bool false)), none⟩]
[1, 3, 4, 5, 8, 15, 16, 17, 120])
(.cond (.t 120)
(.seq (.reg [⟨some 121, .mov (.t 3), none⟩,
⟨some 122, .faddr (.t 5) 1, none⟩,
⟨some 123, .load (.t 122), none⟩,
⟨some 124, .iaddr 3 (.t 121) (.t 123), none⟩,
⟨some 125, .loadN (.t 124) 3, none⟩,
⟨some 9, .alloc t_core_expr 3 (.agg [.int .i64 0, .int .i64 0, .int .i64 0]), none⟩,
⟨none, .store (.t 9) (.t 125) 3, none⟩]
[1, 3, 4, 5, 8, 9, 15, 16, 17])
(.dreg [⟨some 126, .mov (.t 3), none⟩,
⟨some 127, .mov (.t 4), none⟩,
⟨some 128, .faddr (.t 5) 0, none⟩,
⟨some 129, .load (.t 128), none⟩,
⟨some 130, .faddr (.t 9) 0, none⟩,
⟨some 131, .load (.t 130), none⟩,
⟨some 132, .faddr (.t 8) 0, none⟩,
⟨some 133, .load (.t 132), none⟩,
⟨some 134, .call n_value_Type [.t 129, .t 131, .t 133], none⟩,
⟨some 135, .faddr (.t 9) 1, none⟩,
⟨some 136, .load (.t 135), none⟩,
⟨some 137, .faddr (.t 8) 1, none⟩,
⟨some 138, .load (.t 137), none⟩,
⟨some 139, .mx false (.t 136) (.t 138), none⟩,
⟨some 140, .bin .add (.t 139) (.k (.int .i64 1)), none⟩,
⟨some 141, .faddr (.t 9) 2, none⟩,
⟨some 142, .load (.t 141), none⟩,
⟨some 143, .build [.int .i64 0, .int .i64 0, .int .i64 0] [(0, 1, .t 134), (1, 1, .t 140), (2, 1, .t 142)], none⟩,
⟨some 144, .iaddr 3 (.t 126) (.t 127), none⟩,
⟨none, .store (.t 144) (.t 143) 3, none⟩]
[1, 3, 15, 16, 17]))
.skip))))))))
(.reg [⟨some 145, .bin .add (.t 17) (.k (.int .i64 1)), none⟩,
⟨some 17, .mov (.t 145), none⟩]
[1, 3, 15, 16, 17])))))))
(.seq (.reg [⟨some 146, .mov (.t 3), none⟩,
⟨some 2, .mov (.t 146), none⟩]
[2])
.ret))))⟩
theorem k_core_exprs : chkF Go.Proofs.Tryd.prog Go.Proofs.Tryd.f64 c_core_exprs = true := by kernel_rfl
theorem pc_core_exprs {G : Nat → Option AV} {args : List AV} {r : AV} (h : Runs Go.Proofs.Tryd.prog G c_core_exprs args r) (hk : args.length = c_core_exprs.k := by rfl) : PureC Go.Proofs.Tryd.prog G n_core_exprs args r := PureC.of_runs (fn := Go.Proofs.Tryd.f64) (A := c_core_exprs) Go.Proofs.Tryd.func64 k_core_exprs hk h
def c_core_leaf : AFun := ⟨105, 2, [.cells 4 3, .t 5],
  (.seq (.reg [⟨some 2, .box t_api_Qea 9 (.t 0), none⟩,
⟨some 4, .alloc t_core_expr 3 (.agg [.int .i64 0, .int .i64 0, .int .i64 0]), none⟩,
⟨some 5, .mov (.k (.bool false)), none⟩]
[1, 2, 4])
(.seq (.reg [⟨some 8, .faddr (.t 2) 7, none⟩,
⟨some 9, .load (.t 8), none⟩,
⟨some 10, .mov (.t 1), none⟩,
⟨some 11, .iaddr 7 (.t 9) (.t 10), none⟩,
⟨some 12, .loadN (.t 11) 7, none⟩,
⟨some 6, .alloc t_api_Node 7 (.agg [.int .i64 0, .int .i64 0, .int .i64 0, .int .i64 0, .int .i64 0, .str [], .bool false]), none⟩,
⟨none, .store (.t 6) (.t 12) 7, none⟩]
[1, 2, 4, 6])
(.seq (.reg [⟨some 13, .faddr (.t 6) 0, none⟩,
⟨some 14, .load (.t 13), none⟩,
⟨some 15, .faddr (.t 6) 1, none⟩,
⟨some 16, .load (.t 15), none⟩,
⟨some 17, .build [.int .i64 0, .int .i64 0, .int .i64 0, .int .i64 0, .int .i64 0, .str [], .bool false] [(0, 1, .t 14), (1, 1, .t 16)], none⟩,
⟨some 7, .alloc t_api_Node 7 (.agg [.int .i64 0, .int .i64 0, .int .i64 0, .int .i64 0, .int .i64 0, .str [], .bool false]), none⟩,
⟨none, .store (.t 7) (.t 17) 7, none⟩]
[1, 2, 4, 6, 7])
(.seq (.block 0
(.seq (.reg [⟨some 19, .faddr (.t 6) 0, none⟩,
⟨some 20, .load (.t 19), none⟩,
⟨some 21, .bin .eql (.t 20) (.k (.int .i64 1)), none⟩,
⟨some 22, .mov (.t 21), none⟩,
⟨some 23, .loadN (.t 6) 7, (some (22, true))⟩,
⟨some 24, .faddr (.t 6) 0, (some (22, true))⟩,
⟨some 25, .load (.t 24), (some (22, true))⟩,
⟨some 26, .faddr (.t 6) 3, (some (22, true))⟩,
⟨some 27, .loadN (.t 26) 4, (some (22, true))⟩,
⟨some 28, .build [.int .i64 0, .int .i64 0, .int .i64 0, .int .i64 0, .int .i64 0, .str [], .bool false] [(0, 1, .t 25), (3, 4, .t 27)], (some (22, true))⟩,
⟨some 29, .eqA false [0, 0, 0, 0, 0, 1, 2] (.t 23) (.t 28), (some (22, true))⟩,
⟨some 30, .pick (.t 22) (.t 29) (.k (.bool false)), none⟩,
⟨some 31, .mov (.t 30), none⟩,
⟨some 32, .faddr (.t 6) 3, (some (31, true))⟩,
⟨some 33, .loadN (.t 32) 4, (some (31, true))⟩,
⟨some 34, .call n_value_Right [.t 33], (some (31, true))⟩,
⟨some 35, .pick (.t 31) (.t 34) (.k (.bool false)), none⟩,
⟨some 18, .mov (.t 35), none⟩]
[1, 2, 4, 6, 7, 18])
(.cond (.t 18)
(.seq (.reg [⟨some 36, .faddr (.t 6) 3, none⟩,
⟨some 37, .faddr (.t 36) 0, none⟩,
⟨some 38, .load (.t 37), none⟩,
⟨some 39, .mov (.t 1), none⟩,
⟨some 40, .build [.int .i64 0, .int .i64 0, .int .i64 0] [(0, 1, .t 38), (1, 1, .k (.int .i64 1)), (2, 1, .t 39)], none⟩,
⟨none, .store (.t 4) (.t 40) 3, none⟩,
⟨some 5, .mov (.k (.bool true)), none⟩]
[4, 5])
.ret)
(.seq (.reg [⟨some 42, .faddr (.t 6) 0, none⟩,
⟨some 43, .load (.t 42), none⟩,
⟨some 44, .bin .eql (.t 43) (.k (.int .i64 2)), none⟩,
⟨some 45, .mov (.t 44), none⟩,
⟨some 46, .loadN (.t 6) 7, (some (45, true))⟩,
⟨some 47, .loadN (.t 7) 7, (some (45, true))⟩,
⟨some 48, .eqA false [0, 0, 0, 0, 0, 1, 2] (.t 46) (.t 47), (some (45, true))⟩,
⟨some 49, .pick (.t 45) (.t 48) (.k (.bool false)), none⟩,
⟨some 50, .mov (.t 49), none⟩,
⟨some 51, .faddr (.t 6) 1, (some (50, true))⟩,
⟨some 52, .load (.t 51), (some (50, true))⟩,
⟨some 53, .bin .geq (.t 52) (.k (.int .i64 0)), (some (50, true))⟩,
⟨some 54, .pick (.t 50) (.t 53) (.k (.bool false)), none⟩,
⟨some 55, .mov (.t 54), none⟩,
⟨some 56, .faddr (.t 6) 1, (some (55, true))⟩,
⟨some 57, .load (.t 56), (some (55, true))⟩,
⟨some 58, .faddr (.t 2) 2, (some (55, true))⟩,
⟨some 59, .load (.t 58), (some (55, true))⟩,
⟨some 60, .len false (.t 59), (some (55, true))⟩,
⟨some 61, .bin .lss (.t 57) (.t 60), (some (55, true))⟩,
⟨some 62, .pick (.t 55) (.t 61) (.k (.bool false)), none⟩,
⟨some 41, .mov (.t 62), none⟩]
[1, 2, 4, 6, 7, 41])
(.cond (.t 41)
(.seq (.reg [⟨some 63, .faddr (.t 2) 2, none⟩,
⟨some 64, .load (.t 63), none⟩,
⟨some 65, .faddr (.t 6) 1, none⟩,
⟨some 66, .load (.t 65), none⟩,
⟨some 67, .iaddr 3 (.t 64) (.t 66), none⟩,
⟨some 68, .faddr (.t 67) 2, none⟩,
⟨some 69, .load (.t 68), none⟩,
⟨some 70, .mov (.t 1), none⟩,
⟨some 71, .build [.int .i64 0, .int .i64 0, .int .i64 0] [(0, 1, .t 69), (1, 1, .k (.int .i64 1)), (2, 1, .t 70)], none⟩,
⟨none, .store (.t 4) (.t 71) 3, none⟩,
⟨some 5, .mov (.k (.bool true)), none⟩]
[4, 5])
.ret)
(.seq (.reg [⟨some 73, .faddr (.t 6) 0, none⟩,
⟨some 74, .load (.t 73), none⟩,
⟨some 75, .bin .eql (.t 74) (.k (.int .i64 3)), none⟩,
⟨some 76, .mov (.t 75), none⟩,
⟨some 77, .loadN (.t 6) 7, (some (76, true))⟩,
⟨some 78, .loadN (.t 7) 7, (some (76, true))⟩,
⟨some 79, .eqA false [0, 0, 0, 0, 0, 1, 2] (.t 77) (.t 78), (some (76, true))⟩,
⟨some 80, .pick (.t 76) (.t 79) (.k (.bool false)), none⟩,
⟨some 81, .mov (.t 80), none⟩,
⟨some 82, .faddr (.t 6) 1, (some (81, true))⟩,
⟨some 83, .load (.t 82), (some (81, true))⟩,
⟨some 84, .bin .geq (.t 83) (.k (.int .i64 0)), (some (81, true))⟩,
⟨some 85, .pick (.t 81) (.t 84) (.k (.bool false)), none⟩,
⟨some 86, .mov (.t 85), none⟩,
⟨some 87, .faddr (.t 6) 1, (some (86, true))⟩,
⟨some 88, .load (.t 87), (some (86, true))⟩,
⟨some 89, .faddr (.t 2) 3, (some (86, true))⟩,
⟨some 90, .load (.t 89), (some (86, true))⟩,
⟨some 91, .len false (.t 90), (some (86, true))⟩,
⟨some 92, .bin .lss (.t 88) (.t 91), (some (86, true))⟩,
⟨some 93, .pick (.t 86) (.t 92) (.k (.bool false)), none⟩,
⟨some 72, .mov (.t 93), none⟩]
[1, 2, 4, 6, 72])
(.cond (.t 72)
(.seq (.reg [⟨some 94, .faddr (.t 2) 3, none⟩,
⟨some 95, .load (.t 94), none⟩,
⟨some 96, .faddr (.t 6) 1, none⟩,
⟨some 97, .load (.t 96), none⟩,
⟨some 98, .iaddr 5 (.t 95) (.t 97), none⟩,
⟨some 99, .faddr (.t 98) 1, none⟩,
⟨some 100, .faddr (.t 99) 0, none⟩,
⟨some 101, .load (.t 100), none⟩,
⟨some 102, .mov (.t 1), none⟩,
⟨some 103, .build [.int .i64 0, .int .i64 0, .int .i64 0] [(0, 1, .t 101), (1, 1, .k (.int .i64 1)), (2, 1, .t 102)], none⟩,
⟨none, .store (.t 4) (.t 103) 3, none⟩,
⟨some 5, .mov (.k (.bool true)), none⟩]
[4, 5])
.ret)
.skip)))))))
(.seq (.reg [⟨some 104, .build [.int .i64 0, .int .i64 0, .int .i64 0] [], none⟩,
⟨none, .store (.t 4) (.t 104) 3, none⟩,
⟨some 5, .mov (.k (.bool false)), none⟩]
[4, 5])
.ret)))))⟩
theorem k_core_leaf : chkF Go.Proofs.Tryd.prog Go.Proofs.Tryd.f90 c_core_leaf = true := by kernel_rfl
theorem pc_core_leaf {G : Nat → Option AV} {args : List AV} {r : AV} (h : Runs Go.Proofs.Tryd.prog G c_core_leaf args r) (hk : args.length = c_core_leaf.k := by rfl) : PureC Go.Proofs.Tryd.prog G n_core_leaf args r := PureC.of_runs (fn := Go.Proofs.Tryd.f90) (A := c_core_leaf) Go.Proofs.Tryd.func90 k_core_leaf hk h
def c_eval_Fits : AFun := ⟨9, 2, [.t 4],
  (.seq (.reg [⟨some 2, .box t_api_Qea 9 (.t 0), none⟩,
⟨some 4, .mov (.k (.bool false)), none⟩]
[1, 2])
(.seq (.reg [⟨some 5, .mov (.t 1), none⟩,
⟨some 6, .faddr (.t 2) 3, none⟩,
⟨some 7, .load (.t 6), none⟩,
⟨some 8, .call n_slices_EqualFunc_api_Value_api_Free_api_Value_api_Free [.t 5, .t 7, .f n_eval_Fits_1], none⟩,
⟨some 4, .mov (.t 8), none⟩]
[4])
.ret))⟩
theorem k_eval_Fits : chkF Go.Proofs.Tryd.prog Go.Proofs.Tryd.f19 c_eval_Fits = true := by kernel_rfl
theorem pc_eval_Fits {G : Nat → Option AV} {args : List AV} {r : AV} (h : Runs Go.Proofs.Tryd.prog G c_eval_Fits args r) (hk : args.length = c_eval_Fits.k := by rfl) : PureC Go.Proofs.Tryd.prog G n_eval_Fits args r := PureC.of_runs (fn := Go.Proofs.Tryd.f19) (A := c_eval_Fits) Go.Proofs.Tryd.func19 k_eval_Fits hk h
def c_eval_Fits_1 : AFun := ⟨15, 2, [.t 4],
  (.seq (.reg [⟨some 2, .box t_api_Value 4 (.t 0), none⟩,
⟨some 3, .box t_api_Free 5 (.t 1), none⟩,
⟨some 4, .mov (.k (.bool false)), none⟩]
[2, 3])
(.seq (.reg [⟨some 5, .loadN (.t 2) 4, none⟩,
⟨some 6, .call n_value_Right [.t 5], none⟩,
⟨some 7, .mov (.t 6), none⟩,
⟨some 8, .faddr (.t 2) 0, (some (7, true))⟩,
⟨some 9, .load (.t 8), (some (7, true))⟩,
⟨some 10, .faddr (.t 3) 1, (some (7, true))⟩,
⟨some 11, .faddr (.t 10) 0, (some (7, true))⟩,
⟨some 12, .load (.t 11), (some (7, true))⟩,
⟨some 13, .bin .eql (.t 9) (.t 12), (some (7, true))⟩,
⟨some 14, .pick (.t 7) (.t 13) (.k (.bool false)), none⟩,
⟨some 4, .mov (.t 14), none⟩]
[4])
.ret))⟩
theorem k_eval_Fits_1 : chkF Go.Proofs.Tryd.prog Go.Proofs.Tryd.f44 c_eval_Fits_1 = true := by kernel_rfl
theorem pc_eval_Fits_1 {G : Nat → Option AV} {args : List AV} {r : AV} (h : Runs Go.Proofs.Tryd.prog G c_eval_Fits_1 args r) (hk : args.length = c_eval_Fits_1.k := by rfl) : PureC Go.Proofs.Tryd.prog G n_eval_Fits_1 args r := PureC.of_runs (fn := Go.Proofs.Tryd.f44) (A := c_eval_Fits_1) Go.Proofs.Tryd.func44 k_eval_Fits_1 hk h
def c_eval_Guard : AFun := ⟨54, 4, [.t 8, .t 9],
  (.seq (.reg [⟨some 4, .box t_api_Qea 9 (.t 0), none⟩,
⟨some 8, .mov (.k (.bool false)), none⟩,
⟨some 9, .mov (.k (.int .i64 0)), none⟩]
[1, 2, 3, 4])
(.seq (.block 0
(.seq (.reg [⟨some 13, .mov (.t 1), none⟩,
⟨some 14, .bin .lss (.t 13) (.k (.int .i64 0)), none⟩,
⟨some 15, .mov (.t 14), none⟩,
⟨some 16, .mov (.t 1), (some (15, false))⟩,
⟨some 17, .faddr (.t 4) 8, (some (15, false))⟩,
⟨some 18, .load (.t 17), (some (15, false))⟩,
⟨some 19, .len false (.t 18), (some (15, false))⟩,
⟨some 20, .bin .geq (.t 16) (.t 19), (some (15, false))⟩,
⟨some 21, .pick (.t 15) (.k (.bool true)) (.t 20), none⟩,
⟨some 22, .mov (.t 21), none⟩,
⟨some 23, .loadN (.t 4) 9, (some (22, false))⟩,
⟨some 24, .mov (.t 3), (some (22, false))⟩,
⟨some 25, .call n_eval_Fits [.t 23, .t 24], (some (22, false))⟩,
⟨some 26, .un .not (.t 25), (some (22, false))⟩,
⟨some 27, .pick (.t 22) (.k (.bool true)) (.t 26), none⟩,
⟨some 12, .mov (.t 27), none⟩]
[1, 2, 3, 4, 12])
(.cond (.t 12)
(.seq (.reg [⟨some 8, .mov (.k (.bool false)), none⟩,
⟨some 9, .mov (.k (.int .i64 1)), none⟩]
[8, 9])
.ret)
(.seq (.reg [⟨some 29, .faddr (.t 4) 8, none⟩,
⟨some 30, .load (.t 29), none⟩,
⟨some 31, .mov (.t 1), none⟩,
⟨some 32, .iaddr 5 (.t 30) (.t 31), none⟩,
⟨some 33, .faddr (.t 32) 3, none⟩,
⟨some 34, .load (.t 33), none⟩,
⟨some 35, .bin .lss (.t 34) (.k (.int .i64 0)), none⟩,
⟨some 28, .mov (.t 35), none⟩]
[1, 2, 3, 4, 28])
(.cond (.t 28)
(.seq (.reg [⟨some 8, .mov (.k (.bool true)), none⟩,
⟨some 9, .mov (.k (.int .i64 0)), none⟩]
[8, 9])
.ret)
.skip)))))
(.seq (.dregA [⟨some 37, .loadN (.t 4) 9, none⟩,
⟨some 38, .mov (.t 2), none⟩,
⟨some 39, .mov (.t 3), none⟩,
⟨some 40, .build [.str [], .nils, .nils, .nils, .nils, .int .i64 0, .nils, .nils, .nils, .nils, .nils] [(0, 9, .t 37), (9, 1, .t 38), (10, 1, .t 39)], none⟩,
⟨some 41, .faddr (.t 4) 8, none⟩,
⟨some 42, .load (.t 41), none⟩,
⟨some 43, .mov (.t 1), none⟩,
⟨some 44, .iaddr 5 (.t 42) (.t 43), none⟩,
⟨some 45, .faddr (.t 44) 3, none⟩,
⟨some 46, .load (.t 45), none⟩,
⟨some 47, .call n_eval_frame_run [.t 40, .t 46], none⟩,
⟨some 36, .mov (.t 47), none⟩,
⟨some 48, .ext (.t 36) 0, none⟩,
⟨some 49, .ext (.t 36) 1, none⟩,
⟨some 10, .alloc t_api_Value 4 (.agg [.int .i64 0, .int .i64 0, .str [], .bool false]), none⟩,
⟨none, .store (.t 10) (.t 48) 4, none⟩,
⟨some 11, .mov (.t 49), none⟩] 14 15 [10, 11, 36, 37, 38, 39, 40, 41, 42, 43, 44, 45, 46, 47, 48, 49]
[10, 11])
(.seq (.dreg [⟨some 50, .faddr (.t 10) 3, none⟩,
⟨some 51, .load (.t 50), none⟩,
⟨some 52, .mov (.t 11), none⟩,
⟨some 53, .call n_eval_errno [.t 52], none⟩,
⟨some 8, .mov (.t 51), none⟩,
⟨some 9, .mov (.t 53), none⟩]
[8, 9])
.ret))))⟩
theorem k_eval_Guard : chkF Go.Proofs.Tryd.prog Go.Proofs.Tryd.f38 c_eval_Guard = true := by kernel_rfl
theorem pc_eval_Guard {G : Nat → Option AV} {args : List AV} {r : AV} (h : Runs Go.Proofs.Tryd.prog G c_eval_Guard args r) (hk : args.length = c_eval_Guard.k := by rfl) : PureC Go.Proofs.Tryd.prog G n_eval_Guard args r := PureC.of_runs (fn := Go.Proofs.Tryd.f38) (A := c_eval_Guard) Go.Proofs.Tryd.func38 k_eval_Guard hk h
def c_eval_Value : AFun := ⟨35, 4, [.cells 8 4, .t 9],
  (.seq (.reg [⟨some 4, .box t_api_Qea 9 (.t 0), none⟩,
⟨some 8, .alloc t_api_Value 4 (.agg [.int .i64 0, .int .i64 0, .str [], .bool false]), none⟩,
⟨some 9, .mov (.k (.int .i64 0)), none⟩]
[1, 2, 3, 4, 8])
(.seq (.seq (.reg [⟨some 12, .loadN (.t 4) 9, none⟩,
⟨some 13, .mov (.t 3), none⟩,
⟨some 14, .call n_eval_Fits [.t 12, .t 13], none⟩,
⟨some 15, .un .not (.t 14), none⟩,
⟨some 16, .mov (.t 15), none⟩,
⟨some 17, .loadN (.t 4) 9, (some (16, false))⟩,
⟨some 18, .mov (.t 1), (some (16, false))⟩,
⟨some 19, .call n_core_Kind [.t 17, .t 18], (some (16, false))⟩,
⟨some 20, .bin .eql (.t 19) (.k (.int .i64 0)), (some (16, false))⟩,
⟨some 21, .pick (.t 16) (.k (.bool true)) (.t 20), none⟩]
[1, 2, 3, 4, 8, 21])
(.cond (.t 21)
(.seq (.reg [⟨some 22, .build [.int .i64 0, .int .i64 0, .str [], .bool false] [], none⟩,
⟨none, .store (.t 8) (.t 22) 4, none⟩,
⟨some 9, .mov (.k (.int .i64 1)), none⟩]
[8, 9])
.ret)
.skip))
(.seq (.reg [⟨some 24, .loadN (.t 4) 9, none⟩,
⟨some 25, .mov (.t 2), none⟩,
⟨some 26, .mov (.t 3), none⟩,
⟨some 27, .build [.str [], .nils, .nils, .nils, .nils, .int .i64 0, .nils, .nils, .nils, .nils, .nils] [(0, 9, .t 24), (9, 1, .t 25), (10, 1, .t 26)], none⟩,
⟨some 28, .mov (.t 1), none⟩,
⟨some 29, .call n_eval_frame_run [.t 27, .t 28], none⟩,
⟨some 23, .mov (.t 29), none⟩,
⟨some 30, .ext (.t 23) 0, none⟩,
⟨some 31, .ext (.t 23) 1, none⟩,
⟨some 10, .alloc t_api_Value 4 (.agg [.int .i64 0, .int .i64 0, .str [], .bool false]), none⟩,
⟨none, .store (.t 10) (.t 30) 4, none⟩,
⟨some 11, .mov (.t 31), none⟩]
[8, 10, 11])
(.seq (.dreg [⟨some 32, .loadN (.t 10) 4, none⟩,
⟨some 33, .mov (.t 11), none⟩,
⟨some 34, .call n_eval_errno [.t 33], none⟩,
⟨none, .store (.t 8) (.t 32) 4, none⟩,
⟨some 9, .mov (.t 34), none⟩]
[8, 9])
.ret))))⟩
theorem k_eval_Value : chkF Go.Proofs.Tryd.prog Go.Proofs.Tryd.f17 c_eval_Value = true := by kernel_rfl
theorem pc_eval_Value {G : Nat → Option AV} {args : List AV} {r : AV} (h : Runs Go.Proofs.Tryd.prog G c_eval_Value args r) (hk : args.length = c_eval_Value.k := by rfl) : PureC Go.Proofs.Tryd.prog G n_eval_Value args r := PureC.of_runs (fn := Go.Proofs.Tryd.f17) (A := c_eval_Value) Go.Proofs.Tryd.func17 k_eval_Value hk h
def c_eval_errno : AFun := ⟨23, 1, [.t 2],
  (.seq (.reg [⟨some 2, .mov (.k (.int .i64 0)), none⟩]
[0])
(.seq (.reg [⟨some 3, .alloc t_eval_wrong 2 (.agg [.int .i64 0, .nili]), none⟩]
[0, 3])
(.seq (.seq (.reg [⟨some 6, .mov (.t 0), none⟩,
⟨some 7, .mki t_Peval_wrong (.t 3), none⟩,
⟨some 8, .call n_errors_As [.t 6, .t 7], none⟩,
⟨some 9, .un .not (.t 8), none⟩]
[3, 9])
(.cond (.t 9)
(.seq (.reg [⟨some 2, .mov (.k (.int .i64 0)), none⟩]
[2])
.ret)
.skip))
(.seq (.seq (.reg [⟨some 10, .mkrow t_api_Errno 1 4 (.int .i64 0) [(0, .k (.int .i64 3)), (1, .k (.int .i64 6)), (2, .k (.int .i64 7)), (3, .k (.int .i64 9))], none⟩,
⟨some 11, .len false (.t 10), none⟩,
⟨some 12, .mov (.k (.int .i64 0)), none⟩]
[3, 10, 11, 12])
(.block 0
(.loop [3, 10, 11, 12] [3, 8, 10, 11]
  (.seq (.reg [⟨some 13, .bin .lss (.t 12) (.t 11), none⟩]
[3, 10, 11, 12, 13])
(.seq (.cond (.t 13)
.skip
(.exit 0))
(.seq (.block 1
(.seq (.reg [⟨some 14, .iaddr 1 (.t 10) (.t 12), none⟩,
⟨some 15, .load (.t 14), none⟩,
⟨some 5, .mov (.t 15), none⟩]
[3, 5, 10, 11, 12])
(.seq (.reg [⟨some 16, .loadN (.t 3) 2, none⟩,
⟨some 17, .mki t_eval_wrong (.t 16), none⟩,
⟨some 18, .mov (.t 5), none⟩,
⟨some 19, .mki t_api_Errno (.t 18), none⟩,
⟨some 20, .call n_errors_Is [.t 17, .t 19], none⟩]
[3, 5, 10, 11, 12, 20])
(.cond (.t 20)
(.seq (.reg [⟨some 21, .mov (.t 5), none⟩,
⟨some 2, .mov (.t 21), none⟩]
[2])
.ret)
.skip))))
(.reg [⟨some 22, .bin .add (.t 12) (.k (.int .i64 1)), none⟩,
⟨some 12, .mov (.t 22), none⟩]
[3, 10, 11, 12])))))))
(.seq (.reg [⟨some 2, .mov (.k (.int .i64 8)), none⟩]
[2])
.ret)))))⟩
theorem k_eval_errno : chkF Go.Proofs.Tryd.prog Go.Proofs.Tryd.f41 c_eval_errno = true := by kernel_rfl
theorem pc_eval_errno {G : Nat → Option AV} {args : List AV} {r : AV} (h : Runs Go.Proofs.Tryd.prog G c_eval_errno args r) (hk : args.length = c_eval_errno.k := by rfl) : PureC Go.Proofs.Tryd.prog G n_eval_errno args r := PureC.of_runs (fn := Go.Proofs.Tryd.f41) (A := c_eval_errno) Go.Proofs.Tryd.func41 k_eval_errno hk h
def c_num_Add : AFun := ⟨17, 2, [.t 4, .t 5],
  (.seq (.reg [⟨some 4, .mov (.k (.int .i64 0)), none⟩,
⟨some 5, .mov (.k (.int .i64 0)), none⟩]
[0, 1])
(.seq (.seq (.reg [⟨some 7, .mov (.t 0), none⟩,
⟨some 8, .mov (.t 1), none⟩,
⟨some 9, .bin .add (.t 7) (.t 8), none⟩,
⟨some 6, .mov (.t 9), none⟩]
[0, 1, 6])
(.seq (.reg [⟨some 10, .mov (.t 6), none⟩,
⟨some 11, .mov (.t 0), none⟩,
⟨some 12, .bin .lss (.t 10) (.t 11), none⟩,
⟨some 13, .mov (.t 1), none⟩,
⟨some 14, .bin .lss (.t 13) (.k (.int .i64 0)), none⟩,
⟨some 15, .eqB false (.t 12) (.t 14), none⟩]
[6, 15])
(.cond (.t 15)
(.seq (.reg [⟨some 16, .mov (.t 6), none⟩,
⟨some 4, .mov (.t 16), none⟩,
⟨some 5, .mov (.k (.int .i64 0)), none⟩]
[4, 5])
.ret)
.skip)))
(.seq (.reg [⟨some 4, .mov (.k (.int .i64 0)), none⟩,
⟨some 5, .mov (.k (.int .i64 6)), none⟩]
[4, 5])
.ret)))⟩
theorem k_num_Add : chkF Go.Proofs.Tryd.prog Go.Proofs.Tryd.f130 c_num_Add = true := by kernel_rfl
theorem pc_num_Add {G : Nat → Option AV} {args : List AV} {r : AV} (h : Runs Go.Proofs.Tryd.prog G c_num_Add args r) (hk : args.length = c_num_Add.k := by rfl) : PureC Go.Proofs.Tryd.prog G n_num_Add args r := PureC.of_runs (fn := Go.Proofs.Tryd.f130) (A := c_num_Add) Go.Proofs.Tryd.func130 k_num_Add hk h
def c_num_Div : AFun := ⟨19, 2, [.t 4, .t 5],
  (.seq (.reg [⟨some 4, .mov (.k (.int .i64 0)), none⟩,
⟨some 5, .mov (.k (.int .i64 0)), none⟩]
[0, 1])
(.seq (.block 0
(.seq (.reg [⟨some 7, .mov (.t 1), none⟩,
⟨some 8, .bin .eql (.t 7) (.k (.int .i64 0)), none⟩,
⟨some 6, .mov (.t 8), none⟩]
[0, 1, 6])
(.cond (.t 6)
(.seq (.reg [⟨some 4, .mov (.k (.int .i64 0)), none⟩,
⟨some 5, .mov (.k (.int .i64 7)), none⟩]
[4, 5])
.ret)
(.seq (.reg [⟨some 10, .mov (.t 1), none⟩,
⟨some 11, .bin .eql (.t 10) (.k (.int .i64 (-1))), none⟩,
⟨some 9, .mov (.t 11), none⟩]
[0, 1, 9])
(.cond (.t 9)
(.seq (.reg [⟨some 12, .mov (.t 0), none⟩,
⟨some 13, .call n_num_Neg [.t 12], none⟩,
⟨some 14, .ext (.t 13) 0, none⟩,
⟨some 15, .ext (.t 13) 1, none⟩,
⟨some 4, .mov (.t 14), none⟩,
⟨some 5, .mov (.t 15), none⟩]
[4, 5])
.ret)
.skip)))))
(.seq (.reg [⟨some 16, .mov (.t 0), none⟩,
⟨some 17, .mov (.t 1), none⟩,
⟨some 18, .bin .quo (.t 16) (.t 17), none⟩,
⟨some 4, .mov (.t 18), none⟩,
⟨some 5, .mov (.k (.int .i64 0)), none⟩]
[4, 5])
.ret)))⟩
theorem k_num_Div : chkF Go.Proofs.Tryd.prog Go.Proofs.Tryd.f132 c_num_Div = true := by kernel_rfl
theorem pc_num_Div {G : Nat → Option AV} {args : List AV} {r : AV} (h : Runs Go.Proofs.Tryd.prog G c_num_Div args r) (hk : args.length = c_num_Div.k := by rfl) : PureC Go.Proofs.Tryd.prog G n_num_Div args r := PureC.of_runs (fn := Go.Proofs.Tryd.f132) (A := c_num_Div) Go.Proofs.Tryd.func132 k_num_Div hk h
def c_num_Mod : AFun := ⟨15, 2, [.t 4, .t 5],
  (.seq (.reg [⟨some 4, .mov (.k (.int .i64 0)), none⟩,
⟨some 5, .mov (.k (.int .i64 0)), none⟩]
[0, 1])
(.seq (.block 0
(.seq (.reg [⟨some 7, .mov (.t 1), none⟩,
⟨some 8, .bin .eql (.t 7) (.k (.int .i64 0)), none⟩,
⟨some 6, .mov (.t 8), none⟩]
[0, 1, 6])
(.cond (.t 6)
(.seq (.reg [⟨some 4, .mov (.k (.int .i64 0)), none⟩,
⟨some 5, .mov (.k (.int .i64 7)), none⟩]
[4, 5])
.ret)
(.seq (.reg [⟨some 10, .mov (.t 1), none⟩,
⟨some 11, .bin .eql (.t 10) (.k (.int .i64 (-1))), none⟩,
⟨some 9, .mov (.t 11), none⟩]
[0, 1, 9])
(.cond (.t 9)
(.seq (.reg [⟨some 4, .mov (.k (.int .i64 0)), none⟩,
⟨some 5, .mov (.k (.int .i64 0)), none⟩]
[4, 5])
.ret)
.skip)))))
(.seq (.reg [⟨some 12, .mov (.t 0), none⟩,
⟨some 13, .mov (.t 1), none⟩,
⟨some 14, .bin .rem (.t 12) (.t 13), none⟩,
⟨some 4, .mov (.t 14), none⟩,
⟨some 5, .mov (.k (.int .i64 0)), none⟩]
[4, 5])
.ret)))⟩
theorem k_num_Mod : chkF Go.Proofs.Tryd.prog Go.Proofs.Tryd.f133 c_num_Mod = true := by kernel_rfl
theorem pc_num_Mod {G : Nat → Option AV} {args : List AV} {r : AV} (h : Runs Go.Proofs.Tryd.prog G c_num_Mod args r) (hk : args.length = c_num_Mod.k := by rfl) : PureC Go.Proofs.Tryd.prog G n_num_Mod args r := PureC.of_runs (fn := Go.Proofs.Tryd.f133) (A := c_num_Mod) Go.Proofs.Tryd.func133 k_num_Mod hk h
def c_num_Mul : AFun := ⟨42, 2, [.t 4, .t 5],
  (.seq (.reg [⟨some 4, .mov (.k (.int .i64 0)), none⟩,
⟨some 5, .mov (.k (.int .i64 0)), none⟩]
[0, 1])
(.seq (.reg [⟨some 10, .mov (.t 0), none⟩,
⟨some 11, .call n_num_size [.t 10], none⟩,
⟨some 12, .mov (.t 1), none⟩,
⟨some 13, .call n_num_size [.t 12], none⟩,
⟨some 14, .call n_math_bits_Mul64 [.t 11, .t 13], none⟩,
⟨some 9, .mov (.t 14), none⟩,
⟨some 15, .ext (.t 9) 0, none⟩,
⟨some 16, .ext (.t 9) 1, none⟩,
⟨some 6, .mov (.t 15), none⟩,
⟨some 7, .mov (.t 16), none⟩]
[0, 1, 6, 7])
(.seq (.reg [⟨some 17, .mov (.t 0), none⟩,
⟨some 18, .bin .lss (.t 17) (.k (.int .i64 0)), none⟩,
⟨some 19, .mov (.t 1), none⟩,
⟨some 20, .bin .lss (.t 19) (.k (.int .i64 0)), none⟩,
⟨some 21, .eqB true (.t 18) (.t 20), none⟩,
⟨some 8, .mov (.t 21), none⟩]
[6, 7, 8])
(.seq (.block 0
(.seq (.reg [⟨some 23, .mov (.t 6), none⟩,
⟨some 24, .bin .gtr (.t 23) (.k (.int .u64 0)), none⟩,
⟨some 22, .mov (.t 24), none⟩]
[7, 8, 22])
(.cond (.t 22)
(.seq (.reg [⟨some 4, .mov (.k (.int .i64 0)), none⟩,
⟨some 5, .mov (.k (.int .i64 6)), none⟩]
[4, 5])
.ret)
(.seq (.reg [⟨some 26, .mov (.t 8), none⟩,
⟨some 27, .mov (.t 26), none⟩,
⟨some 28, .mov (.t 7), (some (27, true))⟩,
⟨some 29, .bin .leq (.t 28) (.k (.int .u64 9223372036854775808)), (some (27, true))⟩,
⟨some 30, .pick (.t 27) (.t 29) (.k (.bool false)), none⟩,
⟨some 25, .mov (.t 30), none⟩]
[7, 8, 25])
(.cond (.t 25)
(.seq (.reg [⟨some 31, .mov (.t 7), none⟩,
⟨some 32, .conv .i64 (.t 31), none⟩,
⟨some 33, .un .neg (.t 32), none⟩,
⟨some 4, .mov (.t 33), none⟩,
⟨some 5, .mov (.k (.int .i64 0)), none⟩]
[4, 5])
.ret)
(.seq (.reg [⟨some 35, .mov (.t 8), none⟩,
⟨some 36, .mov (.t 35), none⟩,
⟨some 37, .mov (.t 7), (some (36, false))⟩,
⟨some 38, .bin .gtr (.t 37) (.k (.int .u64 9223372036854775807)), (some (36, false))⟩,
⟨some 39, .pick (.t 36) (.k (.bool true)) (.t 38), none⟩,
⟨some 34, .mov (.t 39), none⟩]
[7, 34])
(.cond (.t 34)
(.seq (.reg [⟨some 4, .mov (.k (.int .i64 0)), none⟩,
⟨some 5, .mov (.k (.int .i64 6)), none⟩]
[4, 5])
.ret)
.skip)))))))
(.seq (.reg [⟨some 40, .mov (.t 7), none⟩,
⟨some 41, .conv .i64 (.t 40), none⟩,
⟨some 4, .mov (.t 41), none⟩,
⟨some 5, .mov (.k (.int .i64 0)), none⟩]
[4, 5])
.ret)))))⟩
theorem k_num_Mul : chkF Go.Proofs.Tryd.prog Go.Proofs.Tryd.f131 c_num_Mul = true := by kernel_rfl
theorem pc_num_Mul {G : Nat → Option AV} {args : List AV} {r : AV} (h : Runs Go.Proofs.Tryd.prog G c_num_Mul args r) (hk : args.length = c_num_Mul.k := by rfl) : PureC Go.Proofs.Tryd.prog G n_num_Mul args r := PureC.of_runs (fn := Go.Proofs.Tryd.f131) (A := c_num_Mul) Go.Proofs.Tryd.func131 k_num_Mul hk h
def c_num_Neg : AFun := ⟨8, 1, [.t 2, .t 3],
  (.seq (.reg [⟨some 2, .mov (.k (.int .i64 0)), none⟩,
⟨some 3, .mov (.k (.int .i64 0)), none⟩]
[0])
(.seq (.reg [⟨some 4, .mov (.t 0), none⟩,
⟨some 5, .call n_num_Sub [.k (.int .i64 0), .t 4], none⟩,
⟨some 6, .ext (.t 5) 0, none⟩,
⟨some 7, .ext (.t 5) 1, none⟩,
⟨some 2, .mov (.t 6), none⟩,
⟨some 3, .mov (.t 7), none⟩]
[2, 3])
.ret))⟩
theorem k_num_Neg : chkF Go.Proofs.Tryd.prog Go.Proofs.Tryd.f140 c_num_Neg = true := by kernel_rfl
theorem pc_num_Neg {G : Nat → Option AV} {args : List AV} {r : AV} (h : Runs Go.Proofs.Tryd.prog G c_num_Neg args r) (hk : args.length = c_num_Neg.k := by rfl) : PureC Go.Proofs.Tryd.prog G n_num_Neg args r := PureC.of_runs (fn := Go.Proofs.Tryd.f140) (A := c_num_Neg) Go.Proofs.Tryd.func140 k_num_Neg hk h
def c_num_Op : AFun := ⟨47, 3, [.t 6, .t 7],
  (.seq (.reg [⟨some 6, .mov (.k (.int .i64 0)), none⟩,
⟨some 7, .mov (.k (.int .i64 0)), none⟩]
[0, 1, 2])
(.seq (.seq (.reg [⟨some 8, .mov (.t 0), none⟩]
[1, 2, 8])
(.block 0
(.seq (.block 6
(.seq (.block 5
(.seq (.block 4
(.seq (.block 3
(.seq (.block 2
(.seq (.block 1
(.seq (.seq (.seq (.reg [⟨some 10, .bin .eql (.t 8) (.k (.int .i64 5)), none⟩,
⟨some 9, .mov (.t 10), none⟩]
[1, 2, 8, 9])
(.cond (.t 9)
(.exit 1)
.skip))
(.seq (.seq (.reg [⟨some 12, .bin .eql (.t 8) (.k (.int .i64 9)), none⟩,
⟨some 11, .mov (.t 12), none⟩]
[1, 2, 8, 11])
(.cond (.t 11)
(.exit 2)
.skip))
(.seq (.seq (.reg [⟨some 14, .bin .eql (.t 8) (.k (.int .i64 8)), none⟩,
⟨some 13, .mov (.t 14), none⟩]
[1, 2, 8, 13])
(.cond (.t 13)
(.exit 3)
.skip))
(.seq (.seq (.reg [⟨some 16, .bin .eql (.t 8) (.k (.int .i64 10)), none⟩,
⟨some 15, .mov (.t 16), none⟩]
[1, 2, 8, 15])
(.cond (.t 15)
(.exit 4)
.skip))
(.seq (.seq (.reg [⟨some 18, .bin .eql (.t 8) (.k (.int .i64 11)), none⟩,
⟨some 17, .mov (.t 18), none⟩]
[1, 2, 8, 17])
(.cond (.t 17)
(.exit 5)
.skip))
(.seq (.reg [⟨some 20, .bin .eql (.t 8) (.k (.int .i64 12)), none⟩,
⟨some 19, .mov (.t 20), none⟩]
[1, 2, 19])
(.cond (.t 19)
(.exit 6)
.skip)))))))
(.exit 0)))
(.reg [⟨some 21, .mov (.t 1), none⟩,
⟨some 1, .mov (.k (.int .i64 0)), none⟩,
⟨some 2, .mov (.t 21), none⟩]
[1, 2])))
(.seq (.seq (.reg [⟨some 22, .mov (.t 1), none⟩,
⟨some 23, .mov (.t 2), none⟩,
⟨some 24, .call n_num_Sub [.t 22, .t 23], none⟩,
⟨some 25, .ext (.t 24) 0, none⟩,
⟨some 26, .ext (.t 24) 1, none⟩,
⟨some 6, .mov (.t 25), none⟩,
⟨some 7, .mov (.t 26), none⟩]
[6, 7])
.ret)
(.exit 0))))
(.seq (.seq (.reg [⟨some 27, .mov (.t 1), none⟩,
⟨some 28, .mov (.t 2), none⟩,
⟨some 29, .call n_num_Add [.t 27, .t 28], none⟩,
⟨some 30, .ext (.t 29) 0, none⟩,
⟨some 31, .ext (.t 29) 1, none⟩,
⟨some 6, .mov (.t 30), none⟩,
⟨some 7, .mov (.t 31), none⟩]
[6, 7])
.ret)
(.exit 0))))
(.seq (.seq (.reg [⟨some 32, .mov (.t 1), none⟩,
⟨some 33, .mov (.t 2), none⟩,
⟨some 34, .call n_num_Mul [.t 32, .t 33], none⟩,
⟨some 35, .ext (.t 34) 0, none⟩,
⟨some 36, .ext (.t 34) 1, none⟩,
⟨some 6, .mov (.t 35), none⟩,
⟨some 7, .mov (.t 36), none⟩]
[6, 7])
.ret)
(.exit 0))))
(.seq (.seq (.reg [⟨some 37, .mov (.t 1), none⟩,
⟨some 38, .mov (.t 2), none⟩,
⟨some 39, .call n_num_Div [.t 37, .t 38], none⟩,
⟨some 40, .ext (.t 39) 0, none⟩,
⟨some 41, .ext (.t 39) 1, none⟩,
⟨some 6, .mov (.t 40), none⟩,
⟨some 7, .mov (.t 41), none⟩]
[6, 7])
.ret)
(.exit 0))))
(.seq (.seq (.reg [⟨some 42, .mov (.t 1), none⟩,
⟨some 43, .mov (.t 2), none⟩,
⟨some 44, .call n_num_Mod [.t 42, .t 43], none⟩,
⟨some 45, .ext (.t 44) 0, none⟩,
⟨some 46, .ext (.t 44) 1, none⟩,
⟨some 6, .mov (.t 45), none⟩,
⟨some 7, .mov (.t 46), none⟩]
[6, 7])
.ret)
(.exit 0)))))
(.seq (.reg [⟨some 6, .mov (.k (.int .i64 0)), none⟩,
⟨some 7, .mov (.k (.int .i64 1)), none⟩]
[6, 7])
.ret)))⟩
theorem k_num_Op : chkF Go.Proofs.Tryd.prog Go.Proofs.Tryd.f120 c_num_Op = true := by kernel_rfl
theorem pc_num_Op {G : Nat → Option AV} {args : List AV} {r : AV} (h : Runs Go.Proofs.Tryd.prog G c_num_Op args r) (hk : args.length = c_num_Op.k := by rfl) : PureC Go.Proofs.Tryd.prog G n_num_Op args r := PureC.of_runs (fn := Go.Proofs.Tryd.f120) (A := c_num_Op) Go.Proofs.Tryd.func120 k_num_Op hk h
def c_num_Sub : AFun := ⟨17, 2, [.t 4, .t 5],
  (.seq (.reg [⟨some 4, .mov (.k (.int .i64 0)), none⟩,
⟨some 5, .mov (.k (.int .i64 0)), none⟩]
[0, 1])
(.seq (.seq (.reg [⟨some 7, .mov (.t 0), none⟩,
⟨some 8, .mov (.t 1), none⟩,
⟨some 9, .bin .sub (.t 7) (.t 8), none⟩,
⟨some 6, .mov (.t 9), none⟩]
[0, 1, 6])
(.seq (.reg [⟨some 10, .mov (.t 6), none⟩,
⟨some 11, .mov (.t 0), none⟩,
⟨some 12, .bin .gtr (.t 10) (.t 11), none⟩,
⟨some 13, .mov (.t 1), none⟩,
⟨some 14, .bin .lss (.t 13) (.k (.int .i64 0)), none⟩,
⟨some 15, .eqB false (.t 12) (.t 14), none⟩]
[6, 15])
(.cond (.t 15)
(.seq (.reg [⟨some 16, .mov (.t 6), none⟩,
⟨some 4, .mov (.t 16), none⟩,
⟨some 5, .mov (.k (.int .i64 0)), none⟩]
[4, 5])
.ret)
.skip)))
(.seq (.reg [⟨some 4, .mov (.k (.int .i64 0)), none⟩,
⟨some 5, .mov (.k (.int .i64 6)), none⟩]
[4, 5])
.ret)))⟩
theorem k_num_Sub : chkF Go.Proofs.Tryd.prog Go.Proofs.Tryd.f129 c_num_Sub = true := by kernel_rfl
theorem pc_num_Sub {G : Nat → Option AV} {args : List AV} {r : AV} (h : Runs Go.Proofs.Tryd.prog G c_num_Sub args r) (hk : args.length = c_num_Sub.k := by rfl) : PureC Go.Proofs.Tryd.prog G n_num_Sub args r := PureC.of_runs (fn := Go.Proofs.Tryd.f129) (A := c_num_Sub) Go.Proofs.Tryd.func129 k_num_Sub hk h
def c_num_size : AFun := ⟨10, 1, [.t 2],
  (.seq (.reg [⟨some 2, .mov (.k (.int .u64 0)), none⟩]
[0])
(.seq (.seq (.reg [⟨some 3, .mov (.t 0), none⟩,
⟨some 4, .bin .lss (.t 3) (.k (.int .i64 0)), none⟩]
[0, 4])
(.cond (.t 4)
(.seq (.reg [⟨some 5, .mov (.t 0), none⟩,
⟨some 6, .conv .u64 (.t 5), none⟩,
⟨some 7, .un .neg (.t 6), none⟩,
⟨some 2, .mov (.t 7), none⟩]
[2])
.ret)
.skip))
(.seq (.reg [⟨some 8, .mov (.t 0), none⟩,
⟨some 9, .conv .u64 (.t 8), none⟩,
⟨some 2, .mov (.t 9), none⟩]
[2])
.ret)))⟩
theorem k_num_size : chkF Go.Proofs.Tryd.prog Go.Proofs.Tryd.f139 c_num_size = true := by kernel_rfl
theorem pc_num_size {G : Nat → Option AV} {args : List AV} {r : AV} (h : Runs Go.Proofs.Tryd.prog G c_num_size args r) (hk : args.length = c_num_size.k := by rfl) : PureC Go.Proofs.Tryd.prog G n_num_size args r := PureC.of_runs (fn := Go.Proofs.Tryd.f139) (A := c_num_size) Go.Proofs.Tryd.func139 k_num_size hk h
def c_proctorlaw16_EvalValues : AFun := ⟨78, 4, [.t 8],
  (.seq (.reg [⟨some 4, .box t_api_Qea 9 (.t 0), none⟩,
⟨some 8, .mov (.k (.bool false)), none⟩]
[1, 2, 3, 4])
(.seq (.seq (.reg [⟨some 14, .loadN (.t 4) 9, none⟩,
⟨some 15, .mov (.t 2), none⟩,
⟨some 16, .mov (.t 3), none⟩,
⟨some 17, .call n_proctorlaw16_small [.t 14, .t 15, .t 16], none⟩,
⟨some 18, .un .not (.t 17), none⟩]
[1, 2, 3, 4, 18])
(.cond (.t 18)
(.seq (.reg [⟨some 19, .call n_proctorlaw16_awake [], none⟩,
⟨some 8, .mov (.t 19), none⟩]
[8])
.ret)
.skip))
(.seq (.reg [⟨some 21, .loadN (.t 4) 9, none⟩,
⟨some 22, .mov (.t 1), none⟩,
⟨some 23, .mov (.t 2), none⟩,
⟨some 24, .mov (.t 3), none⟩,
⟨some 25, .call n_eval_Value [.t 21, .t 22, .t 23, .t 24], none⟩,
⟨some 20, .mov (.t 25), none⟩,
⟨some 26, .ext (.t 20) 0, none⟩,
⟨some 27, .ext (.t 20) 1, none⟩,
⟨some 9, .alloc t_api_Value 4 (.agg [.int .i64 0, .int .i64 0, .str [], .bool false]), none⟩,
⟨none, .store (.t 9) (.t 26) 4, none⟩,
⟨some 10, .mov (.t 27), none⟩]
[1, 2, 3, 4, 9, 10])
(.seq (.reg [⟨some 28, .loadN (.t 4) 9, none⟩,
⟨some 29, .mov (.t 3), none⟩,
⟨some 30, .call n_proctorref16_Fits [.t 28, .t 29], none⟩,
⟨some 11, .mov (.t 30), none⟩]
[1, 2, 3, 4, 9, 10, 11])
(.seq (.seq (.reg [⟨some 31, .loadN (.t 4) 9, none⟩,
⟨some 32, .mov (.t 3), none⟩,
⟨some 33, .call n_eval_Fits [.t 31, .t 32], none⟩,
⟨some 34, .mov (.t 11), none⟩,
⟨some 35, .eqB true (.t 33) (.t 34), none⟩]
[1, 2, 3, 4, 9, 10, 11, 35])
(.cond (.t 35)
(.seq (.reg [⟨some 8, .mov (.k (.bool false)), none⟩]
[8])
.ret)
.skip))
(.seq (.seq (.reg [⟨some 36, .mov (.t 11), none⟩,
⟨some 37, .un .not (.t 36), none⟩,
⟨some 38, .mov (.t 37), none⟩,
⟨some 39, .mov (.t 1), (some (38, false))⟩,
⟨some 40, .bin .lss (.t 39) (.k (.int .i64 0)), (some (38, false))⟩,
⟨some 41, .pick (.t 38) (.k (.bool true)) (.t 40), none⟩,
⟨some 42, .mov (.t 41), none⟩,
⟨some 43, .mov (.t 1), (some (42, false))⟩,
⟨some 44, .faddr (.t 4) 7, (some (42, false))⟩,
⟨some 45, .load (.t 44), (some (42, false))⟩,
⟨some 46, .len false (.t 45), (some (42, false))⟩,
⟨some 47, .bin .geq (.t 43) (.t 46), (some (42, false))⟩,
⟨some 48, .pick (.t 42) (.k (.bool true)) (.t 47), none⟩]
[1, 2, 3, 4, 9, 10, 48])
(.cond (.t 48)
(.seq (.reg [⟨some 49, .loadN (.t 9) 4, none⟩,
⟨some 50, .build [.int .i64 0, .int .i64 0, .str [], .bool false] [], none⟩,
⟨some 51, .eqA false [0, 0, 1, 2] (.t 49) (.t 50), none⟩,
⟨some 52, .mov (.t 51), none⟩,
⟨some 53, .mov (.t 10), (some (52, true))⟩,
⟨some 54, .bin .eql (.t 53) (.k (.int .i64 1)), (some (52, true))⟩,
⟨some 55, .pick (.t 52) (.t 54) (.k (.bool false)), none⟩,
⟨some 56, .mov (.t 55), none⟩,
⟨some 57, .call n_proctorlaw16_awake [], (some (56, true))⟩,
⟨some 58, .pick (.t 56) (.t 57) (.k (.bool false)), none⟩,
⟨some 8, .mov (.t 58), none⟩]
[8])
.ret)
.skip))
(.seq (.reg [⟨some 60, .loadN (.t 4) 9, none⟩,
⟨some 61, .mov (.t 1), none⟩,
⟨some 62, .mov (.t 2), none⟩,
⟨some 63, .mov (.t 3), none⟩,
⟨some 64, .call n_proctorref16_Value [.t 60, .t 61, .t 62, .t 63], none⟩,
⟨some 59, .mov (.t 64), none⟩,
⟨some 65, .ext (.t 59) 0, none⟩,
⟨some 66, .ext (.t 59) 1, none⟩,
⟨some 12, .alloc t_api_Value 4 (.agg [.int .i64 0, .int .i64 0, .str [], .bool false]), none⟩,
⟨none, .store (.t 12) (.t 65) 4, none⟩,
⟨some 13, .mov (.t 66), none⟩]
[9, 10, 12, 13])
(.seq (.reg [⟨some 67, .loadN (.t 9) 4, none⟩,
⟨some 68, .loadN (.t 12) 4, none⟩,
⟨some 69, .eqA false [0, 0, 1, 2] (.t 67) (.t 68), none⟩,
⟨some 70, .mov (.t 69), none⟩,
⟨some 71, .mov (.t 10), (some (70, true))⟩,
⟨some 72, .mov (.t 13), (some (70, true))⟩,
⟨some 73, .bin .eql (.t 71) (.t 72), (some (70, true))⟩,
⟨some 74, .pick (.t 70) (.t 73) (.k (.bool false)), none⟩,
⟨some 75, .mov (.t 74), none⟩,
⟨some 76, .call n_proctorlaw16_awake [], (some (75, true))⟩,
⟨some 77, .pick (.t 75) (.t 76) (.k (.bool false)), none⟩,
⟨some 8, .mov (.t 77), none⟩]
[8])
.ret))))))))⟩
theorem k_proctorlaw16_EvalValues : chkF Go.Proofs.Tryd.prog Go.Proofs.Tryd.f4 c_proctorlaw16_EvalValues = true := by kernel_rfl
theorem pc_proctorlaw16_EvalValues {G : Nat → Option AV} {args : List AV} {r : AV} (h : Runs Go.Proofs.Tryd.prog G c_proctorlaw16_EvalValues args r) (hk : args.length = c_proctorlaw16_EvalValues.k := by rfl) : PureC Go.Proofs.Tryd.prog G n_proctorlaw16_EvalValues args r := PureC.of_runs (fn := Go.Proofs.Tryd.f4) (A := c_proctorlaw16_EvalValues) Go.Proofs.Tryd.func4 k_proctorlaw16_EvalValues hk h
def c_proctorlaw16_awake : AFun := ⟨58, 0, [.t 0],
  (.seq (.reg [⟨some 0, .mov (.k (.bool false)), none⟩]
[])
(.seq (.reg [⟨some 8, .build [.int .i64 0, .int .i64 0, .str [], .bool false] [(0, 1, .k (.int .i64 1)), (1, 1, .k (.int .i64 1))], none⟩,
⟨some 1, .alloc t_api_Value 4 (.agg [.int .i64 0, .int .i64 0, .str [], .bool false]), none⟩,
⟨none, .store (.t 1) (.t 8) 4, none⟩]
[1])
(.seq (.reg [⟨some 9, .build [.int .i64 0, .int .i64 0, .int .i64 0, .int .i64 0, .int .i64 0, .str [], .bool false] [(0, 1, .k (.int .i64 3))], none⟩,
⟨some 10, .build [.int .i64 0, .int .i64 0, .str [], .bool false] [(0, 1, .k (.int .i64 1))], none⟩,
⟨some 11, .build [.int .i64 0, .int .i64 0, .int .i64 0, .int .i64 0, .int .i64 0, .str [], .bool false] [(0, 1, .k (.int .i64 1)), (3, 4, .t 10)], none⟩,
⟨some 12, .build [.int .i64 0, .int .i64 0, .int .i64 0, .int .i64 0, .int .i64 0, .str [], .bool false] [(0, 1, .k (.int .i64 13)), (1, 1, .k (.int .i64 0)), (2, 1, .k (.int .i64 1))], none⟩,
⟨some 13, .loadN (.t 1) 4, none⟩,
⟨some 14, .build [.int .i64 0, .int .i64 0, .int .i64 0, .int .i64 0, .int .i64 0, .str [], .bool false] [(0, 1, .k (.int .i64 1)), (3, 4, .t 13)], none⟩,
⟨some 15, .build [.int .i64 0, .int .i64 0, .str [], .bool false] [(0, 1, .k (.int .i64 1)), (1, 1, .k (.int .i64 7))], none⟩,
⟨some 16, .build [.int .i64 0, .int .i64 0, .int .i64 0, .int .i64 0, .int .i64 0, .str [], .bool false] [(0, 1, .k (.int .i64 1)), (3, 4, .t 15)], none⟩,
⟨some 17, .build [.int .i64 0, .int .i64 0, .int .i64 0, .int .i64 0, .int .i64 0, .str [], .bool false] [(0, 1, .k (.int .i64 3))], none⟩,
⟨some 18, .build [.int .i64 0, .int .i64 0, .int .i64 0, .int .i64 0, .int .i64 0, .str [], .bool false] [(0, 1, .k (.int .i64 11)), (1, 1, .k (.int .i64 4)), (2, 1, .k (.int .i64 5))], none⟩,
⟨some 19, .build [.int .i64 0, .int .i64 0, .int .i64 0, .int .i64 0, .int .i64 0, .str [], .bool false] [(0, 1, .k (.int .i64 15)), (1, 1, .k (.int .i64 3)), (2, 1, .k (.int .i64 6))], none⟩,
⟨some 20, .build [.int .i64 0, .int .i64 0, .int .i64 0, .int .i64 0, .int .i64 0, .str [], .bool false] [(0, 1, .k (.int .i64 7)), (1, 1, .k (.int .i64 2)), (2, 1, .k (.int .i64 7))], none⟩,
⟨some 21, .mkrow t_api_Node 7 9 (.agg [.int .i64 0, .int .i64 0, .int .i64 0, .int .i64 0, .int .i64 0, .str [], .bool false]) [(0, .t 9), (1, .t 11), (2, .t 12), (3, .t 14), (4, .t 16), (5, .t 17), (6, .t 18), (7, .t 19), (8, .t 20)], none⟩,
⟨some 2, .mov (.t 21), none⟩]
[1, 2])
(.seq (.reg [⟨some 22, .build [.str [], .nils] [(0, 1, .k (.str [97]))], none⟩,
⟨some 23, .mkrow t_api_Decl 2 1 (.agg [.str [], .nils]) [(0, .t 22)], none⟩,
⟨some 24, .loadN (.t 1) 4, none⟩,
⟨some 25, .build [.str [], .int .i64 0, .int .i64 0, .str [], .bool false] [(0, 1, .k (.str [102])), (1, 4, .t 24)], none⟩,
⟨some 26, .mkrow t_api_Free 5 1 (.agg [.str [], .int .i64 0, .int .i64 0, .str [], .bool false]) [(0, .t 25)], none⟩,
⟨some 27, .build [.str [], .bool false, .bool false] [(0, 1, .k (.str [115]))], none⟩,
⟨some 28, .mkrow t_api_State 3 1 (.agg [.str [], .bool false, .bool false]) [(0, .t 27)], none⟩,
⟨some 29, .build [.int .i64 0, .nils] [], none⟩,
⟨some 30, .mkrow t_api_Symbol 2 1 (.agg [.int .i64 0, .nils]) [(0, .t 29)], none⟩,
⟨some 31, .mov (.t 2), none⟩,
⟨some 32, .build [.int .i64 0, .int .i64 0, .int .i64 0, .int .i64 0, .nils] [(3, 1, .k (.int .i64 8))], none⟩,
⟨some 33, .mkrow t_api_Trans 5 1 (.agg [.int .i64 0, .int .i64 0, .int .i64 0, .int .i64 0, .nils]) [(0, .t 32)], none⟩,
⟨some 34, .build [.str [], .nils, .nils, .nils, .nils, .int .i64 0, .nils, .nils, .nils] [(0, 1, .k (.str [113])), (1, 1, .t 23), (3, 1, .t 26), (4, 1, .t 28), (6, 1, .t 30), (7, 1, .t 31), (8, 1, .t 33)], none⟩,
⟨some 3, .alloc t_api_Qea 9 (.agg [.str [], .nils, .nils, .nils, .nils, .int .i64 0, .nils, .nils, .nils]), none⟩,
⟨none, .store (.t 3) (.t 34) 9, none⟩]
[3])
(.seq (.reg [⟨some 36, .loadN (.t 3) 9, none⟩,
⟨some 37, .build [.int .i64 0, .int .i64 0, .str [], .bool false] [(0, 1, .k (.int .i64 1))], none⟩,
⟨some 38, .mkrow t_api_Value 4 1 (.agg [.int .i64 0, .int .i64 0, .str [], .bool false]) [(0, .t 37)], none⟩,
⟨some 39, .call n_eval_Guard [.t 36, .k (.int .i64 0), .k (.nils), .t 38], none⟩,
⟨some 35, .mov (.t 39), none⟩,
⟨some 40, .ext (.t 35) 0, none⟩,
⟨some 41, .ext (.t 35) 1, none⟩,
⟨some 4, .mov (.t 40), none⟩,
⟨some 5, .mov (.t 41), none⟩]
[3, 4, 5])
(.seq (.reg [⟨some 43, .loadN (.t 3) 9, none⟩,
⟨some 44, .build [.int .i64 0, .int .i64 0, .str [], .bool false] [(0, 1, .k (.int .i64 1))], none⟩,
⟨some 45, .mkrow t_api_Value 4 1 (.agg [.int .i64 0, .int .i64 0, .str [], .bool false]) [(0, .t 44)], none⟩,
⟨some 46, .call n_eval_Value [.t 43, .k (.int .i64 6), .k (.nils), .t 45], none⟩,
⟨some 42, .mov (.t 46), none⟩,
⟨some 47, .ext (.t 42) 0, none⟩,
⟨some 48, .ext (.t 42) 1, none⟩,
⟨some 6, .alloc t_api_Value 4 (.agg [.int .i64 0, .int .i64 0, .str [], .bool false]), none⟩,
⟨none, .store (.t 6) (.t 47) 4, none⟩,
⟨some 7, .mov (.t 48), none⟩]
[4, 5, 7])
(.seq (.reg [⟨some 49, .mov (.t 4), none⟩,
⟨some 50, .mov (.t 49), none⟩,
⟨some 51, .mov (.t 5), (some (50, true))⟩,
⟨some 52, .bin .eql (.t 51) (.k (.int .i64 0)), (some (50, true))⟩,
⟨some 53, .pick (.t 50) (.t 52) (.k (.bool false)), none⟩,
⟨some 54, .mov (.t 53), none⟩,
⟨some 55, .mov (.t 7), (some (54, true))⟩,
⟨some 56, .bin .eql (.t 55) (.k (.int .i64 7)), (some (54, true))⟩,
⟨some 57, .pick (.t 54) (.t 56) (.k (.bool false)), none⟩,
⟨some 0, .mov (.t 57), none⟩]
[0])
.ret)))))))⟩
theorem k_proctorlaw16_awake : chkF Go.Proofs.Tryd.prog Go.Proofs.Tryd.f16 c_proctorlaw16_awake = true := by kernel_rfl
theorem pc_proctorlaw16_awake {G : Nat → Option AV} {args : List AV} {r : AV} (h : ∀ c, c = c_proctorlaw16_awake → Runs Go.Proofs.Tryd.prog G c args r) (hk : args.length = c_proctorlaw16_awake.k := by rfl) : PureC Go.Proofs.Tryd.prog G n_proctorlaw16_awake args r := by
  generalize hc : c_proctorlaw16_awake = c at *
  have k := k_proctorlaw16_awake
  rw [hc] at k
  generalize hf : Go.Proofs.Tryd.f16 = f at *
  have h := h _ rfl
  exact PureC.of_runs (fn := f) (A := c) (hf ▸ Go.Proofs.Tryd.func16) k hk h
def c_proctorlaw16_small : AFun := ⟨40, 3, [.t 6],
  (.seq (.reg [⟨some 3, .box t_api_Qea 9 (.t 0), none⟩,
⟨some 6, .mov (.k (.bool false)), none⟩]
[1, 2, 3])
(.seq (.seq (.reg [⟨some 8, .loadN (.t 3) 9, none⟩,
⟨some 9, .call n_proctorref13_Few [.t 8], none⟩,
⟨some 10, .bin .eql (.t 9) (.k (.int .i64 0)), none⟩,
⟨some 11, .mov (.t 10), none⟩,
⟨some 12, .mov (.t 1), (some (11, false))⟩,
⟨some 13, .len false (.t 12), (some (11, false))⟩,
⟨some 14, .bin .gtr (.t 13) (.k (.int .i64 8)), (some (11, false))⟩,
⟨some 15, .pick (.t 11) (.k (.bool true)) (.t 14), none⟩,
⟨some 16, .mov (.t 15), none⟩,
⟨some 17, .mov (.t 2), (some (16, false))⟩,
⟨some 18, .len false (.t 17), (some (16, false))⟩,
⟨some 19, .bin .gtr (.t 18) (.k (.int .i64 20)), (some (16, false))⟩,
⟨some 20, .pick (.t 16) (.k (.bool true)) (.t 19), none⟩]
[1, 2, 3, 20])
(.cond (.t 20)
(.seq (.reg [⟨some 6, .mov (.k (.bool false)), none⟩]
[6])
.ret)
.skip))
(.seq (.seq (.reg [⟨some 7, .mov (.k (.int .i64 0)), none⟩]
[1, 2, 3, 7])
(.block 0
(.loop [1, 2, 3, 7] [3, 9, 13, 18]
  (.seq (.seq (.reg [⟨some 21, .mov (.t 7), none⟩,
⟨some 22, .mov (.t 2), none⟩,
⟨some 23, .len false (.t 22), none⟩,
⟨some 24, .bin .lss (.t 21) (.t 23), none⟩]
[1, 2, 3, 7, 24])
(.cond (.t 24)
.skip
(.exit 0)))
(.seq (.block 1
(.seq (.reg [⟨some 27, .mov (.t 2), none⟩,
⟨some 28, .mov (.t 7), none⟩,
⟨some 29, .iaddr 4 (.t 27) (.t 28), none⟩,
⟨some 30, .faddr (.t 29) 2, none⟩,
⟨some 31, .load (.t 30), none⟩,
⟨some 32, .len true (.t 31), none⟩,
⟨some 33, .bin .gtr (.t 32) (.k (.int .i64 1000)), none⟩]
[1, 2, 3, 7, 33])
(.cond (.t 33)
(.seq (.reg [⟨some 6, .mov (.k (.bool false)), none⟩]
[6])
.ret)
.skip)))
(.reg [⟨some 25, .mov (.t 7), none⟩,
⟨some 26, .bin .add (.t 25) (.k (.int .i64 1)), none⟩,
⟨some 7, .mov (.t 26), none⟩]
[1, 2, 3, 7]))))))
(.seq (.reg [⟨some 34, .loadN (.t 3) 9, none⟩,
⟨some 35, .call n_proctorref13_Right [.t 34], none⟩,
⟨some 36, .mov (.t 35), none⟩,
⟨some 37, .mov (.t 1), (some (36, true))⟩,
⟨some 38, .call n_proctorref05_Right [.t 37], (some (36, true))⟩,
⟨some 39, .pick (.t 36) (.t 38) (.k (.bool false)), none⟩,
⟨some 6, .mov (.t 39), none⟩]
[6])
.ret))))⟩
theorem k_proctorlaw16_small : chkF Go.Proofs.Tryd.prog Go.Proofs.Tryd.f15 c_proctorlaw16_small = true := by kernel_rfl
theorem pc_proctorlaw16_small {G : Nat → Option AV} {args : List AV} {r : AV} (h : Runs Go.Proofs.Tryd.prog G c_proctorlaw16_small args r) (hk : args.length = c_proctorlaw16_small.k := by rfl) : PureC Go.Proofs.Tryd.prog G n_proctorlaw16_small args r := PureC.of_runs (fn := Go.Proofs.Tryd.f15) (A := c_proctorlaw16_small) Go.Proofs.Tryd.func15 k_proctorlaw16_small hk h
def c_proctorref01_Add : AFun := ⟨27, 2, [.t 4, .t 5],
  (.seq (.reg [⟨some 4, .mov (.k (.int .i64 0)), none⟩,
⟨some 5, .mov (.k (.bool false)), none⟩]
[0, 1])
(.seq (.seq (.reg [⟨some 6, .mov (.t 1), none⟩,
⟨some 7, .bin .gtr (.t 6) (.k (.int .i64 0)), none⟩,
⟨some 8, .mov (.t 7), none⟩,
⟨some 9, .mov (.t 0), (some (8, true))⟩,
⟨some 10, .mov (.t 1), (some (8, true))⟩,
⟨some 11, .bin .sub (.k (.int .i64 9223372036854775807)) (.t 10), (some (8, true))⟩,
⟨some 12, .bin .gtr (.t 9) (.t 11), (some (8, true))⟩,
⟨some 13, .pick (.t 8) (.t 12) (.k (.bool false)), none⟩,
⟨some 14, .mov (.t 13), none⟩,
⟨some 15, .mov (.t 1), (some (14, false))⟩,
⟨some 16, .bin .lss (.t 15) (.k (.int .i64 0)), (some (14, false))⟩,
⟨some 17, .mov (.t 16), (some (14, false))⟩,
⟨some 18, .mov (.t 0), (some (17, true))⟩,
⟨some 19, .mov (.t 1), (some (17, true))⟩,
⟨some 20, .bin .sub (.k (.int .i64 (-9223372036854775808))) (.t 19), (some (17, true))⟩,
⟨some 21, .bin .lss (.t 18) (.t 20), (some (17, true))⟩,
⟨some 22, .pick (.t 17) (.t 21) (.k (.bool false)), (some (14, false))⟩,
⟨some 23, .pick (.t 14) (.k (.bool true)) (.t 22), none⟩]
[0, 1, 23])
(.cond (.t 23)
(.seq (.reg [⟨some 4, .mov (.k (.int .i64 0)), none⟩,
⟨some 5, .mov (.k (.bool false)), none⟩]
[4, 5])
.ret)
.skip))
(.seq (.reg [⟨some 24, .mov (.t 0), none⟩,
⟨some 25, .mov (.t 1), none⟩,
⟨some 26, .bin .add (.t 24) (.t 25), none⟩,
⟨some 4, .mov (.t 26), none⟩,
⟨some 5, .mov (.k (.bool true)), none⟩]
[4, 5])
.ret)))⟩
theorem k_proctorref01_Add : chkF Go.Proofs.Tryd.prog Go.Proofs.Tryd.f101 c_proctorref01_Add = true := by kernel_rfl
theorem pc_proctorref01_Add {G : Nat → Option AV} {args : List AV} {r : AV} (h : Runs Go.Proofs.Tryd.prog G c_proctorref01_Add args r) (hk : args.length = c_proctorref01_Add.k := by rfl) : PureC Go.Proofs.Tryd.prog G n_proctorref01_Add args r := PureC.of_runs (fn := Go.Proofs.Tryd.f101) (A := c_proctorref01_Add) Go.Proofs.Tryd.func101 k_proctorref01_Add hk h
def c_proctorref01_Div : AFun := ⟨27, 2, [.t 4, .t 5, .t 6],
  (.seq (.reg [⟨some 4, .mov (.k (.int .i64 0)), none⟩,
⟨some 5, .mov (.k (.int .i64 0)), none⟩,
⟨some 6, .mov (.k (.int .i64 0)), none⟩]
[0, 1])
(.seq (.seq (.reg [⟨some 9, .mov (.t 1), none⟩,
⟨some 10, .bin .eql (.t 9) (.k (.int .i64 0)), none⟩]
[0, 1, 10])
(.cond (.t 10)
(.seq (.reg [⟨some 4, .mov (.k (.int .i64 0)), none⟩,
⟨some 5, .mov (.k (.int .i64 0)), none⟩,
⟨some 6, .mov (.k (.int .i64 7)), none⟩]
[4, 5, 6])
.ret)
.skip))
(.seq (.seq (.reg [⟨some 11, .mov (.t 1), none⟩,
⟨some 12, .bin .eql (.t 11) (.k (.int .i64 (-1))), none⟩]
[0, 1, 12])
(.cond (.t 12)
(.seq (.reg [⟨some 14, .mov (.t 0), none⟩,
⟨some 15, .call n_proctorref01_Sub [.k (.int .i64 0), .t 14], none⟩,
⟨some 13, .mov (.t 15), none⟩,
⟨some 16, .ext (.t 13) 0, none⟩,
⟨some 17, .ext (.t 13) 1, none⟩,
⟨some 7, .mov (.t 16), none⟩,
⟨some 8, .mov (.t 17), none⟩]
[7, 8])
(.seq (.seq (.reg [⟨some 18, .mov (.t 8), none⟩,
⟨some 19, .un .not (.t 18), none⟩]
[7, 19])
(.cond (.t 19)
(.seq (.reg [⟨some 4, .mov (.k (.int .i64 0)), none⟩,
⟨some 5, .mov (.k (.int .i64 0)), none⟩,
⟨some 6, .mov (.k (.int .i64 6)), none⟩]
[4, 5, 6])
.ret)
.skip))
(.seq (.reg [⟨some 20, .mov (.t 7), none⟩,
⟨some 4, .mov (.t 20), none⟩,
⟨some 5, .mov (.k (.int .i64 0)), none⟩,
⟨some 6, .mov (.k (.int .i64 0)), none⟩]
[4, 5, 6])
.ret)))
.skip))
(.seq (.dreg [⟨some 21, .mov (.t 0), none⟩,
⟨some 22, .mov (.t 1), none⟩,
⟨some 23, .bin .quo (.t 21) (.t 22), none⟩,
⟨some 24, .mov (.t 0), none⟩,
⟨some 25, .mov (.t 1), none⟩,
⟨some 26, .bin .rem (.t 24) (.t 25), none⟩,
⟨some 4, .mov (.t 23), none⟩,
⟨some 5, .mov (.t 26), none⟩,
⟨some 6, .mov (.k (.int .i64 0)), none⟩]
[4, 5, 6])
.ret))))⟩
theorem k_proctorref01_Div : chkF Go.Proofs.Tryd.prog Go.Proofs.Tryd.f105 c_proctorref01_Div = true := by kernel_rfl
theorem pc_proctorref01_Div {G : Nat → Option AV} {args : List AV} {r : AV} (h : Runs Go.Proofs.Tryd.prog G c_proctorref01_Div args r) (hk : args.length = c_proctorref01_Div.k := by rfl) : PureC Go.Proofs.Tryd.prog G n_proctorref01_Div args r := PureC.of_runs (fn := Go.Proofs.Tryd.f105) (A := c_proctorref01_Div) Go.Proofs.Tryd.func105 k_proctorref01_Div hk h
def c_proctorref01_Mul : AFun := ⟨81, 2, [.t 4, .t 5],
  (.seq (.reg [⟨some 4, .mov (.k (.int .i64 0)), none⟩,
⟨some 5, .mov (.k (.bool false)), none⟩]
[0, 1])
(.seq (.seq (.reg [⟨some 6, .mov (.t 0), none⟩,
⟨some 7, .bin .eql (.t 6) (.k (.int .i64 0)), none⟩,
⟨some 8, .mov (.t 7), none⟩,
⟨some 9, .mov (.t 1), (some (8, false))⟩,
⟨some 10, .bin .eql (.t 9) (.k (.int .i64 0)), (some (8, false))⟩,
⟨some 11, .pick (.t 8) (.k (.bool true)) (.t 10), none⟩]
[0, 1, 11])
(.cond (.t 11)
(.seq (.reg [⟨some 4, .mov (.k (.int .i64 0)), none⟩,
⟨some 5, .mov (.k (.bool true)), none⟩]
[4, 5])
.ret)
.skip))
(.seq (.seq (.reg [⟨some 12, .mov (.t 0), none⟩,
⟨some 13, .bin .eql (.t 12) (.k (.int .i64 (-1))), none⟩]
[0, 1, 13])
(.cond (.t 13)
(.seq (.reg [⟨some 14, .mov (.t 1), none⟩,
⟨some 15, .call n_proctorref01_Sub [.k (.int .i64 0), .t 14], none⟩,
⟨some 16, .ext (.t 15) 0, none⟩,
⟨some 17, .ext (.t 15) 1, none⟩,
⟨some 4, .mov (.t 16), none⟩,
⟨some 5, .mov (.t 17), none⟩]
[4, 5])
.ret)
.skip))
(.seq (.seq (.reg [⟨some 18, .mov (.t 1), none⟩,
⟨some 19, .bin .eql (.t 18) (.k (.int .i64 (-1))), none⟩]
[0, 1, 19])
(.cond (.t 19)
(.seq (.reg [⟨some 20, .mov (.t 0), none⟩,
⟨some 21, .call n_proctorref01_Sub [.k (.int .i64 0), .t 20], none⟩,
⟨some 22, .ext (.t 21) 0, none⟩,
⟨some 23, .ext (.t 21) 1, none⟩,
⟨some 4, .mov (.t 22), none⟩,
⟨some 5, .mov (.t 23), none⟩]
[4, 5])
.ret)
.skip))
(.seq (.seq (.reg [⟨some 24, .mov (.t 0), none⟩,
⟨some 25, .bin .gtr (.t 24) (.k (.int .i64 0)), none⟩,
⟨some 26, .mov (.t 25), none⟩,
⟨some 27, .mov (.t 1), (some (26, true))⟩,
⟨some 28, .bin .gtr (.t 27) (.k (.int .i64 0)), (some (26, true))⟩,
⟨some 29, .pick (.t 26) (.t 28) (.k (.bool false)), none⟩,
⟨some 30, .mov (.t 29), none⟩,
⟨some 31, .mov (.t 0), (some (30, true))⟩,
⟨some 32, .mov (.t 1), (some (30, true))⟩,
⟨some 33, .bin .quo (.k (.int .i64 9223372036854775807)) (.t 32), (some (30, true))⟩,
⟨some 34, .bin .gtr (.t 31) (.t 33), (some (30, true))⟩,
⟨some 35, .pick (.t 30) (.t 34) (.k (.bool false)), none⟩,
⟨some 36, .mov (.t 35), none⟩,
⟨some 37, .mov (.t 0), (some (36, false))⟩,
⟨some 38, .bin .gtr (.t 37) (.k (.int .i64 0)), (some (36, false))⟩,
⟨some 39, .mov (.t 38), (some (36, false))⟩,
⟨some 40, .mov (.t 1), (some (39, true))⟩,
⟨some 41, .bin .lss (.t 40) (.k (.int .i64 0)), (some (39, true))⟩,
⟨some 42, .pick (.t 39) (.t 41) (.k (.bool false)), (some (36, false))⟩,
⟨some 43, .mov (.t 42), (some (36, false))⟩,
⟨some 44, .mov (.t 1), (some (43, true))⟩,
⟨some 45, .mov (.t 0), (some (43, true))⟩,
⟨some 46, .bin .quo (.k (.int .i64 (-9223372036854775808))) (.t 45), (some (43, true))⟩,
⟨some 47, .bin .lss (.t 44) (.t 46), (some (43, true))⟩,
⟨some 48, .pick (.t 43) (.t 47) (.k (.bool false)), (some (36, false))⟩,
⟨some 49, .pick (.t 36) (.k (.bool true)) (.t 48), none⟩,
⟨some 50, .mov (.t 49), none⟩,
⟨some 51, .mov (.t 0), (some (50, false))⟩,
⟨some 52, .bin .lss (.t 51) (.k (.int .i64 0)), (some (50, false))⟩,
⟨some 53, .mov (.t 52), (some (50, false))⟩,
⟨some 54, .mov (.t 1), (some (53, true))⟩,
⟨some 55, .bin .gtr (.t 54) (.k (.int .i64 0)), (some (53, true))⟩,
⟨some 56, .pick (.t 53) (.t 55) (.k (.bool false)), (some (50, false))⟩,
⟨some 57, .mov (.t 56), (some (50, false))⟩,
⟨some 58, .mov (.t 0), (some (57, true))⟩,
⟨some 59, .mov (.t 1), (some (57, true))⟩,
⟨some 60, .bin .quo (.k (.int .i64 (-9223372036854775808))) (.t 59), (some (57, true))⟩,
⟨some 61, .bin .lss (.t 58) (.t 60), (some (57, true))⟩,
⟨some 62, .pick (.t 57) (.t 61) (.k (.bool false)), (some (50, false))⟩,
⟨some 63, .pick (.t 50) (.k (.bool true)) (.t 62), none⟩,
⟨some 64, .mov (.t 63), none⟩,
⟨some 65, .mov (.t 0), (some (64, false))⟩,
⟨some 66, .bin .lss (.t 65) (.k (.int .i64 0)), (some (64, false))⟩,
⟨some 67, .mov (.t 66), (some (64, false))⟩,
⟨some 68, .mov (.t 1), (some (67, true))⟩,
⟨some 69, .bin .lss (.t 68) (.k (.int .i64 0)), (some (67, true))⟩,
⟨some 70, .pick (.t 67) (.t 69) (.k (.bool false)), (some (64, false))⟩,
⟨some 71, .mov (.t 70), (some (64, false))⟩,
⟨some 72, .mov (.t 0), (some (71, true))⟩,
⟨some 73, .mov (.t 1), (some (71, true))⟩,
⟨some 74, .bin .quo (.k (.int .i64 9223372036854775807)) (.t 73), (some (71, true))⟩,
⟨some 75, .bin .lss (.t 72) (.t 74), (some (71, true))⟩,
⟨some 76, .pick (.t 71) (.t 75) (.k (.bool false)), (some (64, false))⟩,
⟨some 77, .pick (.t 64) (.k (.bool true)) (.t 76), none⟩]
[0, 1, 77])
(.cond (.t 77)
(.seq (.reg [⟨some 4, .mov (.k (.int .i64 0)), none⟩,
⟨some 5, .mov (.k (.bool false)), none⟩]
[4, 5])
.ret)
.skip))
(.seq (.reg [⟨some 78, .mov (.t 0), none⟩,
⟨some 79, .mov (.t 1), none⟩,
⟨some 80, .bin .mul (.t 78) (.t 79), none⟩,
⟨some 4, .mov (.t 80), none⟩,
⟨some 5, .mov (.k (.bool true)), none⟩]
[4, 5])
.ret))))))⟩
theorem k_proctorref01_Mul : chkF Go.Proofs.Tryd.prog Go.Proofs.Tryd.f104 c_proctorref01_Mul = true := by kernel_rfl
theorem pc_proctorref01_Mul {G : Nat → Option AV} {args : List AV} {r : AV} (h : Runs Go.Proofs.Tryd.prog G c_proctorref01_Mul args r) (hk : args.length = c_proctorref01_Mul.k := by rfl) : PureC Go.Proofs.Tryd.prog G n_proctorref01_Mul args r := PureC.of_runs (fn := Go.Proofs.Tryd.f104) (A := c_proctorref01_Mul) Go.Proofs.Tryd.func104 k_proctorref01_Mul hk h
def c_proctorref01_Sub : AFun := ⟨27, 2, [.t 4, .t 5],
  (.seq (.reg [⟨some 4, .mov (.k (.int .i64 0)), none⟩,
⟨some 5, .mov (.k (.bool false)), none⟩]
[0, 1])
(.seq (.seq (.reg [⟨some 6, .mov (.t 1), none⟩,
⟨some 7, .bin .lss (.t 6) (.k (.int .i64 0)), none⟩,
⟨some 8, .mov (.t 7), none⟩,
⟨some 9, .mov (.t 0), (some (8, true))⟩,
⟨some 10, .mov (.t 1), (some (8, true))⟩,
⟨some 11, .bin .add (.k (.int .i64 9223372036854775807)) (.t 10), (some (8, true))⟩,
⟨some 12, .bin .gtr (.t 9) (.t 11), (some (8, true))⟩,
⟨some 13, .pick (.t 8) (.t 12) (.k (.bool false)), none⟩,
⟨some 14, .mov (.t 13), none⟩,
⟨some 15, .mov (.t 1), (some (14, false))⟩,
⟨some 16, .bin .gtr (.t 15) (.k (.int .i64 0)), (some (14, false))⟩,
⟨some 17, .mov (.t 16), (some (14, false))⟩,
⟨some 18, .mov (.t 0), (some (17, true))⟩,
⟨some 19, .mov (.t 1), (some (17, true))⟩,
⟨some 20, .bin .add (.k (.int .i64 (-9223372036854775808))) (.t 19), (some (17, true))⟩,
⟨some 21, .bin .lss (.t 18) (.t 20), (some (17, true))⟩,
⟨some 22, .pick (.t 17) (.t 21) (.k (.bool false)), (some (14, false))⟩,
⟨some 23, .pick (.t 14) (.k (.bool true)) (.t 22), none⟩]
[0, 1, 23])
(.cond (.t 23)
(.seq (.reg [⟨some 4, .mov (.k (.int .i64 0)), none⟩,
⟨some 5, .mov (.k (.bool false)), none⟩]
[4, 5])
.ret)
.skip))
(.seq (.reg [⟨some 24, .mov (.t 0), none⟩,
⟨some 25, .mov (.t 1), none⟩,
⟨some 26, .bin .sub (.t 24) (.t 25), none⟩,
⟨some 4, .mov (.t 26), none⟩,
⟨some 5, .mov (.k (.bool true)), none⟩]
[4, 5])
.ret)))⟩
theorem k_proctorref01_Sub : chkF Go.Proofs.Tryd.prog Go.Proofs.Tryd.f103 c_proctorref01_Sub = true := by kernel_rfl
theorem pc_proctorref01_Sub {G : Nat → Option AV} {args : List AV} {r : AV} (h : Runs Go.Proofs.Tryd.prog G c_proctorref01_Sub args r) (hk : args.length = c_proctorref01_Sub.k := by rfl) : PureC Go.Proofs.Tryd.prog G n_proctorref01_Sub args r := PureC.of_runs (fn := Go.Proofs.Tryd.f103) (A := c_proctorref01_Sub) Go.Proofs.Tryd.func103 k_proctorref01_Sub hk h
def c_proctorref03_Below : AFun := ⟨37, 2, [.t 4],
  (.seq (.reg [⟨some 4, .mov (.k (.bool false)), none⟩]
[0, 1])
(.seq (.seq (.reg [⟨some 5, .mov (.k (.int .i64 0)), none⟩]
[0, 1, 5])
(.block 0
(.loop [0, 1, 5] []
  (.seq (.seq (.reg [⟨some 6, .mov (.t 5), none⟩,
⟨some 7, .mov (.t 0), none⟩,
⟨some 8, .len true (.t 7), none⟩,
⟨some 9, .bin .lss (.t 6) (.t 8), none⟩,
⟨some 10, .mov (.t 9), none⟩,
⟨some 11, .mov (.t 5), (some (10, true))⟩,
⟨some 12, .mov (.t 1), (some (10, true))⟩,
⟨some 13, .len true (.t 12), (some (10, true))⟩,
⟨some 14, .bin .lss (.t 11) (.t 13), (some (10, true))⟩,
⟨some 15, .pick (.t 10) (.t 14) (.k (.bool false)), none⟩]
[0, 1, 5, 15])
(.cond (.t 15)
.skip
(.exit 0)))
(.seq (.block 1
(.seq (.dreg [⟨some 18, .mov (.t 0), none⟩,
⟨some 19, .mov (.t 5), none⟩,
⟨some 20, .idx (.t 18) (.t 19), none⟩,
⟨some 21, .mov (.t 1), none⟩,
⟨some 22, .mov (.t 5), none⟩,
⟨some 23, .idx (.t 21) (.t 22), none⟩,
⟨some 24, .bin .neq (.t 20) (.t 23), none⟩]
[0, 1, 5, 24])
(.cond (.t 24)
(.seq (.dreg [⟨some 25, .mov (.t 0), none⟩,
⟨some 26, .mov (.t 5), none⟩,
⟨some 27, .idx (.t 25) (.t 26), none⟩,
⟨some 28, .mov (.t 1), none⟩,
⟨some 29, .mov (.t 5), none⟩,
⟨some 30, .idx (.t 28) (.t 29), none⟩,
⟨some 31, .bin .lss (.t 27) (.t 30), none⟩,
⟨some 4, .mov (.t 31), none⟩]
[4])
.ret)
.skip)))
(.reg [⟨some 16, .mov (.t 5), none⟩,
⟨some 17, .bin .add (.t 16) (.k (.int .i64 1)), none⟩,
⟨some 5, .mov (.t 17), none⟩]
[0, 1, 5]))))))
(.seq (.reg [⟨some 32, .mov (.t 0), none⟩,
⟨some 33, .len true (.t 32), none⟩,
⟨some 34, .mov (.t 1), none⟩,
⟨some 35, .len true (.t 34), none⟩,
⟨some 36, .bin .lss (.t 33) (.t 35), none⟩,
⟨some 4, .mov (.t 36), none⟩]
[4])
.ret)))⟩
theorem k_proctorref03_Below : chkF Go.Proofs.Tryd.prog Go.Proofs.Tryd.f61 c_proctorref03_Below = true := by kernel_rfl
theorem pc_proctorref03_Below {G : Nat → Option AV} {args : List AV} {r : AV} (h : Runs Go.Proofs.Tryd.prog G c_proctorref03_Below args r) (hk : args.length = c_proctorref03_Below.k := by rfl) : PureC Go.Proofs.Tryd.prog G n_proctorref03_Below args r := PureC.of_runs (fn := Go.Proofs.Tryd.f61) (A := c_proctorref03_Below) Go.Proofs.Tryd.func61 k_proctorref03_Below hk h
def c_proctorref03_Less : AFun := ⟨38, 2, [.t 4],
  (.seq (.reg [⟨some 2, .box t_api_Value 4 (.t 0), none⟩,
⟨some 3, .box t_api_Value 4 (.t 1), none⟩,
⟨some 4, .mov (.k (.bool false)), none⟩]
[2, 3])
(.seq (.seq (.reg [⟨some 5, .faddr (.t 2) 0, none⟩,
⟨some 6, .load (.t 5), none⟩,
⟨some 7, .faddr (.t 3) 0, none⟩,
⟨some 8, .load (.t 7), none⟩,
⟨some 9, .bin .neq (.t 6) (.t 8), none⟩]
[2, 3, 9])
(.cond (.t 9)
(.seq (.reg [⟨some 10, .faddr (.t 2) 0, none⟩,
⟨some 11, .load (.t 10), none⟩,
⟨some 12, .faddr (.t 3) 0, none⟩,
⟨some 13, .load (.t 12), none⟩,
⟨some 14, .bin .lss (.t 11) (.t 13), none⟩,
⟨some 4, .mov (.t 14), none⟩]
[4])
.ret)
.skip))
(.seq (.seq (.reg [⟨some 15, .faddr (.t 2) 0, none⟩,
⟨some 16, .load (.t 15), none⟩,
⟨some 17, .bin .eql (.t 16) (.k (.int .i64 1)), none⟩]
[2, 3, 17])
(.cond (.t 17)
(.seq (.reg [⟨some 18, .faddr (.t 2) 1, none⟩,
⟨some 19, .load (.t 18), none⟩,
⟨some 20, .faddr (.t 3) 1, none⟩,
⟨some 21, .load (.t 20), none⟩,
⟨some 22, .bin .lss (.t 19) (.t 21), none⟩,
⟨some 4, .mov (.t 22), none⟩]
[4])
.ret)
.skip))
(.seq (.seq (.reg [⟨some 23, .faddr (.t 2) 0, none⟩,
⟨some 24, .load (.t 23), none⟩,
⟨some 25, .bin .eql (.t 24) (.k (.int .i64 2)), none⟩]
[2, 3, 25])
(.cond (.t 25)
(.seq (.reg [⟨some 26, .faddr (.t 2) 2, none⟩,
⟨some 27, .load (.t 26), none⟩,
⟨some 28, .faddr (.t 3) 2, none⟩,
⟨some 29, .load (.t 28), none⟩,
⟨some 30, .call n_proctorref03_Below [.t 27, .t 29], none⟩,
⟨some 4, .mov (.t 30), none⟩]
[4])
.ret)
.skip))
(.seq (.reg [⟨some 31, .faddr (.t 2) 3, none⟩,
⟨some 32, .load (.t 31), none⟩,
⟨some 33, .un .not (.t 32), none⟩,
⟨some 34, .mov (.t 33), none⟩,
⟨some 35, .faddr (.t 3) 3, (some (34, true))⟩,
⟨some 36, .load (.t 35), (some (34, true))⟩,
⟨some 37, .pick (.t 34) (.t 36) (.k (.bool false)), none⟩,
⟨some 4, .mov (.t 37), none⟩]
[4])
.ret)))))⟩
theorem k_proctorref03_Less : chkF Go.Proofs.Tryd.prog Go.Proofs.Tryd.f32 c_proctorref03_Less = true := by kernel_rfl
theorem pc_proctorref03_Less {G : Nat → Option AV} {args : List AV} {r : AV} (h : Runs Go.Proofs.Tryd.prog G c_proctorref03_Less args r) (hk : args.length = c_proctorref03_Less.k := by rfl) : PureC Go.Proofs.Tryd.prog G n_proctorref03_Less args r := PureC.of_runs (fn := Go.Proofs.Tryd.f32) (A := c_proctorref03_Less) Go.Proofs.Tryd.func32 k_proctorref03_Less hk h
def c_proctorref03_Op : AFun := ⟨145, 3, [.cells 6 4, .t 7],
  (.seq (.reg [⟨some 4, .box t_api_Value 4 (.t 1), none⟩,
⟨some 5, .box t_api_Value 4 (.t 2), none⟩,
⟨some 6, .alloc t_api_Value 4 (.agg [.int .i64 0, .int .i64 0, .str [], .bool false]), none⟩,
⟨some 7, .mov (.k (.int .i64 0)), none⟩]
[0, 4, 5, 6])
(.seq (.seq (.reg [⟨some 8, .mov (.t 0), none⟩,
⟨some 9, .bin .lss (.t 8) (.k (.int .i64 4)), none⟩,
⟨some 10, .mov (.t 9), none⟩,
⟨some 11, .mov (.t 0), (some (10, false))⟩,
⟨some 12, .bin .gtr (.t 11) (.k (.int .i64 16)), (some (10, false))⟩,
⟨some 13, .pick (.t 10) (.k (.bool true)) (.t 12), none⟩]
[0, 4, 5, 6, 13])
(.cond (.t 13)
(.seq (.reg [⟨some 14, .build [.int .i64 0, .int .i64 0, .str [], .bool false] [], none⟩,
⟨none, .store (.t 6) (.t 14) 4, none⟩,
⟨some 7, .mov (.k (.int .i64 1)), none⟩]
[6, 7])
.ret)
.skip))
(.seq (.seq (.reg [⟨some 15, .mov (.t 0), none⟩,
⟨some 16, .bin .eql (.t 15) (.k (.int .i64 4)), none⟩]
[0, 4, 5, 6, 16])
(.cond (.t 16)
(.seq (.seq (.reg [⟨some 17, .faddr (.t 4) 0, none⟩,
⟨some 18, .load (.t 17), none⟩,
⟨some 19, .bin .neq (.t 18) (.k (.int .i64 3)), none⟩]
[4, 6, 19])
(.cond (.t 19)
(.seq (.reg [⟨some 20, .build [.int .i64 0, .int .i64 0, .str [], .bool false] [], none⟩,
⟨none, .store (.t 6) (.t 20) 4, none⟩,
⟨some 7, .mov (.k (.int .i64 8)), none⟩]
[6, 7])
.ret)
.skip))
(.seq (.reg [⟨some 21, .faddr (.t 4) 3, none⟩,
⟨some 22, .load (.t 21), none⟩,
⟨some 23, .un .not (.t 22), none⟩,
⟨some 24, .call n_proctorref03_truth [.t 23], none⟩,
⟨some 25, .ext (.t 24) 0, none⟩,
⟨some 26, .ext (.t 24) 1, none⟩,
⟨none, .store (.t 6) (.t 25) 4, none⟩,
⟨some 7, .mov (.t 26), none⟩]
[6, 7])
.ret))
.skip))
(.seq (.seq (.reg [⟨some 27, .mov (.t 0), none⟩,
⟨some 28, .bin .eql (.t 27) (.k (.int .i64 5)), none⟩]
[0, 4, 5, 6, 28])
(.cond (.t 28)
(.seq (.seq (.reg [⟨some 29, .faddr (.t 4) 0, none⟩,
⟨some 30, .load (.t 29), none⟩,
⟨some 31, .bin .neq (.t 30) (.k (.int .i64 1)), none⟩]
[4, 6, 31])
(.cond (.t 31)
(.seq (.reg [⟨some 32, .build [.int .i64 0, .int .i64 0, .str [], .bool false] [], none⟩,
⟨none, .store (.t 6) (.t 32) 4, none⟩,
⟨some 7, .mov (.k (.int .i64 8)), none⟩]
[6, 7])
.ret)
.skip))
(.seq (.reg [⟨some 33, .faddr (.t 4) 1, none⟩,
⟨some 34, .load (.t 33), none⟩,
⟨some 35, .call n_proctorref03_arith [.k (.int .i64 9), .k (.int .i64 0), .t 34], none⟩,
⟨some 36, .ext (.t 35) 0, none⟩,
⟨some 37, .ext (.t 35) 1, none⟩,
⟨none, .store (.t 6) (.t 36) 4, none⟩,
⟨some 7, .mov (.t 37), none⟩]
[6, 7])
.ret))
.skip))
(.seq (.seq (.reg [⟨some 38, .faddr (.t 4) 0, none⟩,
⟨some 39, .load (.t 38), none⟩,
⟨some 40, .faddr (.t 5) 0, none⟩,
⟨some 41, .load (.t 40), none⟩,
⟨some 42, .bin .neq (.t 39) (.t 41), none⟩]
[0, 4, 5, 6, 42])
(.cond (.t 42)
(.seq (.reg [⟨some 43, .build [.int .i64 0, .int .i64 0, .str [], .bool false] [], none⟩,
⟨none, .store (.t 6) (.t 43) 4, none⟩,
⟨some 7, .mov (.k (.int .i64 8)), none⟩]
[6, 7])
.ret)
.skip))
(.seq (.seq (.reg [⟨some 44, .mov (.t 0), none⟩,
⟨some 45, .bin .eql (.t 44) (.k (.int .i64 13)), none⟩]
[0, 4, 5, 6, 45])
(.cond (.t 45)
(.seq (.reg [⟨some 46, .loadN (.t 4) 4, none⟩,
⟨some 47, .loadN (.t 5) 4, none⟩,
⟨some 48, .eqA false [0, 0, 1, 2] (.t 46) (.t 47), none⟩,
⟨some 49, .call n_proctorref03_truth [.t 48], none⟩,
⟨some 50, .ext (.t 49) 0, none⟩,
⟨some 51, .ext (.t 49) 1, none⟩,
⟨none, .store (.t 6) (.t 50) 4, none⟩,
⟨some 7, .mov (.t 51), none⟩]
[6, 7])
.ret)
.skip))
(.seq (.seq (.reg [⟨some 52, .mov (.t 0), none⟩,
⟨some 53, .bin .eql (.t 52) (.k (.int .i64 14)), none⟩]
[0, 4, 5, 6, 53])
(.cond (.t 53)
(.seq (.reg [⟨some 54, .loadN (.t 4) 4, none⟩,
⟨some 55, .loadN (.t 5) 4, none⟩,
⟨some 56, .eqA true [0, 0, 1, 2] (.t 54) (.t 55), none⟩,
⟨some 57, .call n_proctorref03_truth [.t 56], none⟩,
⟨some 58, .ext (.t 57) 0, none⟩,
⟨some 59, .ext (.t 57) 1, none⟩,
⟨none, .store (.t 6) (.t 58) 4, none⟩,
⟨some 7, .mov (.t 59), none⟩]
[6, 7])
.ret)
.skip))
(.seq (.seq (.reg [⟨some 60, .faddr (.t 4) 0, none⟩,
⟨some 61, .load (.t 60), none⟩,
⟨some 62, .bin .eql (.t 61) (.k (.int .i64 3)), none⟩]
[0, 4, 5, 6, 62])
(.cond (.t 62)
(.seq (.seq (.reg [⟨some 63, .mov (.t 0), none⟩,
⟨some 64, .bin .eql (.t 63) (.k (.int .i64 6)), none⟩]
[0, 4, 5, 6, 64])
(.cond (.t 64)
(.seq (.reg [⟨some 65, .faddr (.t 4) 3, none⟩,
⟨some 66, .load (.t 65), none⟩,
⟨some 67, .mov (.t 66), none⟩,
⟨some 68, .faddr (.t 5) 3, (some (67, true))⟩,
⟨some 69, .load (.t 68), (some (67, true))⟩,
⟨some 70, .pick (.t 67) (.t 69) (.k (.bool false)), none⟩,
⟨some 71, .call n_proctorref03_truth [.t 70], none⟩,
⟨some 72, .ext (.t 71) 0, none⟩,
⟨some 73, .ext (.t 71) 1, none⟩,
⟨none, .store (.t 6) (.t 72) 4, none⟩,
⟨some 7, .mov (.t 73), none⟩]
[6, 7])
.ret)
.skip))
(.seq (.seq (.reg [⟨some 74, .mov (.t 0), none⟩,
⟨some 75, .bin .eql (.t 74) (.k (.int .i64 7)), none⟩]
[4, 5, 6, 75])
(.cond (.t 75)
(.seq (.reg [⟨some 76, .faddr (.t 4) 3, none⟩,
⟨some 77, .load (.t 76), none⟩,
⟨some 78, .mov (.t 77), none⟩,
⟨some 79, .faddr (.t 5) 3, (some (78, false))⟩,
⟨some 80, .load (.t 79), (some (78, false))⟩,
⟨some 81, .pick (.t 78) (.k (.bool true)) (.t 80), none⟩,
⟨some 82, .call n_proctorref03_truth [.t 81], none⟩,
⟨some 83, .ext (.t 82) 0, none⟩,
⟨some 84, .ext (.t 82) 1, none⟩,
⟨none, .store (.t 6) (.t 83) 4, none⟩,
⟨some 7, .mov (.t 84), none⟩]
[6, 7])
.ret)
.skip))
(.seq (.reg [⟨some 85, .build [.int .i64 0, .int .i64 0, .str [], .bool false] [], none⟩,
⟨none, .store (.t 6) (.t 85) 4, none⟩,
⟨some 7, .mov (.k (.int .i64 8)), none⟩]
[6, 7])
.ret)))
.skip))
(.seq (.seq (.reg [⟨some 86, .mov (.t 0), none⟩,
⟨some 87, .bin .eql (.t 86) (.k (.int .i64 15)), none⟩]
[0, 4, 5, 6, 87])
(.cond (.t 87)
(.seq (.reg [⟨some 88, .loadN (.t 4) 4, none⟩,
⟨some 89, .loadN (.t 5) 4, none⟩,
⟨some 90, .call n_proctorref03_Less [.t 88, .t 89], none⟩,
⟨some 91, .call n_proctorref03_truth [.t 90], none⟩,
⟨some 92, .ext (.t 91) 0, none⟩,
⟨some 93, .ext (.t 91) 1, none⟩,
⟨none, .store (.t 6) (.t 92) 4, none⟩,
⟨some 7, .mov (.t 93), none⟩]
[6, 7])
.ret)
.skip))
(.seq (.seq (.reg [⟨some 94, .mov (.t 0), none⟩,
⟨some 95, .bin .eql (.t 94) (.k (.int .i64 16)), none⟩]
[0, 4, 5, 6, 95])
(.cond (.t 95)
(.seq (.reg [⟨some 96, .loadN (.t 5) 4, none⟩,
⟨some 97, .loadN (.t 4) 4, none⟩,
⟨some 98, .call n_proctorref03_Less [.t 96, .t 97], none⟩,
⟨some 99, .un .not (.t 98), none⟩,
⟨some 100, .call n_proctorref03_truth [.t 99], none⟩,
⟨some 101, .ext (.t 100) 0, none⟩,
⟨some 102, .ext (.t 100) 1, none⟩,
⟨none, .store (.t 6) (.t 101) 4, none⟩,
⟨some 7, .mov (.t 102), none⟩]
[6, 7])
.ret)
.skip))
(.seq (.seq (.reg [⟨some 103, .faddr (.t 4) 0, none⟩,
⟨some 104, .load (.t 103), none⟩,
⟨some 105, .bin .eql (.t 104) (.k (.int .i64 1)), none⟩,
⟨some 106, .mov (.t 105), none⟩,
⟨some 107, .mov (.t 0), (some (106, true))⟩,
⟨some 108, .bin .geq (.t 107) (.k (.int .i64 8)), (some (106, true))⟩,
⟨some 109, .pick (.t 106) (.t 108) (.k (.bool false)), none⟩,
⟨some 110, .mov (.t 109), none⟩,
⟨some 111, .mov (.t 0), (some (110, true))⟩,
⟨some 112, .bin .leq (.t 111) (.k (.int .i64 12)), (some (110, true))⟩,
⟨some 113, .pick (.t 110) (.t 112) (.k (.bool false)), none⟩]
[0, 4, 5, 6, 113])
(.cond (.t 113)
(.seq (.reg [⟨some 114, .mov (.t 0), none⟩,
⟨some 115, .faddr (.t 4) 1, none⟩,
⟨some 116, .load (.t 115), none⟩,
⟨some 117, .faddr (.t 5) 1, none⟩,
⟨some 118, .load (.t 117), none⟩,
⟨some 119, .call n_proctorref03_arith [.t 114, .t 116, .t 118], none⟩,
⟨some 120, .ext (.t 119) 0, none⟩,
⟨some 121, .ext (.t 119) 1, none⟩,
⟨none, .store (.t 6) (.t 120) 4, none⟩,
⟨some 7, .mov (.t 121), none⟩]
[6, 7])
.ret)
.skip))
(.seq (.seq (.reg [⟨some 122, .faddr (.t 4) 0, none⟩,
⟨some 123, .load (.t 122), none⟩,
⟨some 124, .bin .eql (.t 123) (.k (.int .i64 2)), none⟩,
⟨some 125, .mov (.t 124), none⟩,
⟨some 126, .mov (.t 0), (some (125, true))⟩,
⟨some 127, .bin .eql (.t 126) (.k (.int .i64 8)), (some (125, true))⟩,
⟨some 128, .pick (.t 125) (.t 127) (.k (.bool false)), none⟩]
[4, 5, 6, 128])
(.cond (.t 128)
(.seq (.seq (.reg [⟨some 129, .faddr (.t 4) 2, none⟩,
⟨some 130, .load (.t 129), none⟩,
⟨some 131, .len true (.t 130), none⟩,
⟨some 132, .faddr (.t 5) 2, none⟩,
⟨some 133, .load (.t 132), none⟩,
⟨some 134, .len true (.t 133), none⟩,
⟨some 135, .bin .add (.t 131) (.t 134), none⟩,
⟨some 136, .bin .gtr (.t 135) (.k (.int .i64 4096)), none⟩]
[4, 5, 6, 136])
(.cond (.t 136)
(.seq (.reg [⟨some 137, .build [.int .i64 0, .int .i64 0, .str [], .bool false] [], none⟩,
⟨none, .store (.t 6) (.t 137) 4, none⟩,
⟨some 7, .mov (.k (.int .i64 3)), none⟩]
[6, 7])
.ret)
.skip))
(.seq (.reg [⟨some 138, .faddr (.t 4) 2, none⟩,
⟨some 139, .load (.t 138), none⟩,
⟨some 140, .faddr (.t 5) 2, none⟩,
⟨some 141, .load (.t 140), none⟩,
⟨some 142, .bin .add (.t 139) (.t 141), none⟩,
⟨some 143, .build [.int .i64 0, .int .i64 0, .str [], .bool false] [(0, 1, .k (.int .i64 2)), (2, 1, .t 142)], none⟩,
⟨none, .store (.t 6) (.t 143) 4, none⟩,
⟨some 7, .mov (.k (.int .i64 0)), none⟩]
[6, 7])
.ret))
.skip))
(.seq (.reg [⟨some 144, .build [.int .i64 0, .int .i64 0, .str [], .bool false] [], none⟩,
⟨none, .store (.t 6) (.t 144) 4, none⟩,
⟨some 7, .mov (.k (.int .i64 8)), none⟩]
[6, 7])
.ret)))))))))))))⟩
theorem k_proctorref03_Op : chkF Go.Proofs.Tryd.prog Go.Proofs.Tryd.f47 c_proctorref03_Op = true := by kernel_rfl
theorem pc_proctorref03_Op {G : Nat → Option AV} {args : List AV} {r : AV} (h : Runs Go.Proofs.Tryd.prog G c_proctorref03_Op args r) (hk : args.length = c_proctorref03_Op.k := by rfl) : PureC Go.Proofs.Tryd.prog G n_proctorref03_Op args r := PureC.of_runs (fn := Go.Proofs.Tryd.f47) (A := c_proctorref03_Op) Go.Proofs.Tryd.func47 k_proctorref03_Op hk h
def c_proctorref03_Right : AFun := ⟨44, 1, [.t 2],
  (.seq (.reg [⟨some 1, .box t_api_Value 4 (.t 0), none⟩,
⟨some 2, .mov (.k (.bool false)), none⟩]
[1])
(.seq (.seq (.reg [⟨some 3, .faddr (.t 1) 0, none⟩,
⟨some 4, .load (.t 3), none⟩,
⟨some 5, .bin .eql (.t 4) (.k (.int .i64 1)), none⟩]
[1, 5])
(.cond (.t 5)
(.seq (.reg [⟨some 6, .faddr (.t 1) 2, none⟩,
⟨some 7, .load (.t 6), none⟩,
⟨some 8, .bin .eql (.t 7) (.k (.str [])), none⟩,
⟨some 9, .mov (.t 8), none⟩,
⟨some 10, .faddr (.t 1) 3, (some (9, true))⟩,
⟨some 11, .load (.t 10), (some (9, true))⟩,
⟨some 12, .un .not (.t 11), (some (9, true))⟩,
⟨some 13, .pick (.t 9) (.t 12) (.k (.bool false)), none⟩,
⟨some 2, .mov (.t 13), none⟩]
[2])
.ret)
.skip))
(.seq (.seq (.reg [⟨some 14, .faddr (.t 1) 0, none⟩,
⟨some 15, .load (.t 14), none⟩,
⟨some 16, .bin .eql (.t 15) (.k (.int .i64 2)), none⟩]
[1, 16])
(.cond (.t 16)
(.seq (.reg [⟨some 17, .faddr (.t 1) 1, none⟩,
⟨some 18, .load (.t 17), none⟩,
⟨some 19, .bin .eql (.t 18) (.k (.int .i64 0)), none⟩,
⟨some 20, .mov (.t 19), none⟩,
⟨some 21, .faddr (.t 1) 3, (some (20, true))⟩,
⟨some 22, .load (.t 21), (some (20, true))⟩,
⟨some 23, .un .not (.t 22), (some (20, true))⟩,
⟨some 24, .pick (.t 20) (.t 23) (.k (.bool false)), none⟩,
⟨some 25, .mov (.t 24), none⟩,
⟨some 26, .faddr (.t 1) 2, (some (25, true))⟩,
⟨some 27, .load (.t 26), (some (25, true))⟩,
⟨some 28, .len true (.t 27), (some (25, true))⟩,
⟨some 29, .bin .leq (.t 28) (.k (.int .i64 4096)), (some (25, true))⟩,
⟨some 30, .pick (.t 25) (.t 29) (.k (.bool false)), none⟩,
⟨some 2, .mov (.t 30), none⟩]
[2])
.ret)
.skip))
(.seq (.reg [⟨some 31, .faddr (.t 1) 0, none⟩,
⟨some 32, .load (.t 31), none⟩,
⟨some 33, .bin .eql (.t 32) (.k (.int .i64 3)), none⟩,
⟨some 34, .mov (.t 33), none⟩,
⟨some 35, .faddr (.t 1) 1, (some (34, true))⟩,
⟨some 36, .load (.t 35), (some (34, true))⟩,
⟨some 37, .bin .eql (.t 36) (.k (.int .i64 0)), (some (34, true))⟩,
⟨some 38, .pick (.t 34) (.t 37) (.k (.bool false)), none⟩,
⟨some 39, .mov (.t 38), none⟩,
⟨some 40, .faddr (.t 1) 2, (some (39, true))⟩,
⟨some 41, .load (.t 40), (some (39, true))⟩,
⟨some 42, .bin .eql (.t 41) (.k (.str [])), (some (39, true))⟩,
⟨some 43, .pick (.t 39) (.t 42) (.k (.bool false)), none⟩,
⟨some 2, .mov (.t 43), none⟩]
[2])
.ret))))⟩
theorem k_proctorref03_Right : chkF Go.Proofs.Tryd.prog Go.Proofs.Tryd.f42 c_proctorref03_Right = true := by kernel_rfl
theorem pc_proctorref03_Right {G : Nat → Option AV} {args : List AV} {r : AV} (h : Runs Go.Proofs.Tryd.prog G c_proctorref03_Right args r) (hk : args.length = c_proctorref03_Right.k := by rfl) : PureC Go.Proofs.Tryd.prog G n_proctorref03_Right args r := PureC.of_runs (fn := Go.Proofs.Tryd.f42) (A := c_proctorref03_Right) Go.Proofs.Tryd.func42 k_proctorref03_Right hk h
def c_proctorref03_arith : AFun := ⟨76, 3, [.cells 6 4, .t 7],
  (.seq (.reg [⟨some 6, .alloc t_api_Value 4 (.agg [.int .i64 0, .int .i64 0, .str [], .bool false]), none⟩,
⟨some 7, .mov (.k (.int .i64 0)), none⟩]
[0, 1, 2, 6])
(.seq (.seq (.reg [⟨some 17, .mov (.t 0), none⟩,
⟨some 18, .bin .eql (.t 17) (.k (.int .i64 8)), none⟩]
[0, 1, 2, 6, 18])
(.cond (.t 18)
(.seq (.reg [⟨some 20, .mov (.t 1), none⟩,
⟨some 21, .mov (.t 2), none⟩,
⟨some 22, .call n_proctorref01_Add [.t 20, .t 21], none⟩,
⟨some 19, .mov (.t 22), none⟩,
⟨some 23, .ext (.t 19) 0, none⟩,
⟨some 24, .ext (.t 19) 1, none⟩,
⟨some 8, .mov (.t 23), none⟩,
⟨some 9, .mov (.t 24), none⟩]
[6, 8, 9])
(.seq (.reg [⟨some 25, .mov (.t 8), none⟩,
⟨some 26, .mov (.t 9), none⟩,
⟨some 27, .call n_proctorref03_number [.t 25, .t 26], none⟩,
⟨some 28, .ext (.t 27) 0, none⟩,
⟨some 29, .ext (.t 27) 1, none⟩,
⟨none, .store (.t 6) (.t 28) 4, none⟩,
⟨some 7, .mov (.t 29), none⟩]
[6, 7])
.ret))
.skip))
(.seq (.seq (.reg [⟨some 30, .mov (.t 0), none⟩,
⟨some 31, .bin .eql (.t 30) (.k (.int .i64 9)), none⟩]
[0, 1, 2, 6, 31])
(.cond (.t 31)
(.seq (.reg [⟨some 33, .mov (.t 1), none⟩,
⟨some 34, .mov (.t 2), none⟩,
⟨some 35, .call n_proctorref01_Sub [.t 33, .t 34], none⟩,
⟨some 32, .mov (.t 35), none⟩,
⟨some 36, .ext (.t 32) 0, none⟩,
⟨some 37, .ext (.t 32) 1, none⟩,
⟨some 10, .mov (.t 36), none⟩,
⟨some 11, .mov (.t 37), none⟩]
[6, 10, 11])
(.seq (.reg [⟨some 38, .mov (.t 10), none⟩,
⟨some 39, .mov (.t 11), none⟩,
⟨some 40, .call n_proctorref03_number [.t 38, .t 39], none⟩,
⟨some 41, .ext (.t 40) 0, none⟩,
⟨some 42, .ext (.t 40) 1, none⟩,
⟨none, .store (.t 6) (.t 41) 4, none⟩,
⟨some 7, .mov (.t 42), none⟩]
[6, 7])
.ret))
.skip))
(.seq (.seq (.reg [⟨some 43, .mov (.t 0), none⟩,
⟨some 44, .bin .eql (.t 43) (.k (.int .i64 10)), none⟩]
[0, 1, 2, 6, 44])
(.cond (.t 44)
(.seq (.reg [⟨some 46, .mov (.t 1), none⟩,
⟨some 47, .mov (.t 2), none⟩,
⟨some 48, .call n_proctorref01_Mul [.t 46, .t 47], none⟩,
⟨some 45, .mov (.t 48), none⟩,
⟨some 49, .ext (.t 45) 0, none⟩,
⟨some 50, .ext (.t 45) 1, none⟩,
⟨some 12, .mov (.t 49), none⟩,
⟨some 13, .mov (.t 50), none⟩]
[6, 12, 13])
(.seq (.reg [⟨some 51, .mov (.t 12), none⟩,
⟨some 52, .mov (.t 13), none⟩,
⟨some 53, .call n_proctorref03_number [.t 51, .t 52], none⟩,
⟨some 54, .ext (.t 53) 0, none⟩,
⟨some 55, .ext (.t 53) 1, none⟩,
⟨none, .store (.t 6) (.t 54) 4, none⟩,
⟨some 7, .mov (.t 55), none⟩]
[6, 7])
.ret))
.skip))
(.seq (.reg [⟨some 57, .mov (.t 1), none⟩,
⟨some 58, .mov (.t 2), none⟩,
⟨some 59, .call n_proctorref01_Div [.t 57, .t 58], none⟩,
⟨some 56, .mov (.t 59), none⟩,
⟨some 60, .ext (.t 56) 0, none⟩,
⟨some 61, .ext (.t 56) 1, none⟩,
⟨some 62, .ext (.t 56) 2, none⟩,
⟨some 14, .mov (.t 60), none⟩,
⟨some 15, .mov (.t 61), none⟩,
⟨some 16, .mov (.t 62), none⟩]
[0, 6, 14, 15, 16])
(.seq (.seq (.reg [⟨some 63, .mov (.t 16), none⟩,
⟨some 64, .bin .eql (.t 63) (.k (.int .i64 7)), none⟩]
[0, 6, 14, 15, 16, 64])
(.cond (.t 64)
(.seq (.reg [⟨some 65, .build [.int .i64 0, .int .i64 0, .str [], .bool false] [], none⟩,
⟨none, .store (.t 6) (.t 65) 4, none⟩,
⟨some 7, .mov (.k (.int .i64 7)), none⟩]
[6, 7])
.ret)
.skip))
(.seq (.seq (.reg [⟨some 66, .mov (.t 0), none⟩,
⟨some 67, .bin .eql (.t 66) (.k (.int .i64 12)), none⟩]
[6, 14, 15, 16, 67])
(.cond (.t 67)
(.seq (.reg [⟨some 68, .mov (.t 15), none⟩,
⟨some 69, .build [.int .i64 0, .int .i64 0, .str [], .bool false] [(0, 1, .k (.int .i64 1)), (1, 1, .t 68)], none⟩,
⟨none, .store (.t 6) (.t 69) 4, none⟩,
⟨some 7, .mov (.k (.int .i64 0)), none⟩]
[6, 7])
.ret)
.skip))
(.seq (.reg [⟨some 70, .mov (.t 14), none⟩,
⟨some 71, .mov (.t 16), none⟩,
⟨some 72, .bin .eql (.t 71) (.k (.int .i64 0)), none⟩,
⟨some 73, .call n_proctorref03_number [.t 70, .t 72], none⟩,
⟨some 74, .ext (.t 73) 0, none⟩,
⟨some 75, .ext (.t 73) 1, none⟩,
⟨none, .store (.t 6) (.t 74) 4, none⟩,
⟨some 7, .mov (.t 75), none⟩]
[6, 7])
.ret))))))))⟩
theorem k_proctorref03_arith : chkF Go.Proofs.Tryd.prog Go.Proofs.Tryd.f73 c_proctorref03_arith = true := by kernel_rfl
theorem pc_proctorref03_arith {G : Nat → Option AV} {args : List AV} {r : AV} (h : Runs Go.Proofs.Tryd.prog G c_proctorref03_arith args r) (hk : args.length = c_proctorref03_arith.k := by rfl) : PureC Go.Proofs.Tryd.prog G n_proctorref03_arith args r := PureC.of_runs (fn := Go.Proofs.Tryd.f73) (A := c_proctorref03_arith) Go.Proofs.Tryd.func73 k_proctorref03_arith hk h
def c_proctorref03_number : AFun := ⟨11, 2, [.cells 4 4, .t 5],
  (.seq (.reg [⟨some 4, .alloc t_api_Value 4 (.agg [.int .i64 0, .int .i64 0, .str [], .bool false]), none⟩,
⟨some 5, .mov (.k (.int .i64 0)), none⟩]
[0, 1, 4])
(.seq (.seq (.reg [⟨some 6, .mov (.t 1), none⟩,
⟨some 7, .un .not (.t 6), none⟩]
[0, 4, 7])
(.cond (.t 7)
(.seq (.reg [⟨some 8, .build [.int .i64 0, .int .i64 0, .str [], .bool false] [], none⟩,
⟨none, .store (.t 4) (.t 8) 4, none⟩,
⟨some 5, .mov (.k (.int .i64 6)), none⟩]
[4, 5])
.ret)
.skip))
(.seq (.reg [⟨some 9, .mov (.t 0), none⟩,
⟨some 10, .build [.int .i64 0, .int .i64 0, .str [], .bool false] [(0, 1, .k (.int .i64 1)), (1, 1, .t 9)], none⟩,
⟨none, .store (.t 4) (.t 10) 4, none⟩,
⟨some 5, .mov (.k (.int .i64 0)), none⟩]
[4, 5])
.ret)))⟩
theorem k_proctorref03_number : chkF Go.Proofs.Tryd.prog Go.Proofs.Tryd.f102 c_proctorref03_number = true := by kernel_rfl
theorem pc_proctorref03_number {G : Nat → Option AV} {args : List AV} {r : AV} (h : Runs Go.Proofs.Tryd.prog G c_proctorref03_number args r) (hk : args.length = c_proctorref03_number.k := by rfl) : PureC Go.Proofs.Tryd.prog G n_proctorref03_number args r := PureC.of_runs (fn := Go.Proofs.Tryd.f102) (A := c_proctorref03_number) Go.Proofs.Tryd.func102 k_proctorref03_number hk h
def c_proctorref03_truth : AFun := ⟨6, 1, [.cells 2 4, .t 3],
  (.seq (.reg [⟨some 2, .alloc t_api_Value 4 (.agg [.int .i64 0, .int .i64 0, .str [], .bool false]), none⟩,
⟨some 3, .mov (.k (.int .i64 0)), none⟩]
[0, 2])
(.seq (.reg [⟨some 4, .mov (.t 0), none⟩,
⟨some 5, .build [.int .i64 0, .int .i64 0, .str [], .bool false] [(0, 1, .k (.int .i64 3)), (3, 1, .t 4)], none⟩,
⟨none, .store (.t 2) (.t 5) 4, none⟩,
⟨some 3, .mov (.k (.int .i64 0)), none⟩]
[2, 3])
.ret))⟩
theorem k_proctorref03_truth : chkF Go.Proofs.Tryd.prog Go.Proofs.Tryd.f72 c_proctorref03_truth = true := by kernel_rfl
theorem pc_proctorref03_truth {G : Nat → Option AV} {args : List AV} {r : AV} (h : Runs Go.Proofs.Tryd.prog G c_proctorref03_truth args r) (hk : args.length = c_proctorref03_truth.k := by rfl) : PureC Go.Proofs.Tryd.prog G n_proctorref03_truth args r := PureC.of_runs (fn := Go.Proofs.Tryd.f72) (A := c_proctorref03_truth) Go.Proofs.Tryd.func72 k_proctorref03_truth hk h
def c_proctorref05_Get : AFun := ⟨26, 2, [.cells 4 4, .t 5],
  (.seq (.reg [⟨some 4, .alloc t_api_Value 4 (.agg [.int .i64 0, .int .i64 0, .str [], .bool false]), none⟩,
⟨some 5, .mov (.k (.bool false)), none⟩]
[0, 1, 4])
(.seq (.seq (.reg [⟨some 6, .mov (.k (.int .i64 0)), none⟩]
[0, 1, 4, 6])
(.block 0
(.loop [0, 1, 4, 6] [4]
  (.seq (.seq (.reg [⟨some 7, .mov (.t 6), none⟩,
⟨some 8, .mov (.t 0), none⟩,
⟨some 9, .len false (.t 8), none⟩,
⟨some 10, .bin .lss (.t 7) (.t 9), none⟩]
[0, 1, 4, 6, 10])
(.cond (.t 10)
.skip
(.exit 0)))
(.seq (.block 1
(.seq (.reg [⟨some 13, .mov (.t 0), none⟩,
⟨some 14, .mov (.t 6), none⟩,
⟨some 15, .iaddr 5 (.t 13) (.t 14), none⟩,
⟨some 16, .faddr (.t 15) 0, none⟩,
⟨some 17, .load (.t 16), none⟩,
⟨some 18, .mov (.t 1), none⟩,
⟨some 19, .bin .eql (.t 17) (.t 18), none⟩]
[0, 1, 4, 6, 19])
(.cond (.t 19)
(.seq (.reg [⟨some 20, .mov (.t 0), none⟩,
⟨some 21, .mov (.t 6), none⟩,
⟨some 22, .iaddr 5 (.t 20) (.t 21), none⟩,
⟨some 23, .faddr (.t 22) 1, none⟩,
⟨some 24, .loadN (.t 23) 4, none⟩,
⟨none, .store (.t 4) (.t 24) 4, none⟩,
⟨some 5, .mov (.k (.bool true)), none⟩]
[4, 5])
.ret)
.skip)))
(.reg [⟨some 11, .mov (.t 6), none⟩,
⟨some 12, .bin .add (.t 11) (.k (.int .i64 1)), none⟩,
⟨some 6, .mov (.t 12), none⟩]
[0, 1, 4, 6]))))))
(.seq (.reg [⟨some 25, .build [.int .i64 0, .int .i64 0, .str [], .bool false] [], none⟩,
⟨none, .store (.t 4) (.t 25) 4, none⟩,
⟨some 5, .mov (.k (.bool false)), none⟩]
[4, 5])
.ret)))⟩
theorem k_proctorref05_Get : chkF Go.Proofs.Tryd.prog Go.Proofs.Tryd.f46 c_proctorref05_Get = true := by kernel_rfl
theorem pc_proctorref05_Get {G : Nat → Option AV} {args : List AV} {r : AV} (h : Runs Go.Proofs.Tryd.prog G c_proctorref05_Get args r) (hk : args.length = c_proctorref05_Get.k := by rfl) : PureC Go.Proofs.Tryd.prog G n_proctorref05_Get args r := PureC.of_runs (fn := Go.Proofs.Tryd.f46) (A := c_proctorref05_Get) Go.Proofs.Tryd.func46 k_proctorref05_Get hk h
def c_proctorref05_Right : AFun := ⟨51, 1, [.t 2],
  (.seq (.reg [⟨some 2, .mov (.k (.bool false)), none⟩]
[0])
(.seq (.seq (.reg [⟨some 3, .mov (.k (.int .i64 0)), none⟩]
[0, 3])
(.block 0
(.loop [0, 3] []
  (.seq (.seq (.reg [⟨some 4, .mov (.t 3), none⟩,
⟨some 5, .mov (.t 0), none⟩,
⟨some 6, .len false (.t 5), none⟩,
⟨some 7, .bin .lss (.t 4) (.t 6), none⟩]
[0, 3, 7])
(.cond (.t 7)
.skip
(.exit 0)))
(.seq (.block 1
(.seq (.dreg [⟨some 10, .mov (.t 0), none⟩,
⟨some 11, .mov (.t 3), none⟩,
⟨some 12, .iaddr 5 (.t 10) (.t 11), none⟩,
⟨some 13, .faddr (.t 12) 0, none⟩,
⟨some 14, .load (.t 13), none⟩,
⟨some 15, .bin .lss (.t 14) (.k (.int .i64 0)), none⟩,
⟨some 16, .mov (.t 15), none⟩,
⟨some 17, .mov (.t 0), (some (16, false))⟩,
⟨some 18, .mov (.t 3), (some (16, false))⟩,
⟨some 19, .iaddr 5 (.t 17) (.t 18), (some (16, false))⟩,
⟨some 20, .faddr (.t 19) 0, (some (16, false))⟩,
⟨some 21, .load (.t 20), (some (16, false))⟩,
⟨some 22, .bin .gtr (.t 21) (.k (.int .i64 7)), (some (16, false))⟩,
⟨some 23, .pick (.t 16) (.k (.bool true)) (.t 22), none⟩,
⟨some 24, .mov (.t 23), none⟩,
⟨some 25, .mov (.t 0), (some (24, false))⟩,
⟨some 26, .mov (.t 3), (some (24, false))⟩,
⟨some 27, .iaddr 5 (.t 25) (.t 26), (some (24, false))⟩,
⟨some 28, .faddr (.t 27) 1, (some (24, false))⟩,
⟨some 29, .loadN (.t 28) 4, (some (24, false))⟩,
⟨some 30, .call n_proctorref03_Right [.t 29], (some (24, false))⟩,
⟨some 31, .un .not (.t 30), (some (24, false))⟩,
⟨some 32, .pick (.t 24) (.k (.bool true)) (.t 31), none⟩,
⟨some 33, .mov (.t 32), none⟩,
⟨some 34, .mov (.t 3), (some (33, false))⟩,
⟨some 35, .bin .gtr (.t 34) (.k (.int .i64 0)), (some (33, false))⟩,
⟨some 36, .mov (.t 35), (some (33, false))⟩,
⟨some 37, .mov (.t 0), (some (36, true))⟩,
⟨some 38, .mov (.t 3), (some (36, true))⟩,
⟨some 39, .iaddr 5 (.t 37) (.t 38), (some (36, true))⟩,
⟨some 40, .faddr (.t 39) 0, (some (36, true))⟩,
⟨some 41, .load (.t 40), (some (36, true))⟩,
⟨some 42, .mov (.t 0), (some (36, true))⟩,
⟨some 43, .mov (.t 3), (some (36, true))⟩,
⟨some 44, .bin .sub (.t 43) (.k (.int .i64 1)), (some (36, true))⟩,
⟨some 45, .iaddr 5 (.t 42) (.t 44), (some (36, true))⟩,
⟨some 46, .faddr (.t 45) 0, (some (36, true))⟩,
⟨some 47, .load (.t 46), (some (36, true))⟩,
⟨some 48, .bin .leq (.t 41) (.t 47), (some (36, true))⟩,
⟨some 49, .pick (.t 36) (.t 48) (.k (.bool false)), (some (33, false))⟩,
⟨some 50, .pick (.t 33) (.k (.bool true)) (.t 49), none⟩]
[0, 3, 50])
(.cond (.t 50)
(.seq (.reg [⟨some 2, .mov (.k (.bool false)), none⟩]
[2])
.ret)
.skip)))
(.reg [⟨some 8, .mov (.t 3), none⟩,
⟨some 9, .bin .add (.t 8) (.k (.int .i64 1)), none⟩,
⟨some 3, .mov (.t 9), none⟩]
[0, 3]))))))
(.seq (.reg [⟨some 2, .mov (.k (.bool true)), none⟩]
[2])
.ret)))⟩
theorem k_proctorref05_Right : chkF Go.Proofs.Tryd.prog Go.Proofs.Tryd.f37 c_proctorref05_Right = true := by kernel_rfl
theorem pc_proctorref05_Right {G : Nat → Option AV} {args : List AV} {r : AV} (h : Runs Go.Proofs.Tryd.prog G c_proctorref05_Right args r) (hk : args.length = c_proctorref05_Right.k := by rfl) : PureC Go.Proofs.Tryd.prog G n_proctorref05_Right args r := PureC.of_runs (fn := Go.Proofs.Tryd.f37) (A := c_proctorref05_Right) Go.Proofs.Tryd.func37 k_proctorref05_Right hk h
def c_proctorref07_Check : AFun := ⟨72, 1, [.t 2, .t 3],
  (.seq (.reg [⟨some 2, .mov (.k (.int .i64 0)), none⟩,
⟨some 3, .mov (.k (.int .i64 0)), none⟩]
[0])
(.seq (.seq (.reg [⟨some 6, .mov (.t 0), none⟩,
⟨some 7, .len false (.t 6), none⟩,
⟨some 8, .bin .gtr (.t 7) (.k (.int .i64 32)), none⟩]
[0, 8])
(.cond (.t 8)
(.seq (.reg [⟨some 2, .mov (.k (.int .i64 14)), none⟩,
⟨some 3, .mov (.k (.int .i64 32)), none⟩]
[2, 3])
.ret)
.skip))
(.seq (.seq (.reg [⟨some 4, .mov (.k (.int .i64 0)), none⟩]
[0, 4])
(.block 0
(.loop [0, 4] [7]
  (.seq (.seq (.reg [⟨some 9, .mov (.t 4), none⟩,
⟨some 10, .mov (.t 0), none⟩,
⟨some 11, .len false (.t 10), none⟩,
⟨some 12, .bin .lss (.t 9) (.t 11), none⟩]
[0, 4, 12])
(.cond (.t 12)
.skip
(.exit 0)))
(.seq (.block 1
(.seq (.seq (.reg [⟨some 15, .mov (.t 0), none⟩,
⟨some 16, .mov (.t 4), none⟩,
⟨some 17, .iaddr 2 (.t 15) (.t 16), none⟩,
⟨some 18, .faddr (.t 17) 0, none⟩,
⟨some 19, .load (.t 18), none⟩,
⟨some 20, .call n_proctorref07_Name [.t 19], none⟩,
⟨some 21, .un .not (.t 20), none⟩]
[0, 4, 21])
(.cond (.t 21)
(.seq (.reg [⟨some 22, .mov (.t 4), none⟩,
⟨some 2, .mov (.k (.int .i64 11)), none⟩,
⟨some 3, .mov (.t 22), none⟩]
[2, 3])
.ret)
.skip))
(.seq (.seq (.reg [⟨some 23, .mov (.t 0), none⟩,
⟨some 24, .mov (.t 0), none⟩,
⟨some 25, .mov (.t 4), none⟩,
⟨some 26, .iaddr 2 (.t 24) (.t 25), none⟩,
⟨some 27, .faddr (.t 26) 0, none⟩,
⟨some 28, .load (.t 27), none⟩,
⟨some 29, .call n_proctorref07_Find [.t 23, .t 28], none⟩,
⟨some 30, .mov (.t 4), none⟩,
⟨some 31, .bin .lss (.t 29) (.t 30), none⟩]
[0, 4, 31])
(.cond (.t 31)
(.seq (.reg [⟨some 32, .mov (.t 4), none⟩,
⟨some 2, .mov (.k (.int .i64 10)), none⟩,
⟨some 3, .mov (.t 32), none⟩]
[2, 3])
.ret)
.skip))
(.seq (.seq (.reg [⟨some 33, .mov (.t 0), none⟩,
⟨some 34, .mov (.t 4), none⟩,
⟨some 35, .iaddr 2 (.t 33) (.t 34), none⟩,
⟨some 36, .faddr (.t 35) 1, none⟩,
⟨some 37, .load (.t 36), none⟩,
⟨some 38, .len false (.t 37), none⟩,
⟨some 39, .bin .gtr (.t 38) (.k (.int .i64 8)), none⟩]
[0, 4, 39])
(.cond (.t 39)
(.seq (.reg [⟨some 40, .mov (.t 4), none⟩,
⟨some 2, .mov (.k (.int .i64 14)), none⟩,
⟨some 3, .mov (.t 40), none⟩]
[2, 3])
.ret)
.skip))
(.seq (.reg [⟨some 5, .mov (.k (.int .i64 0)), none⟩]
[0, 4, 5])
(.block 2
(.loop [0, 4, 5] [7, 11, 20, 29, 38]
  (.seq (.seq (.reg [⟨some 41, .mov (.t 5), none⟩,
⟨some 42, .mov (.t 0), none⟩,
⟨some 43, .mov (.t 4), none⟩,
⟨some 44, .iaddr 2 (.t 42) (.t 43), none⟩,
⟨some 45, .faddr (.t 44) 1, none⟩,
⟨some 46, .load (.t 45), none⟩,
⟨some 47, .len false (.t 46), none⟩,
⟨some 48, .bin .lss (.t 41) (.t 47), none⟩]
[0, 4, 5, 48])
(.cond (.t 48)
.skip
(.exit 2)))
(.seq (.block 3
(.seq (.reg [⟨some 51, .mov (.t 0), none⟩,
⟨some 52, .mov (.t 4), none⟩,
⟨some 53, .iaddr 2 (.t 51) (.t 52), none⟩,
⟨some 54, .faddr (.t 53) 1, none⟩,
⟨some 55, .load (.t 54), none⟩,
⟨some 56, .mov (.t 5), none⟩,
⟨some 57, .iaddr 1 (.t 55) (.t 56), none⟩,
⟨some 58, .load (.t 57), none⟩,
⟨some 59, .bin .lss (.t 58) (.k (.int .i64 1)), none⟩,
⟨some 60, .mov (.t 59), none⟩,
⟨some 61, .mov (.t 0), (some (60, false))⟩,
⟨some 62, .mov (.t 4), (some (60, false))⟩,
⟨some 63, .iaddr 2 (.t 61) (.t 62), (some (60, false))⟩,
⟨some 64, .faddr (.t 63) 1, (some (60, false))⟩,
⟨some 65, .load (.t 64), (some (60, false))⟩,
⟨some 66, .mov (.t 5), (some (60, false))⟩,
⟨some 67, .iaddr 1 (.t 65) (.t 66), (some (60, false))⟩,
⟨some 68, .load (.t 67), (some (60, false))⟩,
⟨some 69, .bin .gtr (.t 68) (.k (.int .i64 3)), (some (60, false))⟩,
⟨some 70, .pick (.t 60) (.k (.bool true)) (.t 69), none⟩]
[0, 4, 5, 70])
(.cond (.t 70)
(.seq (.reg [⟨some 71, .mov (.t 4), none⟩,
⟨some 2, .mov (.k (.int .i64 8)), none⟩,
⟨some 3, .mov (.t 71), none⟩]
[2, 3])
.ret)
.skip)))
(.reg [⟨some 49, .mov (.t 5), none⟩,
⟨some 50, .bin .add (.t 49) (.k (.int .i64 1)), none⟩,
⟨some 5, .mov (.t 50), none⟩]
[0, 4, 5]))))))))))
(.reg [⟨some 13, .mov (.t 4), none⟩,
⟨some 14, .bin .add (.t 13) (.k (.int .i64 1)), none⟩,
⟨some 4, .mov (.t 14), none⟩]
[0, 4]))))))
(.seq (.reg [⟨some 2, .mov (.k (.int .i64 0)), none⟩,
⟨some 3, .mov (.k (.int .i64 (-1))), none⟩]
[2, 3])
.ret))))⟩
theorem k_proctorref07_Check : chkF Go.Proofs.Tryd.prog Go.Proofs.Tryd.f49 c_proctorref07_Check = true := by kernel_rfl
theorem pc_proctorref07_Check {G : Nat → Option AV} {args : List AV} {r : AV} (h : Runs Go.Proofs.Tryd.prog G c_proctorref07_Check args r) (hk : args.length = c_proctorref07_Check.k := by rfl) : PureC Go.Proofs.Tryd.prog G n_proctorref07_Check args r := PureC.of_runs (fn := Go.Proofs.Tryd.f49) (A := c_proctorref07_Check) Go.Proofs.Tryd.func49 k_proctorref07_Check hk h
def c_proctorref07_Find : AFun := ⟨20, 2, [.t 4],
  (.seq (.reg [⟨some 4, .mov (.k (.int .i64 0)), none⟩]
[0, 1])
(.seq (.seq (.reg [⟨some 5, .mov (.k (.int .i64 0)), none⟩]
[0, 1, 5])
(.block 0
(.loop [0, 1, 5] []
  (.seq (.seq (.reg [⟨some 6, .mov (.t 5), none⟩,
⟨some 7, .mov (.t 0), none⟩,
⟨some 8, .len false (.t 7), none⟩,
⟨some 9, .bin .lss (.t 6) (.t 8), none⟩]
[0, 1, 5, 9])
(.cond (.t 9)
.skip
(.exit 0)))
(.seq (.block 1
(.seq (.reg [⟨some 12, .mov (.t 0), none⟩,
⟨some 13, .mov (.t 5), none⟩,
⟨some 14, .iaddr 2 (.t 12) (.t 13), none⟩,
⟨some 15, .faddr (.t 14) 0, none⟩,
⟨some 16, .load (.t 15), none⟩,
⟨some 17, .mov (.t 1), none⟩,
⟨some 18, .bin .eql (.t 16) (.t 17), none⟩]
[0, 1, 5, 18])
(.cond (.t 18)
(.seq (.reg [⟨some 19, .mov (.t 5), none⟩,
⟨some 4, .mov (.t 19), none⟩]
[4])
.ret)
.skip)))
(.reg [⟨some 10, .mov (.t 5), none⟩,
⟨some 11, .bin .add (.t 10) (.k (.int .i64 1)), none⟩,
⟨some 5, .mov (.t 11), none⟩]
[0, 1, 5]))))))
(.seq (.reg [⟨some 4, .mov (.k (.int .i64 (-1))), none⟩]
[4])
.ret)))⟩
theorem k_proctorref07_Find : chkF Go.Proofs.Tryd.prog Go.Proofs.Tryd.f75 c_proctorref07_Find = true := by kernel_rfl
theorem pc_proctorref07_Find {G : Nat → Option AV} {args : List AV} {r : AV} (h : Runs Go.Proofs.Tryd.prog G c_proctorref07_Find args r) (hk : args.length = c_proctorref07_Find.k := by rfl) : PureC Go.Proofs.Tryd.prog G n_proctorref07_Find args r := PureC.of_runs (fn := Go.Proofs.Tryd.f75) (A := c_proctorref07_Find) Go.Proofs.Tryd.func75 k_proctorref07_Find hk h
def c_proctorref07_Name : AFun := ⟨24, 1, [.t 2],
  (.seq (.reg [⟨some 2, .mov (.k (.bool false)), none⟩]
[0])
(.seq (.reg [⟨some 5, .call n_proctorref07_Words [], none⟩,
⟨some 3, .mov (.t 5), none⟩]
[0, 3])
(.seq (.seq (.reg [⟨some 4, .mov (.k (.int .i64 0)), none⟩]
[0, 3, 4])
(.block 0
(.loop [0, 3, 4] [5]
  (.seq (.seq (.reg [⟨some 6, .mov (.t 4), none⟩,
⟨some 7, .mov (.t 3), none⟩,
⟨some 8, .len false (.t 7), none⟩,
⟨some 9, .bin .lss (.t 6) (.t 8), none⟩]
[0, 3, 4, 9])
(.cond (.t 9)
.skip
(.exit 0)))
(.seq (.block 1
(.seq (.reg [⟨some 12, .mov (.t 3), none⟩,
⟨some 13, .mov (.t 4), none⟩,
⟨some 14, .iaddr 1 (.t 12) (.t 13), none⟩,
⟨some 15, .load (.t 14), none⟩,
⟨some 16, .mov (.t 0), none⟩,
⟨some 17, .bin .eql (.t 15) (.t 16), none⟩]
[0, 3, 4, 17])
(.cond (.t 17)
(.seq (.reg [⟨some 2, .mov (.k (.bool false)), none⟩]
[2])
.ret)
.skip)))
(.reg [⟨some 10, .mov (.t 4), none⟩,
⟨some 11, .bin .add (.t 10) (.k (.int .i64 1)), none⟩,
⟨some 4, .mov (.t 11), none⟩]
[0, 3, 4]))))))
(.seq (.reg [⟨some 18, .mov (.t 0), none⟩,
⟨some 19, .call n_proctorref07_Spelt [.t 18], none⟩,
⟨some 20, .mov (.t 19), none⟩,
⟨some 21, .mov (.t 0), (some (20, true))⟩,
⟨some 22, .bin .neq (.t 21) (.k (.str [95])), (some (20, true))⟩,
⟨some 23, .pick (.t 20) (.t 22) (.k (.bool false)), none⟩,
⟨some 2, .mov (.t 23), none⟩]
[2])
.ret))))⟩
theorem k_proctorref07_Name : chkF Go.Proofs.Tryd.prog Go.Proofs.Tryd.f74 c_proctorref07_Name = true := by kernel_rfl
theorem pc_proctorref07_Name {G : Nat → Option AV} {args : List AV} {r : AV} (h : Runs Go.Proofs.Tryd.prog G c_proctorref07_Name args r) (hk : args.length = c_proctorref07_Name.k := by rfl) : PureC Go.Proofs.Tryd.prog G n_proctorref07_Name args r := PureC.of_runs (fn := Go.Proofs.Tryd.f74) (A := c_proctorref07_Name) Go.Proofs.Tryd.func74 k_proctorref07_Name hk h
def c_proctorref07_Spelt : AFun := ⟨55, 1, [.t 2],
  (.seq (.reg [⟨some 2, .mov (.k (.bool false)), none⟩]
[0])
(.seq (.seq (.reg [⟨some 6, .mov (.t 0), none⟩,
⟨some 7, .len true (.t 6), none⟩,
⟨some 8, .bin .lss (.t 7) (.k (.int .i64 1)), none⟩,
⟨some 9, .mov (.t 8), none⟩,
⟨some 10, .mov (.t 0), (some (9, false))⟩,
⟨some 11, .len true (.t 10), (some (9, false))⟩,
⟨some 12, .bin .gtr (.t 11) (.k (.int .i64 32)), (some (9, false))⟩,
⟨some 13, .pick (.t 9) (.k (.bool true)) (.t 12), none⟩]
[0, 13])
(.cond (.t 13)
(.seq (.reg [⟨some 2, .mov (.k (.bool false)), none⟩]
[2])
.ret)
.skip))
(.seq (.seq (.reg [⟨some 3, .mov (.k (.int .i64 0)), none⟩]
[0, 3])
(.block 0
(.loop [0, 3] [7, 11]
  (.seq (.seq (.reg [⟨some 14, .mov (.t 3), none⟩,
⟨some 15, .mov (.t 0), none⟩,
⟨some 16, .len true (.t 15), none⟩,
⟨some 17, .bin .lss (.t 14) (.t 16), none⟩]
[0, 3, 17])
(.cond (.t 17)
.skip
(.exit 0)))
(.seq (.block 1
(.seq (.reg [⟨some 20, .mov (.t 0), none⟩,
⟨some 21, .mov (.t 3), none⟩,
⟨some 22, .idx (.t 20) (.t 21), none⟩,
⟨some 4, .mov (.t 22), none⟩]
[0, 3, 4])
(.seq (.reg [⟨some 23, .mov (.t 4), none⟩,
⟨some 24, .bin .geq (.t 23) (.k (.int .u8 65)), none⟩,
⟨some 25, .mov (.t 24), none⟩,
⟨some 26, .mov (.t 4), (some (25, true))⟩,
⟨some 27, .bin .leq (.t 26) (.k (.int .u8 90)), (some (25, true))⟩,
⟨some 28, .pick (.t 25) (.t 27) (.k (.bool false)), none⟩,
⟨some 29, .mov (.t 28), none⟩,
⟨some 30, .mov (.t 4), (some (29, false))⟩,
⟨some 31, .bin .geq (.t 30) (.k (.int .u8 97)), (some (29, false))⟩,
⟨some 32, .mov (.t 31), (some (29, false))⟩,
⟨some 33, .mov (.t 4), (some (32, true))⟩,
⟨some 34, .bin .leq (.t 33) (.k (.int .u8 122)), (some (32, true))⟩,
⟨some 35, .pick (.t 32) (.t 34) (.k (.bool false)), (some (29, false))⟩,
⟨some 36, .pick (.t 29) (.k (.bool true)) (.t 35), none⟩,
⟨some 37, .mov (.t 36), none⟩,
⟨some 38, .mov (.t 4), (some (37, false))⟩,
⟨some 39, .bin .eql (.t 38) (.k (.int .u8 95)), (some (37, false))⟩,
⟨some 40, .pick (.t 37) (.k (.bool true)) (.t 39), none⟩,
⟨some 5, .mov (.t 40), none⟩]
[0, 3, 4, 5])
(.seq (.reg [⟨some 41, .mov (.t 5), none⟩,
⟨some 42, .un .not (.t 41), none⟩,
⟨some 43, .mov (.t 42), none⟩,
⟨some 44, .mov (.t 3), (some (43, true))⟩,
⟨some 45, .bin .eql (.t 44) (.k (.int .i64 0)), (some (43, true))⟩,
⟨some 46, .mov (.t 45), (some (43, true))⟩,
⟨some 47, .mov (.t 4), (some (46, false))⟩,
⟨some 48, .bin .lss (.t 47) (.k (.int .u8 48)), (some (46, false))⟩,
⟨some 49, .pick (.t 46) (.k (.bool true)) (.t 48), (some (43, true))⟩,
⟨some 50, .mov (.t 49), (some (43, true))⟩,
⟨some 51, .mov (.t 4), (some (50, false))⟩,
⟨some 52, .bin .gtr (.t 51) (.k (.int .u8 57)), (some (50, false))⟩,
⟨some 53, .pick (.t 50) (.k (.bool true)) (.t 52), (some (43, true))⟩,
⟨some 54, .pick (.t 43) (.t 53) (.k (.bool false)), none⟩]
[0, 3, 54])
(.cond (.t 54)
(.seq (.reg [⟨some 2, .mov (.k (.bool false)), none⟩]
[2])
.ret)
.skip)))))
(.reg [⟨some 18, .mov (.t 3), none⟩,
⟨some 19, .bin .add (.t 18) (.k (.int .i64 1)), none⟩,
⟨some 3, .mov (.t 19), none⟩]
[0, 3]))))))
(.seq (.reg [⟨some 2, .mov (.k (.bool true)), none⟩]
[2])
.ret))))⟩
theorem k_proctorref07_Spelt : chkF Go.Proofs.Tryd.prog Go.Proofs.Tryd.f107 c_proctorref07_Spelt = true := by kernel_rfl
theorem pc_proctorref07_Spelt {G : Nat → Option AV} {args : List AV} {r : AV} (h : Runs Go.Proofs.Tryd.prog G c_proctorref07_Spelt args r) (hk : args.length = c_proctorref07_Spelt.k := by rfl) : PureC Go.Proofs.Tryd.prog G n_proctorref07_Spelt args r := PureC.of_runs (fn := Go.Proofs.Tryd.f107) (A := c_proctorref07_Spelt) Go.Proofs.Tryd.func107 k_proctorref07_Spelt hk h
def c_proctorref07_Words : AFun := ⟨2, 0, [.t 0],
  (.seq (.reg [⟨some 0, .nilrow t_string 1, none⟩]
[])
(.seq (.reg [⟨some 1, .mkrow t_string 1 22 (.str []) [(0, .k (.str [97, 99, 99, 101, 112, 116])), (1, .k (.str [97, 108, 115, 111])), (2, .k (.str [97, 110, 100])), (3, .k (.str [98, 111, 111, 108])), (4, .k (.str [100, 111])), (5, .k (.str [101, 118, 101, 110, 116])), (6, .k (.str [101, 120, 105, 115, 116, 115])), (7, .k (.str [102, 97, 108, 115, 101])), (8, .k (.str [102, 111, 114, 97, 108, 108])), (9, .k (.str [102, 114, 101, 101])), (10, .k (.str [105, 102])), (11, .k (.str [105, 110, 116])), (12, .k (.str [110, 101, 120, 116])), (13, .k (.str [110, 111, 116])), (14, .k (.str [111, 110])), (15, .k (.str [111, 114])), (16, .k (.str [113, 101, 97])), (17, .k (.str [115, 107, 105, 112])), (18, .k (.str [115, 116, 97, 114, 116])), (19, .k (.str [115, 116, 114, 105, 110, 103])), (20, .k (.str [116, 111])), (21, .k (.str [116, 114, 117, 101]))], none⟩,
⟨some 0, .mov (.t 1), none⟩]
[0])
.ret))⟩
theorem k_proctorref07_Words : chkF Go.Proofs.Tryd.prog Go.Proofs.Tryd.f106 c_proctorref07_Words = true := by kernel_rfl
theorem pc_proctorref07_Words {G : Nat → Option AV} {args : List AV} {r : AV} (h : Runs Go.Proofs.Tryd.prog G c_proctorref07_Words args r) (hk : args.length = c_proctorref07_Words.k := by rfl) : PureC Go.Proofs.Tryd.prog G n_proctorref07_Words args r := PureC.of_runs (fn := Go.Proofs.Tryd.f106) (A := c_proctorref07_Words) Go.Proofs.Tryd.func106 k_proctorref07_Words hk h
def c_proctorref13_Few : AFun := ⟨166, 1, [.t 2],
  (.seq (.reg [⟨some 1, .box t_api_Qea 9 (.t 0), none⟩,
⟨some 2, .mov (.k (.int .i64 0)), none⟩]
[1])
(.seq (.seq (.reg [⟨some 9, .faddr (.t 1) 1, none⟩,
⟨some 10, .load (.t 9), none⟩,
⟨some 11, .len false (.t 10), none⟩,
⟨some 12, .bin .gtr (.t 11) (.k (.int .i64 12)), none⟩,
⟨some 13, .mov (.t 12), none⟩,
⟨some 14, .faddr (.t 1) 2, (some (13, false))⟩,
⟨some 15, .load (.t 14), (some (13, false))⟩,
⟨some 16, .len false (.t 15), (some (13, false))⟩,
⟨some 17, .bin .gtr (.t 16) (.k (.int .i64 9)), (some (13, false))⟩,
⟨some 18, .pick (.t 13) (.k (.bool true)) (.t 17), none⟩,
⟨some 19, .mov (.t 18), none⟩,
⟨some 20, .faddr (.t 1) 3, (some (19, false))⟩,
⟨some 21, .load (.t 20), (some (19, false))⟩,
⟨some 22, .len false (.t 21), (some (19, false))⟩,
⟨some 23, .bin .gtr (.t 22) (.k (.int .i64 12)), (some (19, false))⟩,
⟨some 24, .pick (.t 19) (.k (.bool true)) (.t 23), none⟩,
⟨some 25, .mov (.t 24), none⟩,
⟨some 26, .faddr (.t 1) 4, (some (25, false))⟩,
⟨some 27, .load (.t 26), (some (25, false))⟩,
⟨some 28, .len false (.t 27), (some (25, false))⟩,
⟨some 29, .bin .gtr (.t 28) (.k (.int .i64 12)), (some (25, false))⟩,
⟨some 30, .pick (.t 25) (.k (.bool true)) (.t 29), none⟩,
⟨some 31, .mov (.t 30), none⟩,
⟨some 32, .faddr (.t 1) 6, (some (31, false))⟩,
⟨some 33, .load (.t 32), (some (31, false))⟩,
⟨some 34, .len false (.t 33), (some (31, false))⟩,
⟨some 35, .bin .gtr (.t 34) (.k (.int .i64 12)), (some (31, false))⟩,
⟨some 36, .pick (.t 31) (.k (.bool true)) (.t 35), none⟩,
⟨some 37, .mov (.t 36), none⟩,
⟨some 38, .faddr (.t 1) 8, (some (37, false))⟩,
⟨some 39, .load (.t 38), (some (37, false))⟩,
⟨some 40, .len false (.t 39), (some (37, false))⟩,
⟨some 41, .bin .gtr (.t 40) (.k (.int .i64 12)), (some (37, false))⟩,
⟨some 42, .pick (.t 37) (.k (.bool true)) (.t 41), none⟩,
⟨some 43, .mov (.t 42), none⟩,
⟨some 44, .faddr (.t 1) 7, (some (43, false))⟩,
⟨some 45, .load (.t 44), (some (43, false))⟩,
⟨some 46, .len false (.t 45), (some (43, false))⟩,
⟨some 47, .bin .gtr (.t 46) (.k (.int .i64 40)), (some (43, false))⟩,
⟨some 48, .pick (.t 43) (.k (.bool true)) (.t 47), none⟩,
⟨some 49, .mov (.t 48), none⟩,
⟨some 50, .faddr (.t 1) 0, (some (49, false))⟩,
⟨some 51, .load (.t 50), (some (49, false))⟩,
⟨some 52, .len true (.t 51), (some (49, false))⟩,
⟨some 53, .bin .gtr (.t 52) (.k (.int .i64 100)), (some (49, false))⟩,
⟨some 54, .pick (.t 49) (.k (.bool true)) (.t 53), none⟩]
[1, 54])
(.cond (.t 54)
(.seq (.reg [⟨some 2, .mov (.k (.int .i64 0)), none⟩]
[2])
.ret)
.skip))
(.seq (.seq (.reg [⟨some 3, .mov (.k (.int .i64 0)), none⟩]
[1, 3])
(.block 0
(.loop [1, 3] [1, 11, 16, 22, 28, 34, 40, 46, 52]
  (.seq (.seq (.reg [⟨some 55, .mov (.t 3), none⟩,
⟨some 56, .faddr (.t 1) 1, none⟩,
⟨some 57, .load (.t 56), none⟩,
⟨some 58, .len false (.t 57), none⟩,
⟨some 59, .bin .lss (.t 55) (.t 58), none⟩]
[1, 3, 59])
(.cond (.t 59)
.skip
(.exit 0)))
(.seq (.block 1
(.seq (.reg [⟨some 62, .faddr (.t 1) 1, none⟩,
⟨some 63, .load (.t 62), none⟩,
⟨some 64, .mov (.t 3), none⟩,
⟨some 65, .iaddr 2 (.t 63) (.t 64), none⟩,
⟨some 66, .faddr (.t 65) 1, none⟩,
⟨some 67, .load (.t 66), none⟩,
⟨some 68, .len false (.t 67), none⟩,
⟨some 69, .bin .gtr (.t 68) (.k (.int .i64 12)), none⟩,
⟨some 70, .mov (.t 69), none⟩,
⟨some 71, .faddr (.t 1) 1, (some (70, false))⟩,
⟨some 72, .load (.t 71), (some (70, false))⟩,
⟨some 73, .mov (.t 3), (some (70, false))⟩,
⟨some 74, .iaddr 2 (.t 72) (.t 73), (some (70, false))⟩,
⟨some 75, .faddr (.t 74) 0, (some (70, false))⟩,
⟨some 76, .load (.t 75), (some (70, false))⟩,
⟨some 77, .len true (.t 76), (some (70, false))⟩,
⟨some 78, .bin .gtr (.t 77) (.k (.int .i64 100)), (some (70, false))⟩,
⟨some 79, .pick (.t 70) (.k (.bool true)) (.t 78), none⟩]
[1, 3, 79])
(.cond (.t 79)
(.seq (.reg [⟨some 2, .mov (.k (.int .i64 0)), none⟩]
[2])
.ret)
.skip)))
(.reg [⟨some 60, .mov (.t 3), none⟩,
⟨some 61, .bin .add (.t 60) (.k (.int .i64 1)), none⟩,
⟨some 3, .mov (.t 61), none⟩]
[1, 3]))))))
(.seq (.seq (.reg [⟨some 4, .mov (.k (.int .i64 0)), none⟩]
[1, 4])
(.block 2
(.loop [1, 4] [1, 11, 16, 22, 28, 34, 40, 46, 52, 58, 68, 77]
  (.seq (.seq (.reg [⟨some 80, .mov (.t 4), none⟩,
⟨some 81, .faddr (.t 1) 6, none⟩,
⟨some 82, .load (.t 81), none⟩,
⟨some 83, .len false (.t 82), none⟩,
⟨some 84, .bin .lss (.t 80) (.t 83), none⟩]
[1, 4, 84])
(.cond (.t 84)
.skip
(.exit 2)))
(.seq (.block 3
(.seq (.seq (.reg [⟨some 87, .faddr (.t 1) 6, none⟩,
⟨some 88, .load (.t 87), none⟩,
⟨some 89, .mov (.t 4), none⟩,
⟨some 90, .iaddr 2 (.t 88) (.t 89), none⟩,
⟨some 91, .faddr (.t 90) 1, none⟩,
⟨some 92, .load (.t 91), none⟩,
⟨some 93, .len false (.t 92), none⟩,
⟨some 94, .bin .gtr (.t 93) (.k (.int .i64 12)), none⟩]
[1, 4, 94])
(.cond (.t 94)
(.seq (.reg [⟨some 2, .mov (.k (.int .i64 0)), none⟩]
[2])
.ret)
.skip))
(.seq (.reg [⟨some 5, .mov (.k (.int .i64 0)), none⟩]
[1, 4, 5])
(.block 4
(.loop [1, 4, 5] [1, 11, 16, 22, 28, 34, 40, 46, 52, 58, 68, 77, 83, 93]
  (.seq (.seq (.reg [⟨some 95, .mov (.t 5), none⟩,
⟨some 96, .faddr (.t 1) 6, none⟩,
⟨some 97, .load (.t 96), none⟩,
⟨some 98, .mov (.t 4), none⟩,
⟨some 99, .iaddr 2 (.t 97) (.t 98), none⟩,
⟨some 100, .faddr (.t 99) 1, none⟩,
⟨some 101, .load (.t 100), none⟩,
⟨some 102, .len false (.t 101), none⟩,
⟨some 103, .bin .lss (.t 95) (.t 102), none⟩]
[1, 4, 5, 103])
(.cond (.t 103)
.skip
(.exit 4)))
(.seq (.block 5
(.seq (.reg [⟨some 106, .faddr (.t 1) 6, none⟩,
⟨some 107, .load (.t 106), none⟩,
⟨some 108, .mov (.t 4), none⟩,
⟨some 109, .iaddr 2 (.t 107) (.t 108), none⟩,
⟨some 110, .faddr (.t 109) 1, none⟩,
⟨some 111, .load (.t 110), none⟩,
⟨some 112, .mov (.t 5), none⟩,
⟨some 113, .iaddr 6 (.t 111) (.t 112), none⟩,
⟨some 114, .faddr (.t 113) 2, none⟩,
⟨some 115, .faddr (.t 114) 2, none⟩,
⟨some 116, .load (.t 115), none⟩,
⟨some 117, .len true (.t 116), none⟩,
⟨some 118, .bin .gtr (.t 117) (.k (.int .i64 100)), none⟩]
[1, 4, 5, 118])
(.cond (.t 118)
(.seq (.reg [⟨some 2, .mov (.k (.int .i64 0)), none⟩]
[2])
.ret)
.skip)))
(.reg [⟨some 104, .mov (.t 5), none⟩,
⟨some 105, .bin .add (.t 104) (.k (.int .i64 1)), none⟩,
⟨some 5, .mov (.t 105), none⟩]
[1, 4, 5]))))))))
(.reg [⟨some 85, .mov (.t 4), none⟩,
⟨some 86, .bin .add (.t 85) (.k (.int .i64 1)), none⟩,
⟨some 4, .mov (.t 86), none⟩]
[1, 4]))))))
(.seq (.seq (.reg [⟨some 6, .mov (.k (.int .i64 0)), none⟩]
[1, 6])
(.block 6
(.loop [1, 6] [1, 11, 16, 22, 28, 34, 40, 46, 52, 58, 68, 77, 83, 93, 102, 117]
  (.seq (.seq (.reg [⟨some 119, .mov (.t 6), none⟩,
⟨some 120, .faddr (.t 1) 3, none⟩,
⟨some 121, .load (.t 120), none⟩,
⟨some 122, .len false (.t 121), none⟩,
⟨some 123, .bin .lss (.t 119) (.t 122), none⟩]
[1, 6, 123])
(.cond (.t 123)
.skip
(.exit 6)))
(.seq (.block 7
(.seq (.reg [⟨some 126, .faddr (.t 1) 3, none⟩,
⟨some 127, .load (.t 126), none⟩,
⟨some 128, .mov (.t 6), none⟩,
⟨some 129, .iaddr 5 (.t 127) (.t 128), none⟩,
⟨some 130, .faddr (.t 129) 1, none⟩,
⟨some 131, .faddr (.t 130) 2, none⟩,
⟨some 132, .load (.t 131), none⟩,
⟨some 133, .len true (.t 132), none⟩,
⟨some 134, .bin .gtr (.t 133) (.k (.int .i64 100)), none⟩]
[1, 6, 134])
(.cond (.t 134)
(.seq (.reg [⟨some 2, .mov (.k (.int .i64 0)), none⟩]
[2])
.ret)
.skip)))
(.reg [⟨some 124, .mov (.t 6), none⟩,
⟨some 125, .bin .add (.t 124) (.k (.int .i64 1)), none⟩,
⟨some 6, .mov (.t 125), none⟩]
[1, 6]))))))
(.seq (.seq (.reg [⟨some 7, .mov (.k (.int .i64 0)), none⟩]
[1, 7])
(.block 8
(.loop [1, 7] [1, 11, 16, 22, 28, 34, 40, 46, 52, 58, 68, 77, 83, 93, 102, 117, 122, 133]
  (.seq (.seq (.reg [⟨some 135, .mov (.t 7), none⟩,
⟨some 136, .faddr (.t 1) 7, none⟩,
⟨some 137, .load (.t 136), none⟩,
⟨some 138, .len false (.t 137), none⟩,
⟨some 139, .bin .lss (.t 135) (.t 138), none⟩]
[1, 7, 139])
(.cond (.t 139)
.skip
(.exit 8)))
(.seq (.block 9
(.seq (.reg [⟨some 142, .faddr (.t 1) 7, none⟩,
⟨some 143, .load (.t 142), none⟩,
⟨some 144, .mov (.t 7), none⟩,
⟨some 145, .iaddr 7 (.t 143) (.t 144), none⟩,
⟨some 146, .faddr (.t 145) 3, none⟩,
⟨some 147, .faddr (.t 146) 2, none⟩,
⟨some 148, .load (.t 147), none⟩,
⟨some 149, .len true (.t 148), none⟩,
⟨some 150, .bin .gtr (.t 149) (.k (.int .i64 100)), none⟩]
[1, 7, 150])
(.cond (.t 150)
(.seq (.reg [⟨some 2, .mov (.k (.int .i64 0)), none⟩]
[2])
.ret)
.skip)))
(.reg [⟨some 140, .mov (.t 7), none⟩,
⟨some 141, .bin .add (.t 140) (.k (.int .i64 1)), none⟩,
⟨some 7, .mov (.t 141), none⟩]
[1, 7]))))))
(.seq (.seq (.reg [⟨some 8, .mov (.k (.int .i64 0)), none⟩]
[1, 8])
(.block 10
(.loop [1, 8] [1, 11, 16, 22, 28, 34, 40, 46, 52, 58, 68, 77, 83, 93, 102, 117, 122, 133, 138, 149]
  (.seq (.seq (.reg [⟨some 151, .mov (.t 8), none⟩,
⟨some 152, .faddr (.t 1) 8, none⟩,
⟨some 153, .load (.t 152), none⟩,
⟨some 154, .len false (.t 153), none⟩,
⟨some 155, .bin .lss (.t 151) (.t 154), none⟩]
[1, 8, 155])
(.cond (.t 155)
.skip
(.exit 10)))
(.seq (.block 11
(.seq (.reg [⟨some 158, .faddr (.t 1) 8, none⟩,
⟨some 159, .load (.t 158), none⟩,
⟨some 160, .mov (.t 8), none⟩,
⟨some 161, .iaddr 5 (.t 159) (.t 160), none⟩,
⟨some 162, .faddr (.t 161) 4, none⟩,
⟨some 163, .load (.t 162), none⟩,
⟨some 164, .len false (.t 163), none⟩,
⟨some 165, .bin .gtr (.t 164) (.k (.int .i64 12)), none⟩]
[1, 8, 165])
(.cond (.t 165)
(.seq (.reg [⟨some 2, .mov (.k (.int .i64 0)), none⟩]
[2])
.ret)
.skip)))
(.reg [⟨some 156, .mov (.t 8), none⟩,
⟨some 157, .bin .add (.t 156) (.k (.int .i64 1)), none⟩,
⟨some 8, .mov (.t 157), none⟩]
[1, 8]))))))
(.seq (.reg [⟨some 2, .mov (.k (.int .i64 1)), none⟩]
[2])
.ret))))))))⟩
theorem k_proctorref13_Few : chkF Go.Proofs.Tryd.prog Go.Proofs.Tryd.f23 c_proctorref13_Few = true := by kernel_rfl
theorem pc_proctorref13_Few {G : Nat → Option AV} {args : List AV} {r : AV} (h : Runs Go.Proofs.Tryd.prog G c_proctorref13_Few args r) (hk : args.length = c_proctorref13_Few.k := by rfl) : PureC Go.Proofs.Tryd.prog G n_proctorref13_Few args r := PureC.of_runs (fn := Go.Proofs.Tryd.f23) (A := c_proctorref13_Few) Go.Proofs.Tryd.func23 k_proctorref13_Few hk h
def c_proctorref13_Kind : AFun := ⟨27, 3, [.t 6, .t 7],
  (.seq (.reg [⟨some 3, .box t_api_Qea 9 (.t 0), none⟩,
⟨some 6, .mov (.k (.int .i64 0)), none⟩,
⟨some 7, .mov (.k (.int .i64 0)), none⟩]
[1, 2, 3])
(.seq (.reg [⟨some 12, .loadN (.t 3) 9, none⟩,
⟨some 13, .mov (.t 2), none⟩,
⟨some 14, .call n_proctorref13_below [.t 12, .t 13], none⟩,
⟨some 11, .mov (.t 14), none⟩,
⟨some 15, .ext (.t 11) 0, none⟩,
⟨some 16, .ext (.t 11) 1, none⟩,
⟨some 17, .ext (.t 11) 2, none⟩,
⟨some 8, .mov (.t 15), none⟩,
⟨some 9, .mov (.t 16), none⟩,
⟨some 10, .mov (.t 17), none⟩]
[1, 8, 9, 10])
(.seq (.seq (.reg [⟨some 18, .mov (.t 8), none⟩,
⟨some 19, .bin .eql (.t 18) (.k (.int .i64 0)), none⟩,
⟨some 20, .mov (.t 19), none⟩,
⟨some 21, .mov (.t 10), (some (20, false))⟩,
⟨some 22, .mov (.t 1), (some (20, false))⟩,
⟨some 23, .bin .neq (.t 21) (.t 22), (some (20, false))⟩,
⟨some 24, .pick (.t 20) (.k (.bool true)) (.t 23), none⟩]
[8, 9, 24])
(.cond (.t 24)
(.seq (.reg [⟨some 6, .mov (.k (.int .i64 0)), none⟩,
⟨some 7, .mov (.k (.int .i64 0)), none⟩]
[6, 7])
.ret)
.skip))
(.seq (.reg [⟨some 25, .mov (.t 8), none⟩,
⟨some 26, .mov (.t 9), none⟩,
⟨some 6, .mov (.t 25), none⟩,
⟨some 7, .mov (.t 26), none⟩]
[6, 7])
.ret))))⟩
theorem k_proctorref13_Kind : chkF Go.Proofs.Tryd.prog Go.Proofs.Tryd.f77 c_proctorref13_Kind = true := by kernel_rfl
theorem pc_proctorref13_Kind {G : Nat → Option AV} {args : List AV} {r : AV} (h : Runs Go.Proofs.Tryd.prog G c_proctorref13_Kind args r) (hk : args.length = c_proctorref13_Kind.k := by rfl) : PureC Go.Proofs.Tryd.prog G n_proctorref13_Kind args r := PureC.of_runs (fn := Go.Proofs.Tryd.f77) (A := c_proctorref13_Kind) Go.Proofs.Tryd.func77 k_proctorref13_Kind hk h
def c_proctorref13_Names : AFun := ⟨30, 2, [.t 4],
  (.seq (.reg [⟨some 2, .box t_api_Symbol 2 (.t 0), none⟩,
⟨some 4, .mov (.k (.bool false)), none⟩]
[1, 2])
(.seq (.seq (.reg [⟨some 5, .mov (.k (.int .i64 0)), none⟩]
[1, 2, 5])
(.block 0
(.loop [1, 2, 5] [2]
  (.seq (.seq (.reg [⟨some 6, .mov (.t 5), none⟩,
⟨some 7, .faddr (.t 2) 1, none⟩,
⟨some 8, .load (.t 7), none⟩,
⟨some 9, .len false (.t 8), none⟩,
⟨some 10, .bin .lss (.t 6) (.t 9), none⟩]
[1, 2, 5, 10])
(.cond (.t 10)
.skip
(.exit 0)))
(.seq (.block 1
(.seq (.reg [⟨some 13, .faddr (.t 2) 1, none⟩,
⟨some 14, .load (.t 13), none⟩,
⟨some 15, .mov (.t 5), none⟩,
⟨some 16, .iaddr 6 (.t 14) (.t 15), none⟩,
⟨some 17, .faddr (.t 16) 0, none⟩,
⟨some 18, .load (.t 17), none⟩,
⟨some 19, .bin .eql (.t 18) (.k (.int .i64 2)), none⟩,
⟨some 20, .mov (.t 19), none⟩,
⟨some 21, .faddr (.t 2) 1, (some (20, true))⟩,
⟨some 22, .load (.t 21), (some (20, true))⟩,
⟨some 23, .mov (.t 5), (some (20, true))⟩,
⟨some 24, .iaddr 6 (.t 22) (.t 23), (some (20, true))⟩,
⟨some 25, .faddr (.t 24) 1, (some (20, true))⟩,
⟨some 26, .load (.t 25), (some (20, true))⟩,
⟨some 27, .mov (.t 1), (some (20, true))⟩,
⟨some 28, .bin .eql (.t 26) (.t 27), (some (20, true))⟩,
⟨some 29, .pick (.t 20) (.t 28) (.k (.bool false)), none⟩]
[1, 2, 5, 29])
(.cond (.t 29)
(.seq (.reg [⟨some 4, .mov (.k (.bool true)), none⟩]
[4])
.ret)
.skip)))
(.reg [⟨some 11, .mov (.t 5), none⟩,
⟨some 12, .bin .add (.t 11) (.k (.int .i64 1)), none⟩,
⟨some 5, .mov (.t 12), none⟩]
[1, 2, 5]))))))
(.seq (.reg [⟨some 4, .mov (.k (.bool false)), none⟩]
[4])
.ret)))⟩
theorem k_proctorref13_Names : chkF Go.Proofs.Tryd.prog Go.Proofs.Tryd.f81 c_proctorref13_Names = true := by kernel_rfl
theorem pc_proctorref13_Names {G : Nat → Option AV} {args : List AV} {r : AV} (h : Runs Go.Proofs.Tryd.prog G c_proctorref13_Names args r) (hk : args.length = c_proctorref13_Names.k := by rfl) : PureC Go.Proofs.Tryd.prog G n_proctorref13_Names args r := PureC.of_runs (fn := Go.Proofs.Tryd.f81) (A := c_proctorref13_Names) Go.Proofs.Tryd.func81 k_proctorref13_Names hk h
def c_proctorref13_Right : AFun := ⟨101, 1, [.t 2],
  (.seq (.reg [⟨some 1, .box t_api_Qea 9 (.t 0), none⟩,
⟨some 2, .mov (.k (.bool false)), none⟩]
[1])
(.seq (.reg [⟨some 10, .faddr (.t 1) 1, none⟩,
⟨some 11, .load (.t 10), none⟩,
⟨some 12, .call n_proctorref07_Check [.t 11], none⟩,
⟨some 9, .mov (.t 12), none⟩,
⟨some 13, .ext (.t 9) 0, none⟩,
⟨some 14, .ext (.t 9) 1, none⟩,
⟨some 3, .mov (.t 13), none⟩,
⟨some 4, .mov (.t 14), none⟩]
[1, 3])
(.seq (.seq (.reg [⟨some 15, .mov (.t 3), none⟩,
⟨some 16, .bin .neq (.t 15) (.k (.int .i64 0)), none⟩,
⟨some 17, .mov (.t 16), none⟩,
⟨some 18, .faddr (.t 1) 2, (some (17, false))⟩,
⟨some 19, .load (.t 18), (some (17, false))⟩,
⟨some 20, .len false (.t 19), (some (17, false))⟩,
⟨some 21, .bin .gtr (.t 20) (.k (.int .i64 8)), (some (17, false))⟩,
⟨some 22, .pick (.t 17) (.k (.bool true)) (.t 21), none⟩,
⟨some 23, .mov (.t 22), none⟩,
⟨some 24, .faddr (.t 1) 3, (some (23, false))⟩,
⟨some 25, .load (.t 24), (some (23, false))⟩,
⟨some 26, .len false (.t 25), (some (23, false))⟩,
⟨some 27, .bin .gtr (.t 26) (.k (.int .i64 16)), (some (23, false))⟩,
⟨some 28, .pick (.t 23) (.k (.bool true)) (.t 27), none⟩,
⟨some 29, .mov (.t 28), none⟩,
⟨some 30, .faddr (.t 1) 4, (some (29, false))⟩,
⟨some 31, .load (.t 30), (some (29, false))⟩,
⟨some 32, .len false (.t 31), (some (29, false))⟩,
⟨some 33, .bin .gtr (.t 32) (.k (.int .i64 32)), (some (29, false))⟩,
⟨some 34, .pick (.t 29) (.k (.bool true)) (.t 33), none⟩,
⟨some 35, .mov (.t 34), none⟩,
⟨some 36, .faddr (.t 1) 6, (some (35, false))⟩,
⟨some 37, .load (.t 36), (some (35, false))⟩,
⟨some 38, .len false (.t 37), (some (35, false))⟩,
⟨some 39, .bin .gtr (.t 38) (.k (.int .i64 64)), (some (35, false))⟩,
⟨some 40, .pick (.t 35) (.k (.bool true)) (.t 39), none⟩,
⟨some 41, .mov (.t 40), none⟩,
⟨some 42, .faddr (.t 1) 7, (some (41, false))⟩,
⟨some 43, .load (.t 42), (some (41, false))⟩,
⟨some 44, .len false (.t 43), (some (41, false))⟩,
⟨some 45, .bin .gtr (.t 44) (.k (.int .i64 2048)), (some (41, false))⟩,
⟨some 46, .pick (.t 41) (.k (.bool true)) (.t 45), none⟩,
⟨some 47, .mov (.t 46), none⟩,
⟨some 48, .faddr (.t 1) 8, (some (47, false))⟩,
⟨some 49, .load (.t 48), (some (47, false))⟩,
⟨some 50, .len false (.t 49), (some (47, false))⟩,
⟨some 51, .bin .gtr (.t 50) (.k (.int .i64 256)), (some (47, false))⟩,
⟨some 52, .pick (.t 47) (.k (.bool true)) (.t 51), none⟩,
⟨some 53, .mov (.t 52), none⟩,
⟨some 54, .faddr (.t 1) 5, (some (53, false))⟩,
⟨some 55, .load (.t 54), (some (53, false))⟩,
⟨some 56, .bin .lss (.t 55) (.k (.int .i64 0)), (some (53, false))⟩,
⟨some 57, .pick (.t 53) (.k (.bool true)) (.t 56), none⟩,
⟨some 58, .mov (.t 57), none⟩,
⟨some 59, .faddr (.t 1) 5, (some (58, false))⟩,
⟨some 60, .load (.t 59), (some (58, false))⟩,
⟨some 61, .faddr (.t 1) 4, (some (58, false))⟩,
⟨some 62, .load (.t 61), (some (58, false))⟩,
⟨some 63, .len false (.t 62), (some (58, false))⟩,
⟨some 64, .bin .geq (.t 60) (.t 63), (some (58, false))⟩,
⟨some 65, .pick (.t 58) (.k (.bool true)) (.t 64), none⟩,
⟨some 66, .mov (.t 65), none⟩,
⟨some 67, .loadN (.t 1) 9, (some (66, false))⟩,
⟨some 68, .call n_proctorref13_names [.t 67], (some (66, false))⟩,
⟨some 69, .un .not (.t 68), (some (66, false))⟩,
⟨some 70, .pick (.t 66) (.k (.bool true)) (.t 69), none⟩]
[1, 70])
(.cond (.t 70)
(.seq (.reg [⟨some 2, .mov (.k (.bool false)), none⟩]
[2])
.ret)
.skip))
(.seq (.reg [⟨some 5, .mov (.k (.int .i64 0)), none⟩]
[1, 5])
(.seq (.seq (.reg [⟨some 6, .mov (.k (.int .i64 0)), none⟩]
[1, 5, 6])
(.block 0
(.loop [1, 5, 6] [1, 12, 20, 26, 32, 38, 44, 50, 63, 68]
  (.seq (.seq (.reg [⟨some 71, .mov (.t 6), none⟩,
⟨some 72, .faddr (.t 1) 8, none⟩,
⟨some 73, .load (.t 72), none⟩,
⟨some 74, .len false (.t 73), none⟩,
⟨some 75, .bin .lss (.t 71) (.t 74), none⟩]
[1, 5, 6, 75])
(.cond (.t 75)
.skip
(.exit 0)))
(.seq (.block 1
(.seq (.dreg [⟨some 79, .loadN (.t 1) 9, none⟩,
⟨some 80, .faddr (.t 1) 8, none⟩,
⟨some 81, .load (.t 80), none⟩,
⟨some 82, .mov (.t 6), none⟩,
⟨some 83, .iaddr 5 (.t 81) (.t 82), none⟩,
⟨some 84, .loadN (.t 83) 5, none⟩,
⟨some 85, .mov (.t 5), none⟩,
⟨some 86, .call n_proctorref13_trans [.t 79, .t 84, .t 85], none⟩,
⟨some 78, .mov (.t 86), none⟩,
⟨some 87, .ext (.t 78) 0, none⟩,
⟨some 88, .ext (.t 78) 1, none⟩,
⟨some 7, .mov (.t 87), none⟩,
⟨some 8, .mov (.t 88), none⟩]
[1, 6, 7, 8])
(.seq (.seq (.reg [⟨some 89, .mov (.t 8), none⟩,
⟨some 90, .un .not (.t 89), none⟩]
[1, 6, 7, 90])
(.cond (.t 90)
(.seq (.reg [⟨some 2, .mov (.k (.bool false)), none⟩]
[2])
.ret)
.skip))
(.reg [⟨some 91, .mov (.t 7), none⟩,
⟨some 5, .mov (.t 91), none⟩]
[1, 5, 6]))))
(.reg [⟨some 76, .mov (.t 6), none⟩,
⟨some 77, .bin .add (.t 76) (.k (.int .i64 1)), none⟩,
⟨some 6, .mov (.t 77), none⟩]
[1, 5, 6]))))))
(.seq (.reg [⟨some 92, .mov (.t 5), none⟩,
⟨some 93, .faddr (.t 1) 7, none⟩,
⟨some 94, .load (.t 93), none⟩,
⟨some 95, .len false (.t 94), none⟩,
⟨some 96, .bin .eql (.t 92) (.t 95), none⟩,
⟨some 97, .mov (.t 96), none⟩,
⟨some 98, .loadN (.t 1) 9, (some (97, true))⟩,
⟨some 99, .call n_proctorref13_symbols [.t 98], (some (97, true))⟩,
⟨some 100, .pick (.t 97) (.t 99) (.k (.bool false)), none⟩,
⟨some 2, .mov (.t 100), none⟩]
[2])
.ret))))))⟩
theorem k_proctorref13_Right : chkF Go.Proofs.Tryd.prog Go.Proofs.Tryd.f24 c_proctorref13_Right = true := by kernel_rfl
theorem pc_proctorref13_Right {G : Nat → Option AV} {args : List AV} {r : AV} (h : Runs Go.Proofs.Tryd.prog G c_proctorref13_Right args r) (hk : args.length = c_proctorref13_Right.k := by rfl) : PureC Go.Proofs.Tryd.prog G n_proctorref13_Right args r := PureC.of_runs (fn := Go.Proofs.Tryd.f24) (A := c_proctorref13_Right) Go.Proofs.Tryd.func24 k_proctorref13_Right hk h
def c_proctorref13_SameSymbol : AFun := ⟨38, 2, [.t 4],
  (.seq (.reg [⟨some 2, .box t_api_Symbol 2 (.t 0), none⟩,
⟨some 3, .box t_api_Symbol 2 (.t 1), none⟩,
⟨some 4, .mov (.k (.bool false)), none⟩]
[2, 3])
(.seq (.seq (.reg [⟨some 6, .faddr (.t 2) 0, none⟩,
⟨some 7, .load (.t 6), none⟩,
⟨some 8, .faddr (.t 3) 0, none⟩,
⟨some 9, .load (.t 8), none⟩,
⟨some 10, .bin .neq (.t 7) (.t 9), none⟩,
⟨some 11, .mov (.t 10), none⟩,
⟨some 12, .faddr (.t 2) 1, (some (11, false))⟩,
⟨some 13, .load (.t 12), (some (11, false))⟩,
⟨some 14, .len false (.t 13), (some (11, false))⟩,
⟨some 15, .faddr (.t 3) 1, (some (11, false))⟩,
⟨some 16, .load (.t 15), (some (11, false))⟩,
⟨some 17, .len false (.t 16), (some (11, false))⟩,
⟨some 18, .bin .neq (.t 14) (.t 17), (some (11, false))⟩,
⟨some 19, .pick (.t 11) (.k (.bool true)) (.t 18), none⟩]
[2, 3, 19])
(.cond (.t 19)
(.seq (.reg [⟨some 4, .mov (.k (.bool false)), none⟩]
[4])
.ret)
.skip))
(.seq (.seq (.reg [⟨some 5, .mov (.k (.int .i64 0)), none⟩]
[2, 3, 5])
(.block 0
(.loop [2, 3, 5] [2, 3, 14, 17]
  (.seq (.seq (.reg [⟨some 20, .mov (.t 5), none⟩,
⟨some 21, .faddr (.t 2) 1, none⟩,
⟨some 22, .load (.t 21), none⟩,
⟨some 23, .len false (.t 22), none⟩,
⟨some 24, .bin .lss (.t 20) (.t 23), none⟩]
[2, 3, 5, 24])
(.cond (.t 24)
.skip
(.exit 0)))
(.seq (.block 1
(.seq (.dreg [⟨some 27, .faddr (.t 2) 1, none⟩,
⟨some 28, .load (.t 27), none⟩,
⟨some 29, .mov (.t 5), none⟩,
⟨some 30, .iaddr 6 (.t 28) (.t 29), none⟩,
⟨some 31, .loadN (.t 30) 6, none⟩,
⟨some 32, .faddr (.t 3) 1, none⟩,
⟨some 33, .load (.t 32), none⟩,
⟨some 34, .mov (.t 5), none⟩,
⟨some 35, .iaddr 6 (.t 33) (.t 34), none⟩,
⟨some 36, .loadN (.t 35) 6, none⟩,
⟨some 37, .eqA true [0, 0, 0, 0, 1, 2] (.t 31) (.t 36), none⟩]
[2, 3, 5, 37])
(.cond (.t 37)
(.seq (.reg [⟨some 4, .mov (.k (.bool false)), none⟩]
[4])
.ret)
.skip)))
(.reg [⟨some 25, .mov (.t 5), none⟩,
⟨some 26, .bin .add (.t 25) (.k (.int .i64 1)), none⟩,
⟨some 5, .mov (.t 26), none⟩]
[2, 3, 5]))))))
(.seq (.reg [⟨some 4, .mov (.k (.bool true)), none⟩]
[4])
.ret))))⟩
theorem k_proctorref13_SameSymbol : chkF Go.Proofs.Tryd.prog Go.Proofs.Tryd.f80 c_proctorref13_SameSymbol = true := by kernel_rfl
theorem pc_proctorref13_SameSymbol {G : Nat → Option AV} {args : List AV} {r : AV} (h : Runs Go.Proofs.Tryd.prog G c_proctorref13_SameSymbol args r) (hk : args.length = c_proctorref13_SameSymbol.k := by rfl) : PureC Go.Proofs.Tryd.prog G n_proctorref13_SameSymbol args r := PureC.of_runs (fn := Go.Proofs.Tryd.f80) (A := c_proctorref13_SameSymbol) Go.Proofs.Tryd.func80 k_proctorref13_SameSymbol hk h
def c_proctorref13_Type : AFun := ⟨31, 3, [.t 6],
  (.seq (.reg [⟨some 6, .mov (.k (.int .i64 0)), none⟩]
[0, 1, 2])
(.seq (.seq (.reg [⟨some 9, .mov (.t 1), none⟩,
⟨some 10, .bin .lss (.t 9) (.k (.int .i64 1)), none⟩,
⟨some 11, .mov (.t 10), none⟩,
⟨some 12, .mov (.t 1), (some (11, false))⟩,
⟨some 13, .mov (.t 2), (some (11, false))⟩,
⟨some 14, .bin .neq (.t 12) (.t 13), (some (11, false))⟩,
⟨some 15, .pick (.t 11) (.k (.bool true)) (.t 14), none⟩]
[0, 1, 2, 15])
(.cond (.t 15)
(.seq (.reg [⟨some 6, .mov (.k (.int .i64 0)), none⟩]
[6])
.ret)
.skip))
(.seq (.reg [⟨some 17, .mov (.t 0), none⟩,
⟨some 18, .mov (.t 1), none⟩,
⟨some 19, .build [.int .i64 0, .int .i64 0, .str [], .bool false] [(0, 1, .t 18)], none⟩,
⟨some 20, .mov (.t 2), none⟩,
⟨some 21, .build [.int .i64 0, .int .i64 0, .str [], .bool false] [(0, 1, .t 20)], none⟩,
⟨some 22, .call n_proctorref03_Op [.t 17, .t 19, .t 21], none⟩,
⟨some 16, .mov (.t 22), none⟩,
⟨some 23, .ext (.t 16) 0, none⟩,
⟨some 24, .ext (.t 16) 1, none⟩,
⟨some 7, .alloc t_api_Value 4 (.agg [.int .i64 0, .int .i64 0, .str [], .bool false]), none⟩,
⟨none, .store (.t 7) (.t 23) 4, none⟩,
⟨some 8, .mov (.t 24), none⟩]
[7, 8])
(.seq (.seq (.reg [⟨some 25, .mov (.t 8), none⟩,
⟨some 26, .bin .eql (.t 25) (.k (.int .i64 7)), none⟩]
[7, 8, 26])
(.cond (.t 26)
(.seq (.reg [⟨some 6, .mov (.k (.int .i64 1)), none⟩]
[6])
.ret)
.skip))
(.seq (.seq (.reg [⟨some 27, .mov (.t 8), none⟩,
⟨some 28, .bin .neq (.t 27) (.k (.int .i64 0)), none⟩]
[7, 28])
(.cond (.t 28)
(.seq (.reg [⟨some 6, .mov (.k (.int .i64 0)), none⟩]
[6])
.ret)
.skip))
(.seq (.reg [⟨some 29, .faddr (.t 7) 0, none⟩,
⟨some 30, .load (.t 29), none⟩,
⟨some 6, .mov (.t 30), none⟩]
[6])
.ret))))))⟩
theorem k_proctorref13_Type : chkF Go.Proofs.Tryd.prog Go.Proofs.Tryd.f123 c_proctorref13_Type = true := by kernel_rfl
theorem pc_proctorref13_Type {G : Nat → Option AV} {args : List AV} {r : AV} (h : Runs Go.Proofs.Tryd.prog G c_proctorref13_Type args r) (hk : args.length = c_proctorref13_Type.k := by rfl) : PureC Go.Proofs.Tryd.prog G n_proctorref13_Type args r := PureC.of_runs (fn := Go.Proofs.Tryd.f123) (A := c_proctorref13_Type) Go.Proofs.Tryd.func123 k_proctorref13_Type hk h
def c_proctorref13_arg : AFun := ⟨90, 3, [.t 6],
  (.seq (.reg [⟨some 3, .box t_api_Qea 9 (.t 0), none⟩,
⟨some 4, .box t_api_Arg 6 (.t 1), none⟩,
⟨some 6, .mov (.k (.bool false)), none⟩]
[2, 3, 4])
(.seq (.reg [⟨some 8, .build [.int .i64 0, .int .i64 0, .str [], .bool false] [], none⟩,
⟨some 7, .alloc t_api_Value 4 (.agg [.int .i64 0, .int .i64 0, .str [], .bool false]), none⟩,
⟨none, .store (.t 7) (.t 8) 4, none⟩]
[2, 3, 4, 7])
(.seq (.seq (.reg [⟨some 9, .faddr (.t 4) 0, none⟩,
⟨some 10, .load (.t 9), none⟩,
⟨some 11, .bin .eql (.t 10) (.k (.int .i64 1)), none⟩]
[2, 3, 4, 7, 11])
(.cond (.t 11)
(.seq (.reg [⟨some 12, .faddr (.t 4) 1, none⟩,
⟨some 13, .load (.t 12), none⟩,
⟨some 14, .bin .eql (.t 13) (.k (.int .i64 0)), none⟩,
⟨some 15, .mov (.t 14), none⟩,
⟨some 16, .faddr (.t 4) 2, (some (15, true))⟩,
⟨some 17, .loadN (.t 16) 4, (some (15, true))⟩,
⟨some 18, .call n_proctorref03_Right [.t 17], (some (15, true))⟩,
⟨some 19, .pick (.t 15) (.t 18) (.k (.bool false)), none⟩,
⟨some 20, .mov (.t 19), none⟩,
⟨some 21, .faddr (.t 4) 2, (some (20, true))⟩,
⟨some 22, .faddr (.t 21) 0, (some (20, true))⟩,
⟨some 23, .load (.t 22), (some (20, true))⟩,
⟨some 24, .mov (.t 2), (some (20, true))⟩,
⟨some 25, .bin .eql (.t 23) (.t 24), (some (20, true))⟩,
⟨some 26, .pick (.t 20) (.t 25) (.k (.bool false)), none⟩,
⟨some 6, .mov (.t 26), none⟩]
[6])
.ret)
.skip))
(.seq (.seq (.reg [⟨some 27, .faddr (.t 4) 2, none⟩,
⟨some 28, .loadN (.t 27) 4, none⟩,
⟨some 29, .loadN (.t 7) 4, none⟩,
⟨some 30, .eqA true [0, 0, 1, 2] (.t 28) (.t 29), none⟩]
[2, 3, 4, 30])
(.cond (.t 30)
(.seq (.reg [⟨some 6, .mov (.k (.bool false)), none⟩]
[6])
.ret)
.skip))
(.seq (.seq (.reg [⟨some 31, .faddr (.t 4) 0, none⟩,
⟨some 32, .load (.t 31), none⟩,
⟨some 33, .bin .eql (.t 32) (.k (.int .i64 2)), none⟩]
[2, 3, 4, 33])
(.cond (.t 33)
(.seq (.reg [⟨some 34, .faddr (.t 4) 1, none⟩,
⟨some 35, .load (.t 34), none⟩,
⟨some 36, .bin .geq (.t 35) (.k (.int .i64 0)), none⟩,
⟨some 37, .mov (.t 36), none⟩,
⟨some 38, .faddr (.t 4) 1, (some (37, true))⟩,
⟨some 39, .load (.t 38), (some (37, true))⟩,
⟨some 40, .faddr (.t 3) 2, (some (37, true))⟩,
⟨some 41, .load (.t 40), (some (37, true))⟩,
⟨some 42, .len false (.t 41), (some (37, true))⟩,
⟨some 43, .bin .lss (.t 39) (.t 42), (some (37, true))⟩,
⟨some 44, .pick (.t 37) (.t 43) (.k (.bool false)), none⟩,
⟨some 45, .mov (.t 44), none⟩,
⟨some 46, .faddr (.t 3) 2, (some (45, true))⟩,
⟨some 47, .load (.t 46), (some (45, true))⟩,
⟨some 48, .faddr (.t 4) 1, (some (45, true))⟩,
⟨some 49, .load (.t 48), (some (45, true))⟩,
⟨some 50, .iaddr 3 (.t 47) (.t 49), (some (45, true))⟩,
⟨some 51, .faddr (.t 50) 2, (some (45, true))⟩,
⟨some 52, .load (.t 51), (some (45, true))⟩,
⟨some 53, .mov (.t 2), (some (45, true))⟩,
⟨some 54, .bin .eql (.t 52) (.t 53), (some (45, true))⟩,
⟨some 55, .pick (.t 45) (.t 54) (.k (.bool false)), none⟩,
⟨some 6, .mov (.t 55), none⟩]
[6])
.ret)
.skip))
(.seq (.seq (.reg [⟨some 56, .faddr (.t 4) 0, none⟩,
⟨some 57, .load (.t 56), none⟩,
⟨some 58, .bin .eql (.t 57) (.k (.int .i64 3)), none⟩]
[2, 3, 4, 58])
(.cond (.t 58)
(.seq (.reg [⟨some 59, .faddr (.t 4) 1, none⟩,
⟨some 60, .load (.t 59), none⟩,
⟨some 61, .bin .geq (.t 60) (.k (.int .i64 0)), none⟩,
⟨some 62, .mov (.t 61), none⟩,
⟨some 63, .faddr (.t 4) 1, (some (62, true))⟩,
⟨some 64, .load (.t 63), (some (62, true))⟩,
⟨some 65, .faddr (.t 3) 3, (some (62, true))⟩,
⟨some 66, .load (.t 65), (some (62, true))⟩,
⟨some 67, .len false (.t 66), (some (62, true))⟩,
⟨some 68, .bin .lss (.t 64) (.t 67), (some (62, true))⟩,
⟨some 69, .pick (.t 62) (.t 68) (.k (.bool false)), none⟩,
⟨some 70, .mov (.t 69), none⟩,
⟨some 71, .faddr (.t 3) 3, (some (70, true))⟩,
⟨some 72, .load (.t 71), (some (70, true))⟩,
⟨some 73, .faddr (.t 4) 1, (some (70, true))⟩,
⟨some 74, .load (.t 73), (some (70, true))⟩,
⟨some 75, .iaddr 5 (.t 72) (.t 74), (some (70, true))⟩,
⟨some 76, .faddr (.t 75) 1, (some (70, true))⟩,
⟨some 77, .faddr (.t 76) 0, (some (70, true))⟩,
⟨some 78, .load (.t 77), (some (70, true))⟩,
⟨some 79, .mov (.t 2), (some (70, true))⟩,
⟨some 80, .bin .eql (.t 78) (.t 79), (some (70, true))⟩,
⟨some 81, .pick (.t 70) (.t 80) (.k (.bool false)), none⟩,
⟨some 6, .mov (.t 81), none⟩]
[6])
.ret)
.skip))
(.seq (.reg [⟨some 82, .faddr (.t 4) 0, none⟩,
⟨some 83, .load (.t 82), none⟩,
⟨some 84, .bin .eql (.t 83) (.k (.int .i64 4)), none⟩,
⟨some 85, .mov (.t 84), none⟩,
⟨some 86, .faddr (.t 4) 1, (some (85, true))⟩,
⟨some 87, .load (.t 86), (some (85, true))⟩,
⟨some 88, .bin .eql (.t 87) (.k (.int .i64 0)), (some (85, true))⟩,
⟨some 89, .pick (.t 85) (.t 88) (.k (.bool false)), none⟩,
⟨some 6, .mov (.t 89), none⟩]
[6])
.ret)))))))⟩
theorem k_proctorref13_arg : chkF Go.Proofs.Tryd.prog Go.Proofs.Tryd.f109 c_proctorref13_arg = true := by kernel_rfl
theorem pc_proctorref13_arg {G : Nat → Option AV} {args : List AV} {r : AV} (h : Runs Go.Proofs.Tryd.prog G c_proctorref13_arg args r) (hk : args.length = c_proctorref13_arg.k := by rfl) : PureC Go.Proofs.Tryd.prog G n_proctorref13_arg args r := PureC.of_runs (fn := Go.Proofs.Tryd.f109) (A := c_proctorref13_arg) Go.Proofs.Tryd.func109 k_proctorref13_arg hk h
def c_proctorref13_below : AFun := ⟨185, 2, [.t 4, .t 5, .t 6],
  (.seq (.reg [⟨some 2, .box t_api_Qea 9 (.t 0), none⟩,
⟨some 4, .mov (.k (.int .i64 0)), none⟩,
⟨some 5, .mov (.k (.int .i64 0)), none⟩,
⟨some 6, .mov (.k (.int .i64 0)), none⟩]
[1, 2])
(.seq (.seq (.reg [⟨some 15, .mov (.t 1), none⟩,
⟨some 16, .bin .lss (.t 15) (.k (.int .i64 0)), none⟩,
⟨some 17, .mov (.t 16), none⟩,
⟨some 18, .mov (.t 1), (some (17, false))⟩,
⟨some 19, .faddr (.t 2) 7, (some (17, false))⟩,
⟨some 20, .load (.t 19), (some (17, false))⟩,
⟨some 21, .len false (.t 20), (some (17, false))⟩,
⟨some 22, .bin .geq (.t 18) (.t 21), (some (17, false))⟩,
⟨some 23, .pick (.t 17) (.k (.bool true)) (.t 22), none⟩]
[1, 2, 23])
(.cond (.t 23)
(.seq (.reg [⟨some 4, .mov (.k (.int .i64 0)), none⟩,
⟨some 5, .mov (.k (.int .i64 0)), none⟩,
⟨some 6, .mov (.k (.int .i64 0)), none⟩]
[4, 5, 6])
.ret)
.skip))
(.seq (.reg [⟨some 24, .faddr (.t 2) 7, none⟩,
⟨some 25, .load (.t 24), none⟩,
⟨some 26, .mov (.t 1), none⟩,
⟨some 27, .iaddr 7 (.t 25) (.t 26), none⟩,
⟨some 28, .loadN (.t 27) 7, none⟩,
⟨some 7, .alloc t_api_Node 7 (.agg [.int .i64 0, .int .i64 0, .int .i64 0, .int .i64 0, .int .i64 0, .str [], .bool false]), none⟩,
⟨none, .store (.t 7) (.t 28) 7, none⟩]
[1, 2, 7])
(.seq (.reg [⟨some 29, .build [.int .i64 0, .int .i64 0, .str [], .bool false] [], none⟩,
⟨some 8, .alloc t_api_Value 4 (.agg [.int .i64 0, .int .i64 0, .str [], .bool false]), none⟩,
⟨none, .store (.t 8) (.t 29) 4, none⟩]
[1, 2, 7, 8])
(.seq (.seq (.reg [⟨some 30, .faddr (.t 7) 0, none⟩,
⟨some 31, .load (.t 30), none⟩,
⟨some 32, .bin .eql (.t 31) (.k (.int .i64 1)), none⟩]
[1, 2, 7, 8, 32])
(.cond (.t 32)
(.seq (.seq (.reg [⟨some 33, .faddr (.t 7) 1, none⟩,
⟨some 34, .load (.t 33), none⟩,
⟨some 35, .bin .neq (.t 34) (.k (.int .i64 0)), none⟩,
⟨some 36, .mov (.t 35), none⟩,
⟨some 37, .faddr (.t 7) 2, (some (36, false))⟩,
⟨some 38, .load (.t 37), (some (36, false))⟩,
⟨some 39, .bin .neq (.t 38) (.k (.int .i64 0)), (some (36, false))⟩,
⟨some 40, .pick (.t 36) (.k (.bool true)) (.t 39), none⟩,
⟨some 41, .mov (.t 40), none⟩,
⟨some 42, .faddr (.t 7) 3, (some (41, false))⟩,
⟨some 43, .loadN (.t 42) 4, (some (41, false))⟩,
⟨some 44, .call n_proctorref03_Right [.t 43], (some (41, false))⟩,
⟨some 45, .un .not (.t 44), (some (41, false))⟩,
⟨some 46, .pick (.t 41) (.k (.bool true)) (.t 45), none⟩]
[1, 7, 46])
(.cond (.t 46)
(.seq (.reg [⟨some 4, .mov (.k (.int .i64 0)), none⟩,
⟨some 5, .mov (.k (.int .i64 0)), none⟩,
⟨some 6, .mov (.k (.int .i64 0)), none⟩]
[4, 5, 6])
.ret)
.skip))
(.seq (.reg [⟨some 47, .faddr (.t 7) 3, none⟩,
⟨some 48, .faddr (.t 47) 0, none⟩,
⟨some 49, .load (.t 48), none⟩,
⟨some 50, .mov (.t 1), none⟩,
⟨some 4, .mov (.t 49), none⟩,
⟨some 5, .mov (.k (.int .i64 1)), none⟩,
⟨some 6, .mov (.t 50), none⟩]
[4, 5, 6])
.ret))
.skip))
(.seq (.seq (.reg [⟨some 51, .faddr (.t 7) 3, none⟩,
⟨some 52, .loadN (.t 51) 4, none⟩,
⟨some 53, .loadN (.t 8) 4, none⟩,
⟨some 54, .eqA true [0, 0, 1, 2] (.t 52) (.t 53), none⟩]
[1, 2, 7, 54])
(.cond (.t 54)
(.seq (.reg [⟨some 4, .mov (.k (.int .i64 0)), none⟩,
⟨some 5, .mov (.k (.int .i64 0)), none⟩,
⟨some 6, .mov (.k (.int .i64 0)), none⟩]
[4, 5, 6])
.ret)
.skip))
(.seq (.seq (.reg [⟨some 55, .faddr (.t 7) 0, none⟩,
⟨some 56, .load (.t 55), none⟩,
⟨some 57, .bin .eql (.t 56) (.k (.int .i64 2)), none⟩]
[1, 2, 7, 57])
(.cond (.t 57)
(.seq (.seq (.reg [⟨some 58, .faddr (.t 7) 1, none⟩,
⟨some 59, .load (.t 58), none⟩,
⟨some 60, .bin .lss (.t 59) (.k (.int .i64 0)), none⟩,
⟨some 61, .mov (.t 60), none⟩,
⟨some 62, .faddr (.t 7) 1, (some (61, false))⟩,
⟨some 63, .load (.t 62), (some (61, false))⟩,
⟨some 64, .faddr (.t 2) 2, (some (61, false))⟩,
⟨some 65, .load (.t 64), (some (61, false))⟩,
⟨some 66, .len false (.t 65), (some (61, false))⟩,
⟨some 67, .bin .geq (.t 63) (.t 66), (some (61, false))⟩,
⟨some 68, .pick (.t 61) (.k (.bool true)) (.t 67), none⟩,
⟨some 69, .mov (.t 68), none⟩,
⟨some 70, .faddr (.t 7) 2, (some (69, false))⟩,
⟨some 71, .load (.t 70), (some (69, false))⟩,
⟨some 72, .bin .neq (.t 71) (.k (.int .i64 0)), (some (69, false))⟩,
⟨some 73, .pick (.t 69) (.k (.bool true)) (.t 72), none⟩]
[1, 2, 7, 73])
(.cond (.t 73)
(.seq (.reg [⟨some 4, .mov (.k (.int .i64 0)), none⟩,
⟨some 5, .mov (.k (.int .i64 0)), none⟩,
⟨some 6, .mov (.k (.int .i64 0)), none⟩]
[4, 5, 6])
.ret)
.skip))
(.seq (.reg [⟨some 74, .faddr (.t 2) 2, none⟩,
⟨some 75, .load (.t 74), none⟩,
⟨some 76, .faddr (.t 7) 1, none⟩,
⟨some 77, .load (.t 76), none⟩,
⟨some 78, .iaddr 3 (.t 75) (.t 77), none⟩,
⟨some 79, .faddr (.t 78) 2, none⟩,
⟨some 80, .load (.t 79), none⟩,
⟨some 81, .mov (.t 1), none⟩,
⟨some 4, .mov (.t 80), none⟩,
⟨some 5, .mov (.k (.int .i64 1)), none⟩,
⟨some 6, .mov (.t 81), none⟩]
[4, 5, 6])
.ret))
.skip))
(.seq (.seq (.reg [⟨some 82, .faddr (.t 7) 0, none⟩,
⟨some 83, .load (.t 82), none⟩,
⟨some 84, .bin .eql (.t 83) (.k (.int .i64 3)), none⟩]
[1, 2, 7, 84])
(.cond (.t 84)
(.seq (.seq (.reg [⟨some 85, .faddr (.t 7) 1, none⟩,
⟨some 86, .load (.t 85), none⟩,
⟨some 87, .bin .lss (.t 86) (.k (.int .i64 0)), none⟩,
⟨some 88, .mov (.t 87), none⟩,
⟨some 89, .faddr (.t 7) 1, (some (88, false))⟩,
⟨some 90, .load (.t 89), (some (88, false))⟩,
⟨some 91, .faddr (.t 2) 3, (some (88, false))⟩,
⟨some 92, .load (.t 91), (some (88, false))⟩,
⟨some 93, .len false (.t 92), (some (88, false))⟩,
⟨some 94, .bin .geq (.t 90) (.t 93), (some (88, false))⟩,
⟨some 95, .pick (.t 88) (.k (.bool true)) (.t 94), none⟩,
⟨some 96, .mov (.t 95), none⟩,
⟨some 97, .faddr (.t 7) 2, (some (96, false))⟩,
⟨some 98, .load (.t 97), (some (96, false))⟩,
⟨some 99, .bin .neq (.t 98) (.k (.int .i64 0)), (some (96, false))⟩,
⟨some 100, .pick (.t 96) (.k (.bool true)) (.t 99), none⟩]
[1, 2, 7, 100])
(.cond (.t 100)
(.seq (.reg [⟨some 4, .mov (.k (.int .i64 0)), none⟩,
⟨some 5, .mov (.k (.int .i64 0)), none⟩,
⟨some 6, .mov (.k (.int .i64 0)), none⟩]
[4, 5, 6])
.ret)
.skip))
(.seq (.reg [⟨some 101, .faddr (.t 2) 3, none⟩,
⟨some 102, .load (.t 101), none⟩,
⟨some 103, .faddr (.t 7) 1, none⟩,
⟨some 104, .load (.t 103), none⟩,
⟨some 105, .iaddr 5 (.t 102) (.t 104), none⟩,
⟨some 106, .faddr (.t 105) 1, none⟩,
⟨some 107, .faddr (.t 106) 0, none⟩,
⟨some 108, .load (.t 107), none⟩,
⟨some 109, .mov (.t 1), none⟩,
⟨some 4, .mov (.t 108), none⟩,
⟨some 5, .mov (.k (.int .i64 1)), none⟩,
⟨some 6, .mov (.t 109), none⟩]
[4, 5, 6])
.ret))
.skip))
(.seq (.seq (.reg [⟨some 110, .faddr (.t 7) 0, none⟩,
⟨some 111, .load (.t 110), none⟩,
⟨some 112, .bin .lss (.t 111) (.k (.int .i64 4)), none⟩,
⟨some 113, .mov (.t 112), none⟩,
⟨some 114, .faddr (.t 7) 0, (some (113, false))⟩,
⟨some 115, .load (.t 114), (some (113, false))⟩,
⟨some 116, .bin .gtr (.t 115) (.k (.int .i64 16)), (some (113, false))⟩,
⟨some 117, .pick (.t 113) (.k (.bool true)) (.t 116), none⟩]
[1, 2, 7, 117])
(.cond (.t 117)
(.seq (.reg [⟨some 4, .mov (.k (.int .i64 0)), none⟩,
⟨some 5, .mov (.k (.int .i64 0)), none⟩,
⟨some 6, .mov (.k (.int .i64 0)), none⟩]
[4, 5, 6])
.ret)
.skip))
(.seq (.reg [⟨some 119, .loadN (.t 2) 9, none⟩,
⟨some 120, .mov (.t 1), none⟩,
⟨some 121, .bin .sub (.t 120) (.k (.int .i64 1)), none⟩,
⟨some 122, .call n_proctorref13_below [.t 119, .t 121], none⟩,
⟨some 118, .mov (.t 122), none⟩,
⟨some 123, .ext (.t 118) 0, none⟩,
⟨some 124, .ext (.t 118) 1, none⟩,
⟨some 125, .ext (.t 118) 2, none⟩,
⟨some 9, .mov (.t 123), none⟩,
⟨some 10, .mov (.t 124), none⟩,
⟨some 11, .mov (.t 125), none⟩]
[1, 2, 7, 9, 10, 11])
(.seq (.seq (.reg [⟨some 126, .faddr (.t 7) 0, none⟩,
⟨some 127, .load (.t 126), none⟩,
⟨some 128, .bin .leq (.t 127) (.k (.int .i64 5)), none⟩]
[1, 2, 7, 9, 10, 11, 128])
(.cond (.t 128)
(.seq (.seq (.reg [⟨some 129, .mov (.t 9), none⟩,
⟨some 130, .bin .eql (.t 129) (.k (.int .i64 0)), none⟩,
⟨some 131, .mov (.t 130), none⟩,
⟨some 132, .faddr (.t 7) 1, (some (131, false))⟩,
⟨some 133, .load (.t 132), (some (131, false))⟩,
⟨some 134, .mov (.t 1), (some (131, false))⟩,
⟨some 135, .bin .sub (.t 134) (.k (.int .i64 1)), (some (131, false))⟩,
⟨some 136, .bin .neq (.t 133) (.t 135), (some (131, false))⟩,
⟨some 137, .pick (.t 131) (.k (.bool true)) (.t 136), none⟩,
⟨some 138, .mov (.t 137), none⟩,
⟨some 139, .faddr (.t 7) 2, (some (138, false))⟩,
⟨some 140, .load (.t 139), (some (138, false))⟩,
⟨some 141, .bin .neq (.t 140) (.k (.int .i64 0)), (some (138, false))⟩,
⟨some 142, .pick (.t 138) (.k (.bool true)) (.t 141), none⟩]
[7, 9, 10, 11, 142])
(.cond (.t 142)
(.seq (.reg [⟨some 4, .mov (.k (.int .i64 0)), none⟩,
⟨some 5, .mov (.k (.int .i64 0)), none⟩,
⟨some 6, .mov (.k (.int .i64 0)), none⟩]
[4, 5, 6])
.ret)
.skip))
(.seq (.reg [⟨some 143, .faddr (.t 7) 0, none⟩,
⟨some 144, .load (.t 143), none⟩,
⟨some 145, .mov (.t 9), none⟩,
⟨some 146, .mov (.t 9), none⟩,
⟨some 147, .call n_proctorref13_Type [.t 144, .t 145, .t 146], none⟩,
⟨some 148, .mov (.t 10), none⟩,
⟨some 149, .bin .add (.t 148) (.k (.int .i64 1)), none⟩,
⟨some 150, .mov (.t 11), none⟩,
⟨some 4, .mov (.t 147), none⟩,
⟨some 5, .mov (.t 149), none⟩,
⟨some 6, .mov (.t 150), none⟩]
[4, 5, 6])
.ret))
.skip))
(.seq (.seq (.reg [⟨some 151, .mov (.t 9), none⟩,
⟨some 152, .bin .eql (.t 151) (.k (.int .i64 0)), none⟩,
⟨some 153, .mov (.t 152), none⟩,
⟨some 154, .faddr (.t 7) 2, (some (153, false))⟩,
⟨some 155, .load (.t 154), (some (153, false))⟩,
⟨some 156, .mov (.t 1), (some (153, false))⟩,
⟨some 157, .bin .sub (.t 156) (.k (.int .i64 1)), (some (153, false))⟩,
⟨some 158, .bin .neq (.t 155) (.t 157), (some (153, false))⟩,
⟨some 159, .pick (.t 153) (.k (.bool true)) (.t 158), none⟩,
⟨some 160, .mov (.t 159), none⟩,
⟨some 161, .faddr (.t 7) 1, (some (160, false))⟩,
⟨some 162, .load (.t 161), (some (160, false))⟩,
⟨some 163, .mov (.t 11), (some (160, false))⟩,
⟨some 164, .bin .sub (.t 163) (.k (.int .i64 1)), (some (160, false))⟩,
⟨some 165, .bin .neq (.t 162) (.t 164), (some (160, false))⟩,
⟨some 166, .pick (.t 160) (.k (.bool true)) (.t 165), none⟩]
[2, 7, 9, 10, 11, 166])
(.cond (.t 166)
(.seq (.reg [⟨some 4, .mov (.k (.int .i64 0)), none⟩,
⟨some 5, .mov (.k (.int .i64 0)), none⟩,
⟨some 6, .mov (.k (.int .i64 0)), none⟩]
[4, 5, 6])
.ret)
.skip))
(.seq (.reg [⟨some 168, .loadN (.t 2) 9, none⟩,
⟨some 169, .mov (.t 11), none⟩,
⟨some 170, .bin .sub (.t 169) (.k (.int .i64 1)), none⟩,
⟨some 171, .call n_proctorref13_below [.t 168, .t 170], none⟩,
⟨some 167, .mov (.t 171), none⟩,
⟨some 172, .ext (.t 167) 0, none⟩,
⟨some 173, .ext (.t 167) 1, none⟩,
⟨some 174, .ext (.t 167) 2, none⟩,
⟨some 12, .mov (.t 172), none⟩,
⟨some 13, .mov (.t 173), none⟩,
⟨some 14, .mov (.t 174), none⟩]
[7, 9, 10, 12, 13, 14])
(.seq (.reg [⟨some 175, .faddr (.t 7) 0, none⟩,
⟨some 176, .load (.t 175), none⟩,
⟨some 177, .mov (.t 12), none⟩,
⟨some 178, .mov (.t 9), none⟩,
⟨some 179, .call n_proctorref13_Type [.t 176, .t 177, .t 178], none⟩,
⟨some 180, .mov (.t 10), none⟩,
⟨some 181, .mov (.t 13), none⟩,
⟨some 182, .mx false (.t 180) (.t 181), none⟩,
⟨some 183, .bin .add (.t 182) (.k (.int .i64 1)), none⟩,
⟨some 184, .mov (.t 14), none⟩,
⟨some 4, .mov (.t 179), none⟩,
⟨some 5, .mov (.t 183), none⟩,
⟨some 6, .mov (.t 184), none⟩]
[4, 5, 6])
.ret))))))))))))))⟩
theorem k_proctorref13_below : chkF Go.Proofs.Tryd.prog Go.Proofs.Tryd.f108 c_proctorref13_below = true := by kernel_rfl
theorem pc_proctorref13_below {G : Nat → Option AV} {args : List AV} {r : AV} (h : Runs Go.Proofs.Tryd.prog G c_proctorref13_below args r) (hk : args.length = c_proctorref13_below.k := by rfl) : PureC Go.Proofs.Tryd.prog G n_proctorref13_below args r := PureC.of_runs (fn := Go.Proofs.Tryd.f108) (A := c_proctorref13_below) Go.Proofs.Tryd.func108 k_proctorref13_below hk h
def c_proctorref13_bound : AFun := ⟨34, 4, [.t 8],
  (.seq (.reg [⟨some 4, .box t_api_Qea 9 (.t 0), none⟩,
⟨some 5, .box t_api_Symbol 2 (.t 1), none⟩,
⟨some 8, .mov (.k (.bool false)), none⟩]
[2, 3, 4, 5])
(.seq (.seq (.reg [⟨some 10, .mov (.t 2), none⟩,
⟨some 9, .mov (.t 10), none⟩]
[3, 4, 5, 9])
(.block 0
(.loop [3, 4, 5, 9] [4, 5]
  (.seq (.seq (.reg [⟨some 11, .mov (.t 9), none⟩,
⟨some 12, .mov (.t 3), none⟩,
⟨some 13, .bin .lss (.t 11) (.t 12), none⟩]
[3, 4, 5, 9, 13])
(.cond (.t 13)
.skip
(.exit 0)))
(.seq (.block 1
(.seq (.dreg [⟨some 16, .faddr (.t 4) 7, none⟩,
⟨some 17, .load (.t 16), none⟩,
⟨some 18, .mov (.t 9), none⟩,
⟨some 19, .iaddr 7 (.t 17) (.t 18), none⟩,
⟨some 20, .faddr (.t 19) 0, none⟩,
⟨some 21, .load (.t 20), none⟩,
⟨some 22, .bin .eql (.t 21) (.k (.int .i64 2)), none⟩,
⟨some 23, .mov (.t 22), none⟩,
⟨some 24, .loadN (.t 5) 2, (some (23, true))⟩,
⟨some 25, .faddr (.t 4) 7, (some (23, true))⟩,
⟨some 26, .load (.t 25), (some (23, true))⟩,
⟨some 27, .mov (.t 9), (some (23, true))⟩,
⟨some 28, .iaddr 7 (.t 26) (.t 27), (some (23, true))⟩,
⟨some 29, .faddr (.t 28) 1, (some (23, true))⟩,
⟨some 30, .load (.t 29), (some (23, true))⟩,
⟨some 31, .call n_proctorref13_Names [.t 24, .t 30], (some (23, true))⟩,
⟨some 32, .un .not (.t 31), (some (23, true))⟩,
⟨some 33, .pick (.t 23) (.t 32) (.k (.bool false)), none⟩]
[3, 4, 5, 9, 33])
(.cond (.t 33)
(.seq (.reg [⟨some 8, .mov (.k (.bool false)), none⟩]
[8])
.ret)
.skip)))
(.reg [⟨some 14, .mov (.t 9), none⟩,
⟨some 15, .bin .add (.t 14) (.k (.int .i64 1)), none⟩,
⟨some 9, .mov (.t 15), none⟩]
[3, 4, 5, 9]))))))
(.seq (.reg [⟨some 8, .mov (.k (.bool true)), none⟩]
[8])
.ret)))⟩
theorem k_proctorref13_bound : chkF Go.Proofs.Tryd.prog Go.Proofs.Tryd.f78 c_proctorref13_bound = true := by kernel_rfl
theorem pc_proctorref13_bound {G : Nat → Option AV} {args : List AV} {r : AV} (h : Runs Go.Proofs.Tryd.prog G c_proctorref13_bound args r) (hk : args.length = c_proctorref13_bound.k := by rfl) : PureC Go.Proofs.Tryd.prog G n_proctorref13_bound args r := PureC.of_runs (fn := Go.Proofs.Tryd.f78) (A := c_proctorref13_bound) Go.Proofs.Tryd.func78 k_proctorref13_bound hk h
def c_proctorref13_names : AFun := ⟨112, 1, [.t 2],
  (.seq (.reg [⟨some 1, .box t_api_Qea 9 (.t 0), none⟩,
⟨some 2, .mov (.k (.bool false)), none⟩]
[1])
(.seq (.reg [⟨some 3, .nilrow t_string 1, none⟩]
[1, 3])
(.seq (.seq (.reg [⟨some 4, .mov (.k (.int .i64 0)), none⟩]
[1, 3, 4])
(.block 0
(.loop [1, 3, 4] [1, 3, 24]
  (.seq (.seq (.reg [⟨some 9, .mov (.t 4), none⟩,
⟨some 10, .faddr (.t 1) 2, none⟩,
⟨some 11, .load (.t 10), none⟩,
⟨some 12, .len false (.t 11), none⟩,
⟨some 13, .bin .lss (.t 9) (.t 12), none⟩]
[1, 3, 4, 13])
(.cond (.t 13)
.skip
(.exit 0)))
(.seq (.block 1
(.seq (.reg [⟨some 16, .mov (.t 3), none⟩,
⟨some 17, .faddr (.t 1) 2, none⟩,
⟨some 18, .load (.t 17), none⟩,
⟨some 19, .mov (.t 4), none⟩,
⟨some 20, .iaddr 3 (.t 18) (.t 19), none⟩,
⟨some 21, .faddr (.t 20) 1, none⟩,
⟨some 22, .load (.t 21), none⟩,
⟨some 23, .mkrow t_string 1 1 (.str []) [(0, .t 22)], none⟩,
⟨some 24, .app t_string 1 16 (.t 16) (.t 23), none⟩,
⟨some 3, .mov (.t 24), none⟩]
[1, 3, 4])
(.seq (.reg [⟨some 25, .faddr (.t 1) 2, none⟩,
⟨some 26, .load (.t 25), none⟩,
⟨some 27, .mov (.t 4), none⟩,
⟨some 28, .iaddr 3 (.t 26) (.t 27), none⟩,
⟨some 29, .faddr (.t 28) 2, none⟩,
⟨some 30, .load (.t 29), none⟩,
⟨some 31, .bin .lss (.t 30) (.k (.int .i64 1)), none⟩,
⟨some 32, .mov (.t 31), none⟩,
⟨some 33, .faddr (.t 1) 2, (some (32, false))⟩,
⟨some 34, .load (.t 33), (some (32, false))⟩,
⟨some 35, .mov (.t 4), (some (32, false))⟩,
⟨some 36, .iaddr 3 (.t 34) (.t 35), (some (32, false))⟩,
⟨some 37, .faddr (.t 36) 2, (some (32, false))⟩,
⟨some 38, .load (.t 37), (some (32, false))⟩,
⟨some 39, .bin .gtr (.t 38) (.k (.int .i64 3)), (some (32, false))⟩,
⟨some 40, .pick (.t 32) (.k (.bool true)) (.t 39), none⟩]
[1, 3, 4, 40])
(.cond (.t 40)
(.seq (.reg [⟨some 2, .mov (.k (.bool false)), none⟩]
[2])
.ret)
.skip))))
(.reg [⟨some 14, .mov (.t 4), none⟩,
⟨some 15, .bin .add (.t 14) (.k (.int .i64 1)), none⟩,
⟨some 4, .mov (.t 15), none⟩]
[1, 3, 4]))))))
(.seq (.seq (.reg [⟨some 5, .mov (.k (.int .i64 0)), none⟩]
[1, 3, 5])
(.block 2
(.loop [1, 3, 5] [1, 3, 12, 23, 24, 56]
  (.seq (.seq (.reg [⟨some 41, .mov (.t 5), none⟩,
⟨some 42, .faddr (.t 1) 3, none⟩,
⟨some 43, .load (.t 42), none⟩,
⟨some 44, .len false (.t 43), none⟩,
⟨some 45, .bin .lss (.t 41) (.t 44), none⟩]
[1, 3, 5, 45])
(.cond (.t 45)
.skip
(.exit 2)))
(.seq (.block 3
(.seq (.reg [⟨some 48, .mov (.t 3), none⟩,
⟨some 49, .faddr (.t 1) 3, none⟩,
⟨some 50, .load (.t 49), none⟩,
⟨some 51, .mov (.t 5), none⟩,
⟨some 52, .iaddr 5 (.t 50) (.t 51), none⟩,
⟨some 53, .faddr (.t 52) 0, none⟩,
⟨some 54, .load (.t 53), none⟩,
⟨some 55, .mkrow t_string 1 1 (.str []) [(0, .t 54)], none⟩,
⟨some 56, .app t_string 1 16 (.t 48) (.t 55), none⟩,
⟨some 3, .mov (.t 56), none⟩]
[1, 3, 5])
(.seq (.reg [⟨some 57, .faddr (.t 1) 3, none⟩,
⟨some 58, .load (.t 57), none⟩,
⟨some 59, .mov (.t 5), none⟩,
⟨some 60, .iaddr 5 (.t 58) (.t 59), none⟩,
⟨some 61, .faddr (.t 60) 1, none⟩,
⟨some 62, .loadN (.t 61) 4, none⟩,
⟨some 63, .call n_proctorref03_Right [.t 62], none⟩,
⟨some 64, .un .not (.t 63), none⟩]
[1, 3, 5, 64])
(.cond (.t 64)
(.seq (.reg [⟨some 2, .mov (.k (.bool false)), none⟩]
[2])
.ret)
.skip))))
(.reg [⟨some 46, .mov (.t 5), none⟩,
⟨some 47, .bin .add (.t 46) (.k (.int .i64 1)), none⟩,
⟨some 5, .mov (.t 47), none⟩]
[1, 3, 5]))))))
(.seq (.seq (.reg [⟨some 6, .mov (.k (.int .i64 0)), none⟩]
[1, 3, 6])
(.block 4
(.loop [1, 3, 6] [1, 3, 12, 23, 24, 44, 55, 56, 63]
  (.seq (.seq (.reg [⟨some 65, .mov (.t 6), none⟩,
⟨some 66, .mov (.t 3), none⟩,
⟨some 67, .len false (.t 66), none⟩,
⟨some 68, .bin .lss (.t 65) (.t 67), none⟩]
[1, 3, 6, 68])
(.cond (.t 68)
.skip
(.exit 4)))
(.seq (.block 5
(.seq (.reg [⟨some 71, .mov (.t 3), none⟩,
⟨some 72, .mov (.t 6), none⟩,
⟨some 73, .iaddr 1 (.t 71) (.t 72), none⟩,
⟨some 74, .load (.t 73), none⟩,
⟨some 75, .call n_proctorref07_Name [.t 74], none⟩,
⟨some 76, .un .not (.t 75), none⟩,
⟨some 77, .mov (.t 76), none⟩,
⟨some 78, .mov (.t 3), (some (77, false))⟩,
⟨some 79, .mov (.t 6), (some (77, false))⟩,
⟨some 80, .call n_proctorref13_twice [.t 78, .t 79], (some (77, false))⟩,
⟨some 81, .pick (.t 77) (.k (.bool true)) (.t 80), none⟩]
[1, 3, 6, 81])
(.cond (.t 81)
(.seq (.reg [⟨some 2, .mov (.k (.bool false)), none⟩]
[2])
.ret)
.skip)))
(.reg [⟨some 69, .mov (.t 6), none⟩,
⟨some 70, .bin .add (.t 69) (.k (.int .i64 1)), none⟩,
⟨some 6, .mov (.t 70), none⟩]
[1, 3, 6]))))))
(.seq (.reg [⟨some 7, .nilrow t_string 1, none⟩]
[1, 7])
(.seq (.seq (.reg [⟨some 8, .mov (.k (.int .i64 0)), none⟩]
[1, 7, 8])
(.block 6
(.loop [1, 7, 8] [1, 3, 12, 23, 24, 44, 55, 56, 63, 67, 75, 80, 7, 97]
  (.seq (.seq (.reg [⟨some 82, .mov (.t 8), none⟩,
⟨some 83, .faddr (.t 1) 4, none⟩,
⟨some 84, .load (.t 83), none⟩,
⟨some 85, .len false (.t 84), none⟩,
⟨some 86, .bin .lss (.t 82) (.t 85), none⟩]
[1, 7, 8, 86])
(.cond (.t 86)
.skip
(.exit 6)))
(.seq (.block 7
(.seq (.reg [⟨some 89, .mov (.t 7), none⟩,
⟨some 90, .faddr (.t 1) 4, none⟩,
⟨some 91, .load (.t 90), none⟩,
⟨some 92, .mov (.t 8), none⟩,
⟨some 93, .iaddr 3 (.t 91) (.t 92), none⟩,
⟨some 94, .faddr (.t 93) 0, none⟩,
⟨some 95, .load (.t 94), none⟩,
⟨some 96, .mkrow t_string 1 1 (.str []) [(0, .t 95)], none⟩,
⟨some 97, .app t_string 1 16 (.t 89) (.t 96), none⟩,
⟨some 7, .mov (.t 97), none⟩]
[1, 7, 8])
(.seq (.reg [⟨some 98, .mov (.t 7), none⟩,
⟨some 99, .mov (.t 8), none⟩,
⟨some 100, .iaddr 1 (.t 98) (.t 99), none⟩,
⟨some 101, .load (.t 100), none⟩,
⟨some 102, .call n_proctorref07_Name [.t 101], none⟩,
⟨some 103, .un .not (.t 102), none⟩,
⟨some 104, .mov (.t 103), none⟩,
⟨some 105, .mov (.t 7), (some (104, false))⟩,
⟨some 106, .mov (.t 8), (some (104, false))⟩,
⟨some 107, .call n_proctorref13_twice [.t 105, .t 106], (some (104, false))⟩,
⟨some 108, .pick (.t 104) (.k (.bool true)) (.t 107), none⟩]
[1, 7, 8, 108])
(.cond (.t 108)
(.seq (.reg [⟨some 2, .mov (.k (.bool false)), none⟩]
[2])
.ret)
.skip))))
(.reg [⟨some 87, .mov (.t 8), none⟩,
⟨some 88, .bin .add (.t 87) (.k (.int .i64 1)), none⟩,
⟨some 8, .mov (.t 88), none⟩]
[1, 7, 8]))))))
(.seq (.reg [⟨some 109, .faddr (.t 1) 0, none⟩,
⟨some 110, .load (.t 109), none⟩,
⟨some 111, .call n_proctorref07_Name [.t 110], none⟩,
⟨some 2, .mov (.t 111), none⟩]
[2])
.ret))))))))⟩
theorem k_proctorref13_names : chkF Go.Proofs.Tryd.prog Go.Proofs.Tryd.f50 c_proctorref13_names = true := by kernel_rfl
theorem pc_proctorref13_names {G : Nat → Option AV} {args : List AV} {r : AV} (h : Runs Go.Proofs.Tryd.prog G c_proctorref13_names args r) (hk : args.length = c_proctorref13_names.k := by rfl) : PureC Go.Proofs.Tryd.prog G n_proctorref13_names args r := PureC.of_runs (fn := Go.Proofs.Tryd.f50) (A := c_proctorref13_names) Go.Proofs.Tryd.func50 k_proctorref13_names hk h
def c_proctorref13_symbol : AFun := ⟨56, 2, [.t 4],
  (.seq (.reg [⟨some 2, .box t_api_Qea 9 (.t 0), none⟩,
⟨some 3, .box t_api_Symbol 2 (.t 1), none⟩,
⟨some 4, .mov (.k (.bool false)), none⟩]
[2, 3])
(.seq (.seq (.dreg [⟨some 6, .faddr (.t 3) 0, none⟩,
⟨some 7, .load (.t 6), none⟩,
⟨some 8, .bin .lss (.t 7) (.k (.int .i64 0)), none⟩,
⟨some 9, .mov (.t 8), none⟩,
⟨some 10, .faddr (.t 3) 0, (some (9, false))⟩,
⟨some 11, .load (.t 10), (some (9, false))⟩,
⟨some 12, .faddr (.t 2) 1, (some (9, false))⟩,
⟨some 13, .load (.t 12), (some (9, false))⟩,
⟨some 14, .len false (.t 13), (some (9, false))⟩,
⟨some 15, .bin .geq (.t 11) (.t 14), (some (9, false))⟩,
⟨some 16, .pick (.t 9) (.k (.bool true)) (.t 15), none⟩,
⟨some 17, .mov (.t 16), none⟩,
⟨some 18, .faddr (.t 3) 1, (some (17, false))⟩,
⟨some 19, .load (.t 18), (some (17, false))⟩,
⟨some 20, .len false (.t 19), (some (17, false))⟩,
⟨some 21, .faddr (.t 2) 1, (some (17, false))⟩,
⟨some 22, .load (.t 21), (some (17, false))⟩,
⟨some 23, .faddr (.t 3) 0, (some (17, false))⟩,
⟨some 24, .load (.t 23), (some (17, false))⟩,
⟨some 25, .iaddr 2 (.t 22) (.t 24), (some (17, false))⟩,
⟨some 26, .faddr (.t 25) 1, (some (17, false))⟩,
⟨some 27, .load (.t 26), (some (17, false))⟩,
⟨some 28, .len false (.t 27), (some (17, false))⟩,
⟨some 29, .bin .neq (.t 20) (.t 28), (some (17, false))⟩,
⟨some 30, .pick (.t 17) (.k (.bool true)) (.t 29), none⟩]
[2, 3, 30])
(.cond (.t 30)
(.seq (.reg [⟨some 4, .mov (.k (.bool false)), none⟩]
[4])
.ret)
.skip))
(.seq (.seq (.reg [⟨some 5, .mov (.k (.int .i64 0)), none⟩]
[2, 3, 5])
(.block 0
(.loop [2, 3, 5] [2, 3, 14, 20, 28]
  (.seq (.seq (.reg [⟨some 31, .mov (.t 5), none⟩,
⟨some 32, .faddr (.t 3) 1, none⟩,
⟨some 33, .load (.t 32), none⟩,
⟨some 34, .len false (.t 33), none⟩,
⟨some 35, .bin .lss (.t 31) (.t 34), none⟩]
[2, 3, 5, 35])
(.cond (.t 35)
.skip
(.exit 0)))
(.seq (.block 1
(.seq (.dreg [⟨some 38, .loadN (.t 2) 9, none⟩,
⟨some 39, .faddr (.t 3) 1, none⟩,
⟨some 40, .load (.t 39), none⟩,
⟨some 41, .mov (.t 5), none⟩,
⟨some 42, .iaddr 6 (.t 40) (.t 41), none⟩,
⟨some 43, .loadN (.t 42) 6, none⟩,
⟨some 44, .faddr (.t 2) 1, none⟩,
⟨some 45, .load (.t 44), none⟩,
⟨some 46, .faddr (.t 3) 0, none⟩,
⟨some 47, .load (.t 46), none⟩,
⟨some 48, .iaddr 2 (.t 45) (.t 47), none⟩,
⟨some 49, .faddr (.t 48) 1, none⟩,
⟨some 50, .load (.t 49), none⟩,
⟨some 51, .mov (.t 5), none⟩,
⟨some 52, .iaddr 1 (.t 50) (.t 51), none⟩,
⟨some 53, .load (.t 52), none⟩,
⟨some 54, .call n_proctorref13_arg [.t 38, .t 43, .t 53], none⟩,
⟨some 55, .un .not (.t 54), none⟩]
[2, 3, 5, 55])
(.cond (.t 55)
(.seq (.reg [⟨some 4, .mov (.k (.bool false)), none⟩]
[4])
.ret)
.skip)))
(.reg [⟨some 36, .mov (.t 5), none⟩,
⟨some 37, .bin .add (.t 36) (.k (.int .i64 1)), none⟩,
⟨some 5, .mov (.t 37), none⟩]
[2, 3, 5]))))))
(.seq (.reg [⟨some 4, .mov (.k (.bool true)), none⟩]
[4])
.ret))))⟩
theorem k_proctorref13_symbol : chkF Go.Proofs.Tryd.prog Go.Proofs.Tryd.f79 c_proctorref13_symbol = true := by kernel_rfl
theorem pc_proctorref13_symbol {G : Nat → Option AV} {args : List AV} {r : AV} (h : Runs Go.Proofs.Tryd.prog G c_proctorref13_symbol args r) (hk : args.length = c_proctorref13_symbol.k := by rfl) : PureC Go.Proofs.Tryd.prog G n_proctorref13_symbol args r := PureC.of_runs (fn := Go.Proofs.Tryd.f79) (A := c_proctorref13_symbol) Go.Proofs.Tryd.func79 k_proctorref13_symbol hk h
def c_proctorref13_symbols : AFun := ⟨118, 1, [.t 2],
  (.seq (.reg [⟨some 1, .box t_api_Qea 9 (.t 0), none⟩,
⟨some 2, .mov (.k (.bool false)), none⟩]
[1])
(.seq (.reg [⟨some 13, .faddr (.t 1) 6, none⟩,
⟨some 14, .load (.t 13), none⟩,
⟨some 15, .len false (.t 14), none⟩,
⟨some 16, .mks t_bool 1 1 (.bool false) (.t 15) (.t 15), none⟩,
⟨some 3, .mov (.t 16), none⟩]
[1, 3])
(.seq (.reg [⟨some 4, .nilrow t_int 1, none⟩]
[1, 3, 4])
(.seq (.seq (.reg [⟨some 5, .mov (.k (.int .i64 0)), none⟩]
[1, 3, 4, 5])
(.block 0
(.loop [1, 3, 4, 5] [1, 15, 16, 4, 38]
  (.seq (.seq (.reg [⟨some 17, .mov (.t 5), none⟩,
⟨some 18, .faddr (.t 1) 8, none⟩,
⟨some 19, .load (.t 18), none⟩,
⟨some 20, .len false (.t 19), none⟩,
⟨some 21, .bin .lss (.t 17) (.t 20), none⟩]
[1, 3, 4, 5, 21])
(.cond (.t 21)
.skip
(.exit 0)))
(.seq (.block 1
(.seq (.reg [⟨some 24, .faddr (.t 1) 8, none⟩,
⟨some 25, .load (.t 24), none⟩,
⟨some 26, .mov (.t 5), none⟩,
⟨some 27, .iaddr 5 (.t 25) (.t 26), none⟩,
⟨some 28, .faddr (.t 27) 1, none⟩,
⟨some 29, .load (.t 28), none⟩,
⟨some 6, .mov (.t 29), none⟩]
[1, 3, 4, 5, 6])
(.seq (.seq (.reg [⟨some 30, .mov (.t 3), none⟩,
⟨some 31, .mov (.t 6), none⟩,
⟨some 32, .iaddr 1 (.t 30) (.t 31), none⟩,
⟨some 33, .load (.t 32), none⟩,
⟨some 34, .un .not (.t 33), none⟩]
[1, 3, 4, 5, 6, 34])
(.cond (.t 34)
(.reg [⟨some 35, .mov (.t 4), none⟩,
⟨some 36, .mov (.t 6), none⟩,
⟨some 37, .mkrow t_int 1 1 (.int .i64 0) [(0, .t 36)], none⟩,
⟨some 38, .app t_int 1 8 (.t 35) (.t 37), none⟩,
⟨some 4, .mov (.t 38), none⟩]
[1, 3, 4, 5, 6])
.skip))
(.reg [⟨some 39, .mov (.t 3), none⟩,
⟨some 40, .mov (.t 6), none⟩,
⟨some 41, .iaddr 1 (.t 39) (.t 40), none⟩,
⟨none, .store (.t 41) (.k (.bool true)) 1, none⟩]
[1, 3, 4, 5]))))
(.reg [⟨some 22, .mov (.t 5), none⟩,
⟨some 23, .bin .add (.t 22) (.k (.int .i64 1)), none⟩,
⟨some 5, .mov (.t 23), none⟩]
[1, 3, 4, 5]))))))
(.seq (.seq (.reg [⟨some 7, .mov (.k (.int .i64 0)), none⟩]
[1, 4, 7])
(.block 2
(.loop [1, 4, 7] [1, 15, 16, 4, 20, 37, 38]
  (.seq (.seq (.reg [⟨some 42, .mov (.t 7), none⟩,
⟨some 43, .mov (.t 4), none⟩,
⟨some 44, .len false (.t 43), none⟩,
⟨some 45, .bin .lss (.t 42) (.t 44), none⟩]
[1, 4, 7, 45])
(.cond (.t 45)
.skip
(.exit 2)))
(.seq (.block 3
(.seq (.dreg [⟨some 48, .mov (.t 4), none⟩,
⟨some 49, .mov (.t 7), none⟩,
⟨some 50, .iaddr 1 (.t 48) (.t 49), none⟩,
⟨some 51, .load (.t 50), none⟩,
⟨some 52, .faddr (.t 1) 6, none⟩,
⟨some 53, .load (.t 52), none⟩,
⟨some 54, .len false (.t 53), none⟩,
⟨some 55, .mov (.t 4), none⟩,
⟨some 56, .len false (.t 55), none⟩,
⟨some 57, .bin .sub (.t 54) (.t 56), none⟩,
⟨some 58, .mov (.t 7), none⟩,
⟨some 59, .bin .add (.t 57) (.t 58), none⟩,
⟨some 60, .bin .neq (.t 51) (.t 59), none⟩]
[1, 4, 7, 60])
(.cond (.t 60)
(.seq (.reg [⟨some 2, .mov (.k (.bool false)), none⟩]
[2])
.ret)
.skip)))
(.reg [⟨some 46, .mov (.t 7), none⟩,
⟨some 47, .bin .add (.t 46) (.k (.int .i64 1)), none⟩,
⟨some 7, .mov (.t 47), none⟩]
[1, 4, 7]))))))
(.seq (.seq (.reg [⟨some 8, .mov (.k (.int .i64 0)), none⟩]
[1, 8])
(.block 4
(.loop [1, 8] [1, 15, 16, 4, 20, 37, 38, 44, 54, 56]
  (.seq (.seq (.reg [⟨some 61, .mov (.t 8), none⟩,
⟨some 62, .faddr (.t 1) 6, none⟩,
⟨some 63, .load (.t 62), none⟩,
⟨some 64, .len false (.t 63), none⟩,
⟨some 65, .bin .lss (.t 61) (.t 64), none⟩]
[1, 8, 65])
(.cond (.t 65)
.skip
(.exit 4)))
(.seq (.block 5
(.seq (.seq (.dreg [⟨some 68, .loadN (.t 1) 9, none⟩,
⟨some 69, .faddr (.t 1) 6, none⟩,
⟨some 70, .load (.t 69), none⟩,
⟨some 71, .mov (.t 8), none⟩,
⟨some 72, .iaddr 2 (.t 70) (.t 71), none⟩,
⟨some 73, .loadN (.t 72) 2, none⟩,
⟨some 74, .call n_proctorref13_symbol [.t 68, .t 73], none⟩,
⟨some 75, .un .not (.t 74), none⟩]
[1, 8, 75])
(.cond (.t 75)
(.seq (.reg [⟨some 2, .mov (.k (.bool false)), none⟩]
[2])
.ret)
.skip))
(.seq (.reg [⟨some 9, .mov (.k (.int .i64 0)), none⟩]
[1, 8, 9])
(.block 6
(.loop [1, 8, 9] [1, 15, 16, 4, 20, 37, 38, 44, 54, 56, 64, 74]
  (.seq (.seq (.reg [⟨some 76, .mov (.t 9), none⟩,
⟨some 77, .mov (.t 8), none⟩,
⟨some 78, .bin .lss (.t 76) (.t 77), none⟩]
[1, 8, 9, 78])
(.cond (.t 78)
.skip
(.exit 6)))
(.seq (.block 7
(.seq (.dreg [⟨some 81, .faddr (.t 1) 6, none⟩,
⟨some 82, .load (.t 81), none⟩,
⟨some 83, .mov (.t 8), none⟩,
⟨some 84, .iaddr 2 (.t 82) (.t 83), none⟩,
⟨some 85, .loadN (.t 84) 2, none⟩,
⟨some 86, .faddr (.t 1) 6, none⟩,
⟨some 87, .load (.t 86), none⟩,
⟨some 88, .mov (.t 9), none⟩,
⟨some 89, .iaddr 2 (.t 87) (.t 88), none⟩,
⟨some 90, .loadN (.t 89) 2, none⟩,
⟨some 91, .call n_proctorref13_SameSymbol [.t 85, .t 90], none⟩]
[1, 8, 9, 91])
(.cond (.t 91)
(.seq (.reg [⟨some 2, .mov (.k (.bool false)), none⟩]
[2])
.ret)
.skip)))
(.reg [⟨some 79, .mov (.t 9), none⟩,
⟨some 80, .bin .add (.t 79) (.k (.int .i64 1)), none⟩,
⟨some 9, .mov (.t 80), none⟩]
[1, 8, 9]))))))))
(.reg [⟨some 66, .mov (.t 8), none⟩,
⟨some 67, .bin .add (.t 66) (.k (.int .i64 1)), none⟩,
⟨some 8, .mov (.t 67), none⟩]
[1, 8]))))))
(.seq (.seq (.reg [⟨some 10, .mov (.k (.int .i64 0)), none⟩]
[1, 10])
(.block 8
(.loop [1, 10] [1, 15, 16, 4, 20, 37, 38, 44, 54, 56, 64, 74, 91]
  (.seq (.seq (.reg [⟨some 92, .mov (.t 10), none⟩,
⟨some 93, .faddr (.t 1) 2, none⟩,
⟨some 94, .load (.t 93), none⟩,
⟨some 95, .len false (.t 94), none⟩,
⟨some 96, .bin .lss (.t 92) (.t 95), none⟩]
[1, 10, 96])
(.cond (.t 96)
.skip
(.exit 8)))
(.seq (.block 9
(.seq (.reg [⟨some 11, .mov (.k (.bool false)), none⟩]
[1, 10, 11])
(.seq (.seq (.reg [⟨some 12, .mov (.k (.int .i64 0)), none⟩]
[1, 10, 11, 12])
(.block 10
(.loop [1, 10, 11, 12] [1, 15, 16, 4, 20, 37, 38, 44, 54, 56, 64, 74, 91, 95]
  (.seq (.seq (.reg [⟨some 99, .mov (.t 12), none⟩,
⟨some 100, .faddr (.t 1) 6, none⟩,
⟨some 101, .load (.t 100), none⟩,
⟨some 102, .len false (.t 101), none⟩,
⟨some 103, .bin .lss (.t 99) (.t 102), none⟩]
[1, 10, 11, 12, 103])
(.cond (.t 103)
.skip
(.exit 10)))
(.seq (.block 11
(.reg [⟨some 106, .mov (.t 11), none⟩,
⟨some 107, .mov (.t 106), none⟩,
⟨some 108, .faddr (.t 1) 6, (some (107, false))⟩,
⟨some 109, .load (.t 108), (some (107, false))⟩,
⟨some 110, .mov (.t 12), (some (107, false))⟩,
⟨some 111, .iaddr 2 (.t 109) (.t 110), (some (107, false))⟩,
⟨some 112, .loadN (.t 111) 2, (some (107, false))⟩,
⟨some 113, .mov (.t 10), (some (107, false))⟩,
⟨some 114, .call n_proctorref13_Names [.t 112, .t 113], (some (107, false))⟩,
⟨some 115, .pick (.t 107) (.k (.bool true)) (.t 114), none⟩,
⟨some 11, .mov (.t 115), none⟩]
[1, 10, 11, 12]))
(.reg [⟨some 104, .mov (.t 12), none⟩,
⟨some 105, .bin .add (.t 104) (.k (.int .i64 1)), none⟩,
⟨some 12, .mov (.t 105), none⟩]
[1, 10, 11, 12]))))))
(.seq (.reg [⟨some 116, .mov (.t 11), none⟩,
⟨some 117, .un .not (.t 116), none⟩]
[1, 10, 117])
(.cond (.t 117)
(.seq (.reg [⟨some 2, .mov (.k (.bool false)), none⟩]
[2])
.ret)
.skip)))))
(.reg [⟨some 97, .mov (.t 10), none⟩,
⟨some 98, .bin .add (.t 97) (.k (.int .i64 1)), none⟩,
⟨some 10, .mov (.t 98), none⟩]
[1, 10]))))))
(.seq (.reg [⟨some 2, .mov (.k (.bool true)), none⟩]
[2])
.ret))))))))⟩
theorem k_proctorref13_symbols : chkF Go.Proofs.Tryd.prog Go.Proofs.Tryd.f52 c_proctorref13_symbols = true := by kernel_rfl
theorem pc_proctorref13_symbols {G : Nat → Option AV} {args : List AV} {r : AV} (h : Runs Go.Proofs.Tryd.prog G c_proctorref13_symbols args r) (hk : args.length = c_proctorref13_symbols.k := by rfl) : PureC Go.Proofs.Tryd.prog G n_proctorref13_symbols args r := PureC.of_runs (fn := Go.Proofs.Tryd.f52) (A := c_proctorref13_symbols) Go.Proofs.Tryd.func52 k_proctorref13_symbols hk h
def c_proctorref13_trans : AFun := ⟨153, 3, [.t 6, .t 7],
  (.seq (.reg [⟨some 3, .box t_api_Qea 9 (.t 0), none⟩,
⟨some 4, .box t_api_Trans 5 (.t 1), none⟩,
⟨some 6, .mov (.k (.int .i64 0)), none⟩,
⟨some 7, .mov (.k (.bool false)), none⟩]
[2, 3, 4])
(.seq (.seq (.reg [⟨some 16, .faddr (.t 4) 0, none⟩,
⟨some 17, .load (.t 16), none⟩,
⟨some 18, .bin .lss (.t 17) (.k (.int .i64 0)), none⟩,
⟨some 19, .mov (.t 18), none⟩,
⟨some 20, .faddr (.t 4) 0, (some (19, false))⟩,
⟨some 21, .load (.t 20), (some (19, false))⟩,
⟨some 22, .faddr (.t 3) 4, (some (19, false))⟩,
⟨some 23, .load (.t 22), (some (19, false))⟩,
⟨some 24, .len false (.t 23), (some (19, false))⟩,
⟨some 25, .bin .geq (.t 21) (.t 24), (some (19, false))⟩,
⟨some 26, .pick (.t 19) (.k (.bool true)) (.t 25), none⟩,
⟨some 27, .mov (.t 26), none⟩,
⟨some 28, .faddr (.t 4) 2, (some (27, false))⟩,
⟨some 29, .load (.t 28), (some (27, false))⟩,
⟨some 30, .bin .lss (.t 29) (.k (.int .i64 0)), (some (27, false))⟩,
⟨some 31, .pick (.t 27) (.k (.bool true)) (.t 30), none⟩,
⟨some 32, .mov (.t 31), none⟩,
⟨some 33, .faddr (.t 4) 2, (some (32, false))⟩,
⟨some 34, .load (.t 33), (some (32, false))⟩,
⟨some 35, .faddr (.t 3) 4, (some (32, false))⟩,
⟨some 36, .load (.t 35), (some (32, false))⟩,
⟨some 37, .len false (.t 36), (some (32, false))⟩,
⟨some 38, .bin .geq (.t 34) (.t 37), (some (32, false))⟩,
⟨some 39, .pick (.t 32) (.k (.bool true)) (.t 38), none⟩,
⟨some 40, .mov (.t 39), none⟩,
⟨some 41, .faddr (.t 4) 1, (some (40, false))⟩,
⟨some 42, .load (.t 41), (some (40, false))⟩,
⟨some 43, .bin .lss (.t 42) (.k (.int .i64 0)), (some (40, false))⟩,
⟨some 44, .pick (.t 40) (.k (.bool true)) (.t 43), none⟩,
⟨some 45, .mov (.t 44), none⟩,
⟨some 46, .faddr (.t 4) 1, (some (45, false))⟩,
⟨some 47, .load (.t 46), (some (45, false))⟩,
⟨some 48, .faddr (.t 3) 6, (some (45, false))⟩,
⟨some 49, .load (.t 48), (some (45, false))⟩,
⟨some 50, .len false (.t 49), (some (45, false))⟩,
⟨some 51, .bin .geq (.t 47) (.t 50), (some (45, false))⟩,
⟨some 52, .pick (.t 45) (.k (.bool true)) (.t 51), none⟩]
[2, 3, 4, 52])
(.cond (.t 52)
(.seq (.reg [⟨some 6, .mov (.k (.int .i64 0)), none⟩,
⟨some 7, .mov (.k (.bool false)), none⟩]
[6, 7])
.ret)
.skip))
(.seq (.reg [⟨some 53, .mov (.t 2), none⟩,
⟨some 8, .mov (.t 53), none⟩]
[2, 3, 4, 8])
(.seq (.seq (.reg [⟨some 54, .faddr (.t 4) 3, none⟩,
⟨some 55, .load (.t 54), none⟩,
⟨some 56, .bin .neq (.t 55) (.k (.int .i64 (-1))), none⟩]
[2, 3, 4, 8, 56])
(.cond (.t 56)
(.seq (.reg [⟨some 58, .loadN (.t 3) 9, none⟩,
⟨some 59, .mov (.t 8), none⟩,
⟨some 60, .faddr (.t 4) 3, none⟩,
⟨some 61, .load (.t 60), none⟩,
⟨some 62, .call n_proctorref13_Kind [.t 58, .t 59, .t 61], none⟩,
⟨some 57, .mov (.t 62), none⟩,
⟨some 63, .ext (.t 57) 0, none⟩,
⟨some 64, .ext (.t 57) 1, none⟩,
⟨some 9, .mov (.t 63), none⟩,
⟨some 10, .mov (.t 64), none⟩]
[2, 3, 4, 9, 10])
(.seq (.seq (.reg [⟨some 65, .mov (.t 9), none⟩,
⟨some 66, .bin .neq (.t 65) (.k (.int .i64 3)), none⟩,
⟨some 67, .mov (.t 66), none⟩,
⟨some 68, .mov (.t 10), (some (67, false))⟩,
⟨some 69, .bin .gtr (.t 68) (.k (.int .i64 64)), (some (67, false))⟩,
⟨some 70, .pick (.t 67) (.k (.bool true)) (.t 69), none⟩]
[2, 3, 4, 70])
(.cond (.t 70)
(.seq (.reg [⟨some 6, .mov (.k (.int .i64 0)), none⟩,
⟨some 7, .mov (.k (.bool false)), none⟩]
[6, 7])
.ret)
.skip))
(.reg [⟨some 71, .faddr (.t 4) 3, none⟩,
⟨some 72, .load (.t 71), none⟩,
⟨some 73, .bin .add (.t 72) (.k (.int .i64 1)), none⟩,
⟨some 8, .mov (.t 73), none⟩]
[2, 3, 4, 8])))
.skip))
(.seq (.seq (.reg [⟨some 11, .mov (.k (.int .i64 0)), none⟩]
[2, 3, 4, 8, 11])
(.block 0
(.loop [2, 3, 4, 8, 11] [3, 4, 24, 37, 50, 62]
  (.seq (.seq (.reg [⟨some 74, .mov (.t 11), none⟩,
⟨some 75, .faddr (.t 4) 4, none⟩,
⟨some 76, .load (.t 75), none⟩,
⟨some 77, .len false (.t 76), none⟩,
⟨some 78, .bin .lss (.t 74) (.t 77), none⟩]
[2, 3, 4, 8, 11, 78])
(.cond (.t 78)
.skip
(.exit 0)))
(.seq (.block 1
(.seq (.reg [⟨some 81, .faddr (.t 4) 4, none⟩,
⟨some 82, .load (.t 81), none⟩,
⟨some 83, .mov (.t 11), none⟩,
⟨some 84, .iaddr 2 (.t 82) (.t 83), none⟩,
⟨some 85, .loadN (.t 84) 2, none⟩,
⟨some 12, .alloc t_api_Set 2 (.agg [.int .i64 0, .int .i64 0]), none⟩,
⟨none, .store (.t 12) (.t 85) 2, none⟩]
[2, 3, 4, 8, 11, 12])
(.seq (.reg [⟨some 87, .loadN (.t 3) 9, none⟩,
⟨some 88, .mov (.t 8), none⟩,
⟨some 89, .faddr (.t 12) 1, none⟩,
⟨some 90, .load (.t 89), none⟩,
⟨some 91, .call n_proctorref13_Kind [.t 87, .t 88, .t 90], none⟩,
⟨some 86, .mov (.t 91), none⟩,
⟨some 92, .ext (.t 86) 0, none⟩,
⟨some 93, .ext (.t 86) 1, none⟩,
⟨some 13, .mov (.t 92), none⟩,
⟨some 14, .mov (.t 93), none⟩]
[2, 3, 4, 11, 12, 13, 14])
(.seq (.seq (.reg [⟨some 94, .faddr (.t 12) 0, none⟩,
⟨some 95, .load (.t 94), none⟩,
⟨some 96, .bin .lss (.t 95) (.k (.int .i64 0)), none⟩,
⟨some 97, .mov (.t 96), none⟩,
⟨some 98, .faddr (.t 12) 0, (some (97, false))⟩,
⟨some 99, .load (.t 98), (some (97, false))⟩,
⟨some 100, .faddr (.t 3) 3, (some (97, false))⟩,
⟨some 101, .load (.t 100), (some (97, false))⟩,
⟨some 102, .len false (.t 101), (some (97, false))⟩,
⟨some 103, .bin .geq (.t 99) (.t 102), (some (97, false))⟩,
⟨some 104, .pick (.t 97) (.k (.bool true)) (.t 103), none⟩,
⟨some 105, .mov (.t 104), none⟩,
⟨some 106, .mov (.t 13), (some (105, false))⟩,
⟨some 107, .bin .eql (.t 106) (.k (.int .i64 0)), (some (105, false))⟩,
⟨some 108, .pick (.t 105) (.k (.bool true)) (.t 107), none⟩,
⟨some 109, .mov (.t 108), none⟩,
⟨some 110, .mov (.t 14), (some (109, false))⟩,
⟨some 111, .bin .gtr (.t 110) (.k (.int .i64 64)), (some (109, false))⟩,
⟨some 112, .pick (.t 109) (.k (.bool true)) (.t 111), none⟩,
⟨some 113, .mov (.t 112), none⟩,
⟨some 114, .mov (.t 13), (some (113, false))⟩,
⟨some 115, .faddr (.t 3) 3, (some (113, false))⟩,
⟨some 116, .load (.t 115), (some (113, false))⟩,
⟨some 117, .faddr (.t 12) 0, (some (113, false))⟩,
⟨some 118, .load (.t 117), (some (113, false))⟩,
⟨some 119, .iaddr 5 (.t 116) (.t 118), (some (113, false))⟩,
⟨some 120, .faddr (.t 119) 1, (some (113, false))⟩,
⟨some 121, .faddr (.t 120) 0, (some (113, false))⟩,
⟨some 122, .load (.t 121), (some (113, false))⟩,
⟨some 123, .bin .neq (.t 114) (.t 122), (some (113, false))⟩,
⟨some 124, .pick (.t 113) (.k (.bool true)) (.t 123), none⟩]
[2, 3, 4, 11, 12, 124])
(.cond (.t 124)
(.seq (.reg [⟨some 6, .mov (.k (.int .i64 0)), none⟩,
⟨some 7, .mov (.k (.bool false)), none⟩]
[6, 7])
.ret)
.skip))
(.seq (.seq (.reg [⟨some 15, .mov (.k (.int .i64 0)), none⟩]
[2, 3, 4, 11, 12, 15])
(.block 2
(.loop [2, 3, 4, 11, 12, 15] [3, 4, 24, 37, 50, 62, 77, 12, 91, 102]
  (.seq (.seq (.reg [⟨some 125, .mov (.t 15), none⟩,
⟨some 126, .mov (.t 11), none⟩,
⟨some 127, .bin .lss (.t 125) (.t 126), none⟩]
[2, 3, 4, 11, 12, 15, 127])
(.cond (.t 127)
.skip
(.exit 2)))
(.seq (.block 3
(.seq (.dreg [⟨some 130, .faddr (.t 4) 4, none⟩,
⟨some 131, .load (.t 130), none⟩,
⟨some 132, .mov (.t 15), none⟩,
⟨some 133, .iaddr 2 (.t 131) (.t 132), none⟩,
⟨some 134, .faddr (.t 133) 0, none⟩,
⟨some 135, .load (.t 134), none⟩,
⟨some 136, .faddr (.t 12) 0, none⟩,
⟨some 137, .load (.t 136), none⟩,
⟨some 138, .bin .eql (.t 135) (.t 137), none⟩]
[2, 3, 4, 11, 12, 15, 138])
(.cond (.t 138)
(.seq (.reg [⟨some 6, .mov (.k (.int .i64 0)), none⟩,
⟨some 7, .mov (.k (.bool false)), none⟩]
[6, 7])
.ret)
.skip)))
(.reg [⟨some 128, .mov (.t 15), none⟩,
⟨some 129, .bin .add (.t 128) (.k (.int .i64 1)), none⟩,
⟨some 15, .mov (.t 129), none⟩]
[2, 3, 4, 11, 12, 15]))))))
(.reg [⟨some 139, .faddr (.t 12) 1, none⟩,
⟨some 140, .load (.t 139), none⟩,
⟨some 141, .bin .add (.t 140) (.k (.int .i64 1)), none⟩,
⟨some 8, .mov (.t 141), none⟩]
[2, 3, 4, 8, 11]))))))
(.reg [⟨some 79, .mov (.t 11), none⟩,
⟨some 80, .bin .add (.t 79) (.k (.int .i64 1)), none⟩,
⟨some 11, .mov (.t 80), none⟩]
[2, 3, 4, 8, 11]))))))
(.seq (.dreg [⟨some 142, .mov (.t 8), none⟩,
⟨some 143, .loadN (.t 3) 9, none⟩,
⟨some 144, .faddr (.t 3) 6, none⟩,
⟨some 145, .load (.t 144), none⟩,
⟨some 146, .faddr (.t 4) 1, none⟩,
⟨some 147, .load (.t 146), none⟩,
⟨some 148, .iaddr 2 (.t 145) (.t 147), none⟩,
⟨some 149, .loadN (.t 148) 2, none⟩,
⟨some 150, .mov (.t 2), none⟩,
⟨some 151, .mov (.t 8), none⟩,
⟨some 152, .call n_proctorref13_bound [.t 143, .t 149, .t 150, .t 151], none⟩,
⟨some 6, .mov (.t 142), none⟩,
⟨some 7, .mov (.t 152), none⟩]
[6, 7])
.ret))))))⟩
theorem k_proctorref13_trans : chkF Go.Proofs.Tryd.prog Go.Proofs.Tryd.f51 c_proctorref13_trans = true := by kernel_rfl
theorem pc_proctorref13_trans {G : Nat → Option AV} {args : List AV} {r : AV} (h : Runs Go.Proofs.Tryd.prog G c_proctorref13_trans args r) (hk : args.length = c_proctorref13_trans.k := by rfl) : PureC Go.Proofs.Tryd.prog G n_proctorref13_trans args r := PureC.of_runs (fn := Go.Proofs.Tryd.f51) (A := c_proctorref13_trans) Go.Proofs.Tryd.func51 k_proctorref13_trans hk h
def c_proctorref13_twice : AFun := ⟨20, 2, [.t 4],
  (.seq (.reg [⟨some 4, .mov (.k (.bool false)), none⟩]
[0, 1])
(.seq (.seq (.reg [⟨some 5, .mov (.k (.int .i64 0)), none⟩]
[0, 1, 5])
(.block 0
(.loop [0, 1, 5] []
  (.seq (.seq (.reg [⟨some 6, .mov (.t 5), none⟩,
⟨some 7, .mov (.t 1), none⟩,
⟨some 8, .bin .lss (.t 6) (.t 7), none⟩]
[0, 1, 5, 8])
(.cond (.t 8)
.skip
(.exit 0)))
(.seq (.block 1
(.seq (.dreg [⟨some 11, .mov (.t 0), none⟩,
⟨some 12, .mov (.t 5), none⟩,
⟨some 13, .iaddr 1 (.t 11) (.t 12), none⟩,
⟨some 14, .load (.t 13), none⟩,
⟨some 15, .mov (.t 0), none⟩,
⟨some 16, .mov (.t 1), none⟩,
⟨some 17, .iaddr 1 (.t 15) (.t 16), none⟩,
⟨some 18, .load (.t 17), none⟩,
⟨some 19, .bin .eql (.t 14) (.t 18), none⟩]
[0, 1, 5, 19])
(.cond (.t 19)
(.seq (.reg [⟨some 4, .mov (.k (.bool true)), none⟩]
[4])
.ret)
.skip)))
(.reg [⟨some 9, .mov (.t 5), none⟩,
⟨some 10, .bin .add (.t 9) (.k (.int .i64 1)), none⟩,
⟨some 5, .mov (.t 10), none⟩]
[0, 1, 5]))))))
(.seq (.reg [⟨some 4, .mov (.k (.bool false)), none⟩]
[4])
.ret)))⟩
theorem k_proctorref13_twice : chkF Go.Proofs.Tryd.prog Go.Proofs.Tryd.f76 c_proctorref13_twice = true := by kernel_rfl
theorem pc_proctorref13_twice {G : Nat → Option AV} {args : List AV} {r : AV} (h : Runs Go.Proofs.Tryd.prog G c_proctorref13_twice args r) (hk : args.length = c_proctorref13_twice.k := by rfl) : PureC Go.Proofs.Tryd.prog G n_proctorref13_twice args r := PureC.of_runs (fn := Go.Proofs.Tryd.f76) (A := c_proctorref13_twice) Go.Proofs.Tryd.func76 k_proctorref13_twice hk h
def c_proctorref16_Fits : AFun := ⟨39, 2, [.t 4],
  (.seq (.reg [⟨some 2, .box t_api_Qea 9 (.t 0), none⟩,
⟨some 4, .mov (.k (.bool false)), none⟩]
[1, 2])
(.seq (.seq (.reg [⟨some 6, .mov (.t 1), none⟩,
⟨some 7, .len false (.t 6), none⟩,
⟨some 8, .faddr (.t 2) 3, none⟩,
⟨some 9, .load (.t 8), none⟩,
⟨some 10, .len false (.t 9), none⟩,
⟨some 11, .bin .neq (.t 7) (.t 10), none⟩]
[1, 2, 11])
(.cond (.t 11)
(.seq (.reg [⟨some 4, .mov (.k (.bool false)), none⟩]
[4])
.ret)
.skip))
(.seq (.seq (.reg [⟨some 5, .mov (.k (.int .i64 0)), none⟩]
[1, 2, 5])
(.block 0
(.loop [1, 2, 5] [2, 7, 10]
  (.seq (.seq (.reg [⟨some 12, .mov (.t 5), none⟩,
⟨some 13, .mov (.t 1), none⟩,
⟨some 14, .len false (.t 13), none⟩,
⟨some 15, .bin .lss (.t 12) (.t 14), none⟩]
[1, 2, 5, 15])
(.cond (.t 15)
.skip
(.exit 0)))
(.seq (.block 1
(.seq (.dreg [⟨some 18, .mov (.t 1), none⟩,
⟨some 19, .mov (.t 5), none⟩,
⟨some 20, .iaddr 4 (.t 18) (.t 19), none⟩,
⟨some 21, .loadN (.t 20) 4, none⟩,
⟨some 22, .call n_proctorref03_Right [.t 21], none⟩,
⟨some 23, .un .not (.t 22), none⟩,
⟨some 24, .mov (.t 23), none⟩,
⟨some 25, .mov (.t 1), (some (24, false))⟩,
⟨some 26, .mov (.t 5), (some (24, false))⟩,
⟨some 27, .iaddr 4 (.t 25) (.t 26), (some (24, false))⟩,
⟨some 28, .faddr (.t 27) 0, (some (24, false))⟩,
⟨some 29, .load (.t 28), (some (24, false))⟩,
⟨some 30, .faddr (.t 2) 3, (some (24, false))⟩,
⟨some 31, .load (.t 30), (some (24, false))⟩,
⟨some 32, .mov (.t 5), (some (24, false))⟩,
⟨some 33, .iaddr 5 (.t 31) (.t 32), (some (24, false))⟩,
⟨some 34, .faddr (.t 33) 1, (some (24, false))⟩,
⟨some 35, .faddr (.t 34) 0, (some (24, false))⟩,
⟨some 36, .load (.t 35), (some (24, false))⟩,
⟨some 37, .bin .neq (.t 29) (.t 36), (some (24, false))⟩,
⟨some 38, .pick (.t 24) (.k (.bool true)) (.t 37), none⟩]
[1, 2, 5, 38])
(.cond (.t 38)
(.seq (.reg [⟨some 4, .mov (.k (.bool false)), none⟩]
[4])
.ret)
.skip)))
(.reg [⟨some 16, .mov (.t 5), none⟩,
⟨some 17, .bin .add (.t 16) (.k (.int .i64 1)), none⟩,
⟨some 5, .mov (.t 17), none⟩]
[1, 2, 5]))))))
(.seq (.reg [⟨some 4, .mov (.k (.bool true)), none⟩]
[4])
.ret))))⟩
theorem k_proctorref16_Fits : chkF Go.Proofs.Tryd.prog Go.Proofs.Tryd.f18 c_proctorref16_Fits = true := by kernel_rfl
theorem pc_proctorref16_Fits {G : Nat → Option AV} {args : List AV} {r : AV} (h : Runs Go.Proofs.Tryd.prog G c_proctorref16_Fits args r) (hk : args.length = c_proctorref16_Fits.k := by rfl) : PureC Go.Proofs.Tryd.prog G n_proctorref16_Fits args r := PureC.of_runs (fn := Go.Proofs.Tryd.f18) (A := c_proctorref16_Fits) Go.Proofs.Tryd.func18 k_proctorref16_Fits hk h
def c_proctorref16_Value : AFun := ⟨121, 4, [.cells 8 4, .t 9],
  (.seq (.reg [⟨some 4, .box t_api_Qea 9 (.t 0), none⟩,
⟨some 8, .alloc t_api_Value 4 (.agg [.int .i64 0, .int .i64 0, .str [], .bool false]), none⟩,
⟨some 9, .mov (.k (.int .i64 0)), none⟩]
[1, 2, 3, 4, 8])
(.seq (.reg [⟨some 16, .faddr (.t 4) 7, none⟩,
⟨some 17, .load (.t 16), none⟩,
⟨some 18, .mov (.t 1), none⟩,
⟨some 19, .iaddr 7 (.t 17) (.t 18), none⟩,
⟨some 20, .loadN (.t 19) 7, none⟩,
⟨some 10, .alloc t_api_Node 7 (.agg [.int .i64 0, .int .i64 0, .int .i64 0, .int .i64 0, .int .i64 0, .str [], .bool false]), none⟩,
⟨none, .store (.t 10) (.t 20) 7, none⟩]
[2, 3, 4, 8, 10])
(.seq (.seq (.reg [⟨some 21, .faddr (.t 10) 0, none⟩,
⟨some 22, .load (.t 21), none⟩,
⟨some 23, .bin .eql (.t 22) (.k (.int .i64 1)), none⟩]
[2, 3, 4, 8, 10, 23])
(.cond (.t 23)
(.seq (.reg [⟨some 24, .faddr (.t 10) 3, none⟩,
⟨some 25, .loadN (.t 24) 4, none⟩,
⟨none, .store (.t 8) (.t 25) 4, none⟩,
⟨some 9, .mov (.k (.int .i64 0)), none⟩]
[8, 9])
.ret)
.skip))
(.seq (.seq (.reg [⟨some 26, .faddr (.t 10) 0, none⟩,
⟨some 27, .load (.t 26), none⟩,
⟨some 28, .bin .eql (.t 27) (.k (.int .i64 2)), none⟩]
[2, 3, 4, 8, 10, 28])
(.cond (.t 28)
(.seq (.reg [⟨some 30, .mov (.t 2), none⟩,
⟨some 31, .faddr (.t 10) 1, none⟩,
⟨some 32, .load (.t 31), none⟩,
⟨some 33, .call n_proctorref05_Get [.t 30, .t 32], none⟩,
⟨some 29, .mov (.t 33), none⟩,
⟨some 34, .ext (.t 29) 0, none⟩,
⟨some 35, .ext (.t 29) 1, none⟩,
⟨some 11, .alloc t_api_Value 4 (.agg [.int .i64 0, .int .i64 0, .str [], .bool false]), none⟩,
⟨none, .store (.t 11) (.t 34) 4, none⟩,
⟨some 12, .mov (.t 35), none⟩]
[4, 8, 10, 11, 12])
(.seq (.seq (.dreg [⟨some 36, .mov (.t 12), none⟩,
⟨some 37, .un .not (.t 36), none⟩,
⟨some 38, .mov (.t 37), none⟩,
⟨some 39, .faddr (.t 11) 0, (some (38, false))⟩,
⟨some 40, .load (.t 39), (some (38, false))⟩,
⟨some 41, .faddr (.t 4) 2, (some (38, false))⟩,
⟨some 42, .load (.t 41), (some (38, false))⟩,
⟨some 43, .faddr (.t 10) 1, (some (38, false))⟩,
⟨some 44, .load (.t 43), (some (38, false))⟩,
⟨some 45, .iaddr 3 (.t 42) (.t 44), (some (38, false))⟩,
⟨some 46, .faddr (.t 45) 2, (some (38, false))⟩,
⟨some 47, .load (.t 46), (some (38, false))⟩,
⟨some 48, .bin .neq (.t 40) (.t 47), (some (38, false))⟩,
⟨some 49, .pick (.t 38) (.k (.bool true)) (.t 48), none⟩]
[8, 11, 49])
(.cond (.t 49)
(.seq (.reg [⟨some 50, .build [.int .i64 0, .int .i64 0, .str [], .bool false] [], none⟩,
⟨none, .store (.t 8) (.t 50) 4, none⟩,
⟨some 9, .mov (.k (.int .i64 9)), none⟩]
[8, 9])
.ret)
.skip))
(.seq (.reg [⟨some 51, .loadN (.t 11) 4, none⟩,
⟨none, .store (.t 8) (.t 51) 4, none⟩,
⟨some 9, .mov (.k (.int .i64 0)), none⟩]
[8, 9])
.ret)))
.skip))
(.seq (.seq (.reg [⟨some 52, .faddr (.t 10) 0, none⟩,
⟨some 53, .load (.t 52), none⟩,
⟨some 54, .bin .eql (.t 53) (.k (.int .i64 3)), none⟩]
[2, 3, 4, 8, 10, 54])
(.cond (.t 54)
(.seq (.reg [⟨some 55, .mov (.t 3), none⟩,
⟨some 56, .faddr (.t 10) 1, none⟩,
⟨some 57, .load (.t 56), none⟩,
⟨some 58, .iaddr 4 (.t 55) (.t 57), none⟩,
⟨some 59, .loadN (.t 58) 4, none⟩,
⟨none, .store (.t 8) (.t 59) 4, none⟩,
⟨some 9, .mov (.k (.int .i64 0)), none⟩]
[8, 9])
.ret)
.skip))
(.seq (.reg [⟨some 61, .loadN (.t 4) 9, none⟩,
⟨some 62, .faddr (.t 10) 1, none⟩,
⟨some 63, .load (.t 62), none⟩,
⟨some 64, .mov (.t 2), none⟩,
⟨some 65, .mov (.t 3), none⟩,
⟨some 66, .call n_proctorref16_Value [.t 61, .t 63, .t 64, .t 65], none⟩,
⟨some 60, .mov (.t 66), none⟩,
⟨some 67, .ext (.t 60) 0, none⟩,
⟨some 68, .ext (.t 60) 1, none⟩,
⟨some 13, .alloc t_api_Value 4 (.agg [.int .i64 0, .int .i64 0, .str [], .bool false]), none⟩,
⟨none, .store (.t 13) (.t 67) 4, none⟩,
⟨some 14, .mov (.t 68), none⟩]
[2, 3, 4, 8, 10, 13, 14])
(.seq (.seq (.reg [⟨some 69, .mov (.t 14), none⟩,
⟨some 70, .bin .neq (.t 69) (.k (.int .i64 0)), none⟩]
[2, 3, 4, 8, 10, 13, 14, 70])
(.cond (.t 70)
(.seq (.reg [⟨some 71, .build [.int .i64 0, .int .i64 0, .str [], .bool false] [], none⟩,
⟨some 72, .mov (.t 14), none⟩,
⟨none, .store (.t 8) (.t 71) 4, none⟩,
⟨some 9, .mov (.t 72), none⟩]
[8, 9])
.ret)
.skip))
(.seq (.seq (.reg [⟨some 73, .faddr (.t 10) 0, none⟩,
⟨some 74, .load (.t 73), none⟩,
⟨some 75, .bin .leq (.t 74) (.k (.int .i64 5)), none⟩]
[2, 3, 4, 8, 10, 13, 75])
(.cond (.t 75)
(.seq (.reg [⟨some 76, .faddr (.t 10) 0, none⟩,
⟨some 77, .load (.t 76), none⟩,
⟨some 78, .loadN (.t 13) 4, none⟩,
⟨some 79, .build [.int .i64 0, .int .i64 0, .str [], .bool false] [], none⟩,
⟨some 80, .call n_proctorref03_Op [.t 77, .t 78, .t 79], none⟩,
⟨some 81, .ext (.t 80) 0, none⟩,
⟨some 82, .ext (.t 80) 1, none⟩,
⟨none, .store (.t 8) (.t 81) 4, none⟩,
⟨some 9, .mov (.t 82), none⟩]
[8, 9])
.ret)
.skip))
(.seq (.seq (.reg [⟨some 83, .faddr (.t 10) 0, none⟩,
⟨some 84, .load (.t 83), none⟩,
⟨some 85, .bin .eql (.t 84) (.k (.int .i64 6)), none⟩,
⟨some 86, .mov (.t 85), none⟩,
⟨some 87, .faddr (.t 13) 3, (some (86, true))⟩,
⟨some 88, .load (.t 87), (some (86, true))⟩,
⟨some 89, .un .not (.t 88), (some (86, true))⟩,
⟨some 90, .pick (.t 86) (.t 89) (.k (.bool false)), none⟩,
⟨some 91, .mov (.t 90), none⟩,
⟨some 92, .faddr (.t 10) 0, (some (91, false))⟩,
⟨some 93, .load (.t 92), (some (91, false))⟩,
⟨some 94, .bin .eql (.t 93) (.k (.int .i64 7)), (some (91, false))⟩,
⟨some 95, .mov (.t 94), (some (91, false))⟩,
⟨some 96, .faddr (.t 13) 3, (some (95, true))⟩,
⟨some 97, .load (.t 96), (some (95, true))⟩,
⟨some 98, .pick (.t 95) (.t 97) (.k (.bool false)), (some (91, false))⟩,
⟨some 99, .pick (.t 91) (.k (.bool true)) (.t 98), none⟩]
[2, 3, 4, 8, 10, 13, 99])
(.cond (.t 99)
(.seq (.reg [⟨some 100, .loadN (.t 13) 4, none⟩,
⟨none, .store (.t 8) (.t 100) 4, none⟩,
⟨some 9, .mov (.k (.int .i64 0)), none⟩]
[8, 9])
.ret)
.skip))
(.seq (.reg [⟨some 102, .loadN (.t 4) 9, none⟩,
⟨some 103, .faddr (.t 10) 2, none⟩,
⟨some 104, .load (.t 103), none⟩,
⟨some 105, .mov (.t 2), none⟩,
⟨some 106, .mov (.t 3), none⟩,
⟨some 107, .call n_proctorref16_Value [.t 102, .t 104, .t 105, .t 106], none⟩,
⟨some 101, .mov (.t 107), none⟩,
⟨some 108, .ext (.t 101) 0, none⟩,
⟨some 109, .ext (.t 101) 1, none⟩,
⟨some 15, .alloc t_api_Value 4 (.agg [.int .i64 0, .int .i64 0, .str [], .bool false]), none⟩,
⟨none, .store (.t 15) (.t 108) 4, none⟩,
⟨some 14, .mov (.t 109), none⟩]
[8, 10, 13, 14, 15])
(.seq (.seq (.reg [⟨some 110, .mov (.t 14), none⟩,
⟨some 111, .bin .neq (.t 110) (.k (.int .i64 0)), none⟩]
[8, 10, 13, 14, 15, 111])
(.cond (.t 111)
(.seq (.reg [⟨some 112, .build [.int .i64 0, .int .i64 0, .str [], .bool false] [], none⟩,
⟨some 113, .mov (.t 14), none⟩,
⟨none, .store (.t 8) (.t 112) 4, none⟩,
⟨some 9, .mov (.t 113), none⟩]
[8, 9])
.ret)
.skip))
(.seq (.reg [⟨some 114, .faddr (.t 10) 0, none⟩,
⟨some 115, .load (.t 114), none⟩,
⟨some 116, .loadN (.t 13) 4, none⟩,
⟨some 117, .loadN (.t 15) 4, none⟩,
⟨some 118, .call n_proctorref03_Op [.t 115, .t 116, .t 117], none⟩,
⟨some 119, .ext (.t 118) 0, none⟩,
⟨some 120, .ext (.t 118) 1, none⟩,
⟨none, .store (.t 8) (.t 119) 4, none⟩,
⟨some 9, .mov (.t 120), none⟩]
[8, 9])
.ret))))))))))))⟩
theorem k_proctorref16_Value : chkF Go.Proofs.Tryd.prog Go.Proofs.Tryd.f20 c_proctorref16_Value = true := by kernel_rfl
theorem pc_proctorref16_Value {G : Nat → Option AV} {args : List AV} {r : AV} (h : Runs Go.Proofs.Tryd.prog G c_proctorref16_Value args r) (hk : args.length = c_proctorref16_Value.k := by rfl) : PureC Go.Proofs.Tryd.prog G n_proctorref16_Value args r := PureC.of_runs (fn := Go.Proofs.Tryd.f20) (A := c_proctorref16_Value) Go.Proofs.Tryd.func20 k_proctorref16_Value hk h
def c_value_Bool : AFun := ⟨5, 1, [.cells 2 4],
  (.seq (.reg [⟨some 2, .alloc t_api_Value 4 (.agg [.int .i64 0, .int .i64 0, .str [], .bool false]), none⟩]
[0, 2])
(.seq (.reg [⟨some 3, .mov (.t 0), none⟩,
⟨some 4, .build [.int .i64 0, .int .i64 0, .str [], .bool false] [(0, 1, .k (.int .i64 3)), (3, 1, .t 3)], none⟩,
⟨none, .store (.t 2) (.t 4) 4, none⟩]
[2])
.ret))⟩
theorem k_value_Bool : chkF Go.Proofs.Tryd.prog Go.Proofs.Tryd.f71 c_value_Bool = true := by kernel_rfl
theorem pc_value_Bool {G : Nat → Option AV} {args : List AV} {r : AV} (h : Runs Go.Proofs.Tryd.prog G c_value_Bool args r) (hk : args.length = c_value_Bool.k := by rfl) : PureC Go.Proofs.Tryd.prog G n_value_Bool args r := PureC.of_runs (fn := Go.Proofs.Tryd.f71) (A := c_value_Bool) Go.Proofs.Tryd.func71 k_value_Bool hk h
def c_value_Int : AFun := ⟨5, 1, [.cells 2 4],
  (.seq (.reg [⟨some 2, .alloc t_api_Value 4 (.agg [.int .i64 0, .int .i64 0, .str [], .bool false]), none⟩]
[0, 2])
(.seq (.reg [⟨some 3, .mov (.t 0), none⟩,
⟨some 4, .build [.int .i64 0, .int .i64 0, .str [], .bool false] [(0, 1, .k (.int .i64 1)), (1, 1, .t 3)], none⟩,
⟨none, .store (.t 2) (.t 4) 4, none⟩]
[2])
.ret))⟩
theorem k_value_Int : chkF Go.Proofs.Tryd.prog Go.Proofs.Tryd.f69 c_value_Int = true := by kernel_rfl
theorem pc_value_Int {G : Nat → Option AV} {args : List AV} {r : AV} (h : Runs Go.Proofs.Tryd.prog G c_value_Int args r) (hk : args.length = c_value_Int.k := by rfl) : PureC Go.Proofs.Tryd.prog G n_value_Int args r := PureC.of_runs (fn := Go.Proofs.Tryd.f69) (A := c_value_Int) Go.Proofs.Tryd.func69 k_value_Int hk h
def c_value_Less : AFun := ⟨41, 2, [.t 4],
  (.seq (.reg [⟨some 2, .box t_api_Value 4 (.t 0), none⟩,
⟨some 3, .box t_api_Value 4 (.t 1), none⟩,
⟨some 4, .mov (.k (.bool false)), none⟩]
[2, 3])
(.seq (.block 0
(.seq (.reg [⟨some 6, .faddr (.t 2) 0, none⟩,
⟨some 7, .load (.t 6), none⟩,
⟨some 8, .faddr (.t 3) 0, none⟩,
⟨some 9, .load (.t 8), none⟩,
⟨some 10, .bin .neq (.t 7) (.t 9), none⟩,
⟨some 5, .mov (.t 10), none⟩]
[2, 3, 5])
(.cond (.t 5)
(.seq (.reg [⟨some 11, .faddr (.t 2) 0, none⟩,
⟨some 12, .load (.t 11), none⟩,
⟨some 13, .faddr (.t 3) 0, none⟩,
⟨some 14, .load (.t 13), none⟩,
⟨some 15, .bin .lss (.t 12) (.t 14), none⟩,
⟨some 4, .mov (.t 15), none⟩]
[4])
.ret)
(.seq (.reg [⟨some 17, .faddr (.t 2) 0, none⟩,
⟨some 18, .load (.t 17), none⟩,
⟨some 19, .bin .eql (.t 18) (.k (.int .i64 1)), none⟩,
⟨some 16, .mov (.t 19), none⟩]
[2, 3, 16])
(.cond (.t 16)
(.seq (.reg [⟨some 20, .faddr (.t 2) 1, none⟩,
⟨some 21, .load (.t 20), none⟩,
⟨some 22, .faddr (.t 3) 1, none⟩,
⟨some 23, .load (.t 22), none⟩,
⟨some 24, .bin .lss (.t 21) (.t 23), none⟩,
⟨some 4, .mov (.t 24), none⟩]
[4])
.ret)
(.seq (.reg [⟨some 26, .faddr (.t 2) 0, none⟩,
⟨some 27, .load (.t 26), none⟩,
⟨some 28, .bin .eql (.t 27) (.k (.int .i64 2)), none⟩,
⟨some 25, .mov (.t 28), none⟩]
[2, 3, 25])
(.cond (.t 25)
(.seq (.reg [⟨some 29, .faddr (.t 2) 2, none⟩,
⟨some 30, .load (.t 29), none⟩,
⟨some 31, .faddr (.t 3) 2, none⟩,
⟨some 32, .load (.t 31), none⟩,
⟨some 33, .bin .lss (.t 30) (.t 32), none⟩,
⟨some 4, .mov (.t 33), none⟩]
[4])
.ret)
.skip)))))))
(.seq (.reg [⟨some 34, .faddr (.t 2) 3, none⟩,
⟨some 35, .load (.t 34), none⟩,
⟨some 36, .un .not (.t 35), none⟩,
⟨some 37, .mov (.t 36), none⟩,
⟨some 38, .faddr (.t 3) 3, (some (37, true))⟩,
⟨some 39, .load (.t 38), (some (37, true))⟩,
⟨some 40, .pick (.t 37) (.t 39) (.k (.bool false)), none⟩,
⟨some 4, .mov (.t 40), none⟩]
[4])
.ret)))⟩
theorem k_value_Less : chkF Go.Proofs.Tryd.prog Go.Proofs.Tryd.f60 c_value_Less = true := by kernel_rfl
theorem pc_value_Less {G : Nat → Option AV} {args : List AV} {r : AV} (h : Runs Go.Proofs.Tryd.prog G c_value_Less args r) (hk : args.length = c_value_Less.k := by rfl) : PureC Go.Proofs.Tryd.prog G n_value_Less args r := PureC.of_runs (fn := Go.Proofs.Tryd.f60) (A := c_value_Less) Go.Proofs.Tryd.func60 k_value_Less hk h
def c_value_Name : AFun := ⟨10, 1, [.t 2],
  (.seq (.reg [⟨some 2, .mov (.k (.str [])), none⟩]
[0])
(.seq (.seq (.reg [⟨some 3, .mov (.t 0), none⟩]
[3])
(.block 0
(.seq (.reg [⟨some 5, .bin .eql (.t 3) (.k (.int .i64 1)), none⟩,
⟨some 4, .mov (.t 5), none⟩]
[3, 4])
(.cond (.t 4)
(.seq (.reg [⟨some 2, .mov (.k (.str [105, 110, 116])), none⟩]
[2])
.ret)
(.seq (.reg [⟨some 7, .bin .eql (.t 3) (.k (.int .i64 2)), none⟩,
⟨some 6, .mov (.t 7), none⟩]
[3, 6])
(.cond (.t 6)
(.seq (.reg [⟨some 2, .mov (.k (.str [115, 116, 114, 105, 110, 103])), none⟩]
[2])
.ret)
(.seq (.reg [⟨some 9, .bin .eql (.t 3) (.k (.int .i64 3)), none⟩,
⟨some 8, .mov (.t 9), none⟩]
[8])
(.cond (.t 8)
(.seq (.reg [⟨some 2, .mov (.k (.str [98, 111, 111, 108])), none⟩]
[2])
.ret)
.skip))))))))
(.seq (.reg [⟨some 2, .mov (.k (.str [])), none⟩]
[2])
.ret)))⟩
theorem k_value_Name : chkF Go.Proofs.Tryd.prog Go.Proofs.Tryd.f116 c_value_Name = true := by kernel_rfl
theorem pc_value_Name {G : Nat → Option AV} {args : List AV} {r : AV} (h : Runs Go.Proofs.Tryd.prog G c_value_Name args r) (hk : args.length = c_value_Name.k := by rfl) : PureC Go.Proofs.Tryd.prog G n_value_Name args r := PureC.of_runs (fn := Go.Proofs.Tryd.f116) (A := c_value_Name) Go.Proofs.Tryd.func116 k_value_Name hk h
def c_value_Op : AFun := ⟨117, 3, [.cells 6 4, .t 7],
  (.seq (.reg [⟨some 4, .box t_api_Value 4 (.t 1), none⟩,
⟨some 5, .box t_api_Value 4 (.t 2), none⟩,
⟨some 6, .alloc t_api_Value 4 (.agg [.int .i64 0, .int .i64 0, .str [], .bool false]), none⟩,
⟨some 7, .mov (.k (.int .i64 0)), none⟩]
[0, 4, 5, 6])
(.seq (.block 0
(.seq (.reg [⟨some 11, .mov (.t 0), none⟩,
⟨some 12, .bin .lss (.t 11) (.k (.int .i64 4)), none⟩,
⟨some 13, .mov (.t 12), none⟩,
⟨some 14, .mov (.t 0), (some (13, false))⟩,
⟨some 15, .bin .gtr (.t 14) (.k (.int .i64 16)), (some (13, false))⟩,
⟨some 16, .pick (.t 13) (.k (.bool true)) (.t 15), none⟩,
⟨some 10, .mov (.t 16), none⟩]
[0, 4, 5, 6, 10])
(.cond (.t 10)
(.seq (.reg [⟨some 17, .build [.int .i64 0, .int .i64 0, .str [], .bool false] [], none⟩,
⟨none, .store (.t 6) (.t 17) 4, none⟩,
⟨some 7, .mov (.k (.int .i64 1)), none⟩]
[6, 7])
.ret)
(.seq (.reg [⟨some 19, .mov (.t 0), none⟩,
⟨some 20, .faddr (.t 4) 0, none⟩,
⟨some 21, .load (.t 20), none⟩,
⟨some 22, .faddr (.t 5) 0, none⟩,
⟨some 23, .load (.t 22), none⟩,
⟨some 24, .call n_value_Type [.t 19, .t 21, .t 23], none⟩,
⟨some 25, .bin .eql (.t 24) (.k (.int .i64 0)), none⟩,
⟨some 18, .mov (.t 25), none⟩]
[0, 4, 5, 6, 18])
(.cond (.t 18)
(.seq (.reg [⟨some 26, .build [.int .i64 0, .int .i64 0, .str [], .bool false] [], none⟩,
⟨none, .store (.t 6) (.t 26) 4, none⟩,
⟨some 7, .mov (.k (.int .i64 8)), none⟩]
[6, 7])
.ret)
.skip)))))
(.seq (.seq (.reg [⟨some 27, .mov (.t 0), none⟩]
[0, 4, 5, 6, 27])
(.block 1
(.seq (.reg [⟨some 29, .bin .eql (.t 27) (.k (.int .i64 4)), none⟩,
⟨some 28, .mov (.t 29), none⟩]
[0, 4, 5, 6, 27, 28])
(.cond (.t 28)
(.seq (.reg [⟨some 30, .faddr (.t 4) 3, none⟩,
⟨some 31, .load (.t 30), none⟩,
⟨some 32, .un .not (.t 31), none⟩,
⟨some 33, .call n_value_truth [.t 32], none⟩,
⟨some 34, .ext (.t 33) 0, none⟩,
⟨some 35, .ext (.t 33) 1, none⟩,
⟨none, .store (.t 6) (.t 34) 4, none⟩,
⟨some 7, .mov (.t 35), none⟩]
[6, 7])
.ret)
(.seq (.reg [⟨some 37, .bin .eql (.t 27) (.k (.int .i64 6)), none⟩,
⟨some 36, .mov (.t 37), none⟩]
[0, 4, 5, 6, 27, 36])
(.cond (.t 36)
(.seq (.reg [⟨some 38, .faddr (.t 4) 3, none⟩,
⟨some 39, .load (.t 38), none⟩,
⟨some 40, .mov (.t 39), none⟩,
⟨some 41, .faddr (.t 5) 3, (some (40, true))⟩,
⟨some 42, .load (.t 41), (some (40, true))⟩,
⟨some 43, .pick (.t 40) (.t 42) (.k (.bool false)), none⟩,
⟨some 44, .call n_value_truth [.t 43], none⟩,
⟨some 45, .ext (.t 44) 0, none⟩,
⟨some 46, .ext (.t 44) 1, none⟩,
⟨none, .store (.t 6) (.t 45) 4, none⟩,
⟨some 7, .mov (.t 46), none⟩]
[6, 7])
.ret)
(.seq (.reg [⟨some 48, .bin .eql (.t 27) (.k (.int .i64 7)), none⟩,
⟨some 47, .mov (.t 48), none⟩]
[0, 4, 5, 6, 27, 47])
(.cond (.t 47)
(.seq (.reg [⟨some 49, .faddr (.t 4) 3, none⟩,
⟨some 50, .load (.t 49), none⟩,
⟨some 51, .mov (.t 50), none⟩,
⟨some 52, .faddr (.t 5) 3, (some (51, false))⟩,
⟨some 53, .load (.t 52), (some (51, false))⟩,
⟨some 54, .pick (.t 51) (.k (.bool true)) (.t 53), none⟩,
⟨some 55, .call n_value_truth [.t 54], none⟩,
⟨some 56, .ext (.t 55) 0, none⟩,
⟨some 57, .ext (.t 55) 1, none⟩,
⟨none, .store (.t 6) (.t 56) 4, none⟩,
⟨some 7, .mov (.t 57), none⟩]
[6, 7])
.ret)
(.seq (.reg [⟨some 59, .bin .eql (.t 27) (.k (.int .i64 13)), none⟩,
⟨some 58, .mov (.t 59), none⟩]
[0, 4, 5, 6, 27, 58])
(.cond (.t 58)
(.seq (.reg [⟨some 60, .loadN (.t 4) 4, none⟩,
⟨some 61, .loadN (.t 5) 4, none⟩,
⟨some 62, .eqA false [0, 0, 1, 2] (.t 60) (.t 61), none⟩,
⟨some 63, .call n_value_truth [.t 62], none⟩,
⟨some 64, .ext (.t 63) 0, none⟩,
⟨some 65, .ext (.t 63) 1, none⟩,
⟨none, .store (.t 6) (.t 64) 4, none⟩,
⟨some 7, .mov (.t 65), none⟩]
[6, 7])
.ret)
(.seq (.reg [⟨some 67, .bin .eql (.t 27) (.k (.int .i64 14)), none⟩,
⟨some 66, .mov (.t 67), none⟩]
[0, 4, 5, 6, 27, 66])
(.cond (.t 66)
(.seq (.reg [⟨some 68, .loadN (.t 4) 4, none⟩,
⟨some 69, .loadN (.t 5) 4, none⟩,
⟨some 70, .eqA true [0, 0, 1, 2] (.t 68) (.t 69), none⟩,
⟨some 71, .call n_value_truth [.t 70], none⟩,
⟨some 72, .ext (.t 71) 0, none⟩,
⟨some 73, .ext (.t 71) 1, none⟩,
⟨none, .store (.t 6) (.t 72) 4, none⟩,
⟨some 7, .mov (.t 73), none⟩]
[6, 7])
.ret)
(.seq (.reg [⟨some 75, .bin .eql (.t 27) (.k (.int .i64 15)), none⟩,
⟨some 74, .mov (.t 75), none⟩]
[0, 4, 5, 6, 27, 74])
(.cond (.t 74)
(.seq (.reg [⟨some 76, .loadN (.t 4) 4, none⟩,
⟨some 77, .loadN (.t 5) 4, none⟩,
⟨some 78, .call n_value_Less [.t 76, .t 77], none⟩,
⟨some 79, .call n_value_truth [.t 78], none⟩,
⟨some 80, .ext (.t 79) 0, none⟩,
⟨some 81, .ext (.t 79) 1, none⟩,
⟨none, .store (.t 6) (.t 80) 4, none⟩,
⟨some 7, .mov (.t 81), none⟩]
[6, 7])
.ret)
(.seq (.reg [⟨some 83, .bin .eql (.t 27) (.k (.int .i64 16)), none⟩,
⟨some 82, .mov (.t 83), none⟩]
[0, 4, 5, 6, 82])
(.cond (.t 82)
(.seq (.reg [⟨some 84, .loadN (.t 5) 4, none⟩,
⟨some 85, .loadN (.t 4) 4, none⟩,
⟨some 86, .call n_value_Less [.t 84, .t 85], none⟩,
⟨some 87, .un .not (.t 86), none⟩,
⟨some 88, .call n_value_truth [.t 87], none⟩,
⟨some 89, .ext (.t 88) 0, none⟩,
⟨some 90, .ext (.t 88) 1, none⟩,
⟨none, .store (.t 6) (.t 89) 4, none⟩,
⟨some 7, .mov (.t 90), none⟩]
[6, 7])
.ret)
.skip))))))))))))))))
(.seq (.seq (.reg [⟨some 91, .faddr (.t 4) 0, none⟩,
⟨some 92, .load (.t 91), none⟩,
⟨some 93, .bin .eql (.t 92) (.k (.int .i64 2)), none⟩]
[0, 4, 5, 6, 93])
(.cond (.t 93)
(.seq (.reg [⟨some 94, .faddr (.t 4) 2, none⟩,
⟨some 95, .load (.t 94), none⟩,
⟨some 96, .faddr (.t 5) 2, none⟩,
⟨some 97, .load (.t 96), none⟩,
⟨some 98, .bin .add (.t 95) (.t 97), none⟩,
⟨some 99, .call n_value_text [.t 98], none⟩,
⟨some 100, .ext (.t 99) 0, none⟩,
⟨some 101, .ext (.t 99) 1, none⟩,
⟨none, .store (.t 6) (.t 100) 4, none⟩,
⟨some 7, .mov (.t 101), none⟩]
[6, 7])
.ret)
.skip))
(.seq (.reg [⟨some 103, .mov (.t 0), none⟩,
⟨some 104, .faddr (.t 4) 1, none⟩,
⟨some 105, .load (.t 104), none⟩,
⟨some 106, .faddr (.t 5) 1, none⟩,
⟨some 107, .load (.t 106), none⟩,
⟨some 108, .call n_num_Op [.t 103, .t 105, .t 107], none⟩,
⟨some 102, .mov (.t 108), none⟩,
⟨some 109, .ext (.t 102) 0, none⟩,
⟨some 110, .ext (.t 102) 1, none⟩,
⟨some 8, .mov (.t 109), none⟩,
⟨some 9, .mov (.t 110), none⟩]
[6, 8, 9])
(.seq (.seq (.reg [⟨some 111, .mov (.t 9), none⟩,
⟨some 112, .bin .neq (.t 111) (.k (.int .i64 0)), none⟩]
[6, 8, 9, 112])
(.cond (.t 112)
(.seq (.reg [⟨some 113, .build [.int .i64 0, .int .i64 0, .str [], .bool false] [], none⟩,
⟨some 114, .mov (.t 9), none⟩,
⟨none, .store (.t 6) (.t 113) 4, none⟩,
⟨some 7, .mov (.t 114), none⟩]
[6, 7])
.ret)
.skip))
(.seq (.reg [⟨some 115, .mov (.t 8), none⟩,
⟨some 116, .call n_value_Int [.t 115], none⟩,
⟨none, .store (.t 6) (.t 116) 4, none⟩,
⟨some 7, .mov (.k (.int .i64 0)), none⟩]
[6, 7])
.ret)))))))⟩
theorem k_value_Op : chkF Go.Proofs.Tryd.prog Go.Proofs.Tryd.f94 c_value_Op = true := by kernel_rfl
theorem pc_value_Op {G : Nat → Option AV} {args : List AV} {r : AV} (h : Runs Go.Proofs.Tryd.prog G c_value_Op args r) (hk : args.length = c_value_Op.k := by rfl) : PureC Go.Proofs.Tryd.prog G n_value_Op args r := PureC.of_runs (fn := Go.Proofs.Tryd.f94) (A := c_value_Op) Go.Proofs.Tryd.func94 k_value_Op hk h
def c_value_Right : AFun := ⟨32, 1, [.t 2],
  (.seq (.reg [⟨some 1, .box t_api_Value 4 (.t 0), none⟩,
⟨some 2, .mov (.k (.bool false)), none⟩]
[1])
(.seq (.seq (.reg [⟨some 3, .faddr (.t 1) 0, none⟩,
⟨some 4, .load (.t 3), none⟩]
[1, 4])
(.block 0
(.seq (.reg [⟨some 6, .bin .eql (.t 4) (.k (.int .i64 1)), none⟩,
⟨some 5, .mov (.t 6), none⟩]
[1, 4, 5])
(.cond (.t 5)
(.seq (.dreg [⟨some 7, .loadN (.t 1) 4, none⟩,
⟨some 8, .faddr (.t 1) 1, none⟩,
⟨some 9, .load (.t 8), none⟩,
⟨some 10, .call n_value_Int [.t 9], none⟩,
⟨some 11, .eqA false [0, 0, 1, 2] (.t 7) (.t 10), none⟩,
⟨some 2, .mov (.t 11), none⟩]
[2])
.ret)
(.seq (.reg [⟨some 13, .bin .eql (.t 4) (.k (.int .i64 2)), none⟩,
⟨some 12, .mov (.t 13), none⟩]
[1, 4, 12])
(.cond (.t 12)
(.seq (.dreg [⟨some 14, .loadN (.t 1) 4, none⟩,
⟨some 15, .faddr (.t 1) 2, none⟩,
⟨some 16, .load (.t 15), none⟩,
⟨some 17, .call n_value_Str [.t 16], none⟩,
⟨some 18, .eqA false [0, 0, 1, 2] (.t 14) (.t 17), none⟩,
⟨some 19, .mov (.t 18), none⟩,
⟨some 20, .faddr (.t 1) 2, (some (19, true))⟩,
⟨some 21, .load (.t 20), (some (19, true))⟩,
⟨some 22, .len true (.t 21), (some (19, true))⟩,
⟨some 23, .bin .leq (.t 22) (.k (.int .i64 4096)), (some (19, true))⟩,
⟨some 24, .pick (.t 19) (.t 23) (.k (.bool false)), none⟩,
⟨some 2, .mov (.t 24), none⟩]
[2])
.ret)
(.seq (.reg [⟨some 26, .bin .eql (.t 4) (.k (.int .i64 3)), none⟩,
⟨some 25, .mov (.t 26), none⟩]
[1, 25])
(.cond (.t 25)
(.seq (.dreg [⟨some 27, .loadN (.t 1) 4, none⟩,
⟨some 28, .faddr (.t 1) 3, none⟩,
⟨some 29, .load (.t 28), none⟩,
⟨some 30, .call n_value_Bool [.t 29], none⟩,
⟨some 31, .eqA false [0, 0, 1, 2] (.t 27) (.t 30), none⟩,
⟨some 2, .mov (.t 31), none⟩]
[2])
.ret)
.skip))))))))
(.seq (.reg [⟨some 2, .mov (.k (.bool false)), none⟩]
[2])
.ret)))⟩
theorem k_value_Right : chkF Go.Proofs.Tryd.prog Go.Proofs.Tryd.f45 c_value_Right = true := by kernel_rfl
theorem pc_value_Right {G : Nat → Option AV} {args : List AV} {r : AV} (h : Runs Go.Proofs.Tryd.prog G c_value_Right args r) (hk : args.length = c_value_Right.k := by rfl) : PureC Go.Proofs.Tryd.prog G n_value_Right args r := PureC.of_runs (fn := Go.Proofs.Tryd.f45) (A := c_value_Right) Go.Proofs.Tryd.func45 k_value_Right hk h
def c_value_Str : AFun := ⟨5, 1, [.cells 2 4],
  (.seq (.reg [⟨some 2, .alloc t_api_Value 4 (.agg [.int .i64 0, .int .i64 0, .str [], .bool false]), none⟩]
[0, 2])
(.seq (.reg [⟨some 3, .mov (.t 0), none⟩,
⟨some 4, .build [.int .i64 0, .int .i64 0, .str [], .bool false] [(0, 1, .k (.int .i64 2)), (2, 1, .t 3)], none⟩,
⟨none, .store (.t 2) (.t 4) 4, none⟩]
[2])
.ret))⟩
theorem k_value_Str : chkF Go.Proofs.Tryd.prog Go.Proofs.Tryd.f70 c_value_Str = true := by kernel_rfl
theorem pc_value_Str {G : Nat → Option AV} {args : List AV} {r : AV} (h : Runs Go.Proofs.Tryd.prog G c_value_Str args r) (hk : args.length = c_value_Str.k := by rfl) : PureC Go.Proofs.Tryd.prog G n_value_Str args r := PureC.of_runs (fn := Go.Proofs.Tryd.f70) (A := c_value_Str) Go.Proofs.Tryd.func70 k_value_Str hk h
def c_value_Type : AFun := ⟨81, 3, [.t 6],
  (.seq (.reg [⟨some 6, .mov (.k (.int .i64 0)), none⟩]
[0, 1, 2])
(.seq (.seq (.reg [⟨some 7, .mov (.t 0), none⟩]
[1, 2, 7])
(.block 0
(.seq (.block 7
(.seq (.block 6
(.seq (.block 5
(.seq (.block 4
(.seq (.block 3
(.seq (.block 2
(.seq (.block 1
(.seq (.seq (.seq (.reg [⟨some 9, .bin .eql (.t 7) (.k (.int .i64 4)), none⟩,
⟨some 8, .mov (.t 9), none⟩]
[1, 2, 7, 8])
(.cond (.t 8)
(.exit 1)
.skip))
(.seq (.seq (.seq (.reg [⟨some 11, .bin .eql (.t 7) (.k (.int .i64 6)), none⟩,
⟨some 10, .mov (.t 11), none⟩]
[1, 2, 7, 10])
(.cond (.t 10)
.skip
(.reg [⟨some 12, .bin .eql (.t 7) (.k (.int .i64 7)), none⟩,
⟨some 10, .mov (.t 12), none⟩]
[1, 2, 7, 10])))
(.cond (.t 10)
(.exit 2)
.skip))
(.seq (.seq (.reg [⟨some 14, .bin .eql (.t 7) (.k (.int .i64 5)), none⟩,
⟨some 13, .mov (.t 14), none⟩]
[1, 2, 7, 13])
(.cond (.t 13)
(.exit 3)
.skip))
(.seq (.seq (.seq (.reg [⟨some 16, .bin .eql (.t 7) (.k (.int .i64 9)), none⟩,
⟨some 15, .mov (.t 16), none⟩]
[1, 2, 7, 15])
(.cond (.t 15)
.skip
(.seq (.reg [⟨some 17, .bin .eql (.t 7) (.k (.int .i64 10)), none⟩,
⟨some 15, .mov (.t 17), none⟩]
[1, 2, 7, 15])
(.cond (.t 15)
.skip
(.seq (.reg [⟨some 18, .bin .eql (.t 7) (.k (.int .i64 11)), none⟩,
⟨some 15, .mov (.t 18), none⟩]
[1, 2, 7, 15])
(.cond (.t 15)
.skip
(.reg [⟨some 19, .bin .eql (.t 7) (.k (.int .i64 12)), none⟩,
⟨some 15, .mov (.t 19), none⟩]
[1, 2, 7, 15])))))))
(.cond (.t 15)
(.exit 4)
.skip))
(.seq (.seq (.reg [⟨some 21, .bin .eql (.t 7) (.k (.int .i64 8)), none⟩,
⟨some 20, .mov (.t 21), none⟩]
[1, 2, 7, 20])
(.cond (.t 20)
(.exit 5)
.skip))
(.seq (.seq (.seq (.reg [⟨some 23, .bin .eql (.t 7) (.k (.int .i64 13)), none⟩,
⟨some 22, .mov (.t 23), none⟩]
[1, 2, 7, 22])
(.cond (.t 22)
.skip
(.reg [⟨some 24, .bin .eql (.t 7) (.k (.int .i64 14)), none⟩,
⟨some 22, .mov (.t 24), none⟩]
[1, 2, 7, 22])))
(.cond (.t 22)
(.exit 6)
.skip))
(.seq (.seq (.reg [⟨some 26, .bin .eql (.t 7) (.k (.int .i64 15)), none⟩,
⟨some 25, .mov (.t 26), none⟩]
[1, 2, 7, 25])
(.cond (.t 25)
.skip
(.reg [⟨some 27, .bin .eql (.t 7) (.k (.int .i64 16)), none⟩,
⟨some 25, .mov (.t 27), none⟩]
[1, 2, 25])))
(.cond (.t 25)
(.exit 7)
.skip))))))))
(.exit 0)))
(.reg [⟨some 28, .mov (.t 1), none⟩,
⟨some 2, .mov (.t 28), none⟩]
[1, 2])))
(.seq (.seq (.reg [⟨some 29, .mov (.t 1), none⟩,
⟨some 30, .bin .eql (.t 29) (.k (.int .i64 3)), none⟩,
⟨some 31, .mov (.t 30), none⟩,
⟨some 32, .mov (.t 2), (some (31, true))⟩,
⟨some 33, .mov (.t 1), (some (31, true))⟩,
⟨some 34, .bin .eql (.t 32) (.t 33), (some (31, true))⟩,
⟨some 35, .pick (.t 31) (.t 34) (.k (.bool false)), none⟩,
⟨some 36, .call n_value_when [.t 35, .k (.int .i64 3)], none⟩,
⟨some 6, .mov (.t 36), none⟩]
[6])
.ret)
(.exit 0))))
(.reg [⟨some 37, .mov (.t 1), none⟩,
⟨some 2, .mov (.t 37), none⟩]
[1, 2])))
(.seq (.seq (.reg [⟨some 38, .mov (.t 1), none⟩,
⟨some 39, .bin .eql (.t 38) (.k (.int .i64 1)), none⟩,
⟨some 40, .mov (.t 39), none⟩,
⟨some 41, .mov (.t 2), (some (40, true))⟩,
⟨some 42, .mov (.t 1), (some (40, true))⟩,
⟨some 43, .bin .eql (.t 41) (.t 42), (some (40, true))⟩,
⟨some 44, .pick (.t 40) (.t 43) (.k (.bool false)), none⟩,
⟨some 45, .mov (.t 1), none⟩,
⟨some 46, .call n_value_when [.t 44, .t 45], none⟩,
⟨some 6, .mov (.t 46), none⟩]
[6])
.ret)
(.exit 0))))
(.seq (.seq (.reg [⟨some 47, .mov (.t 1), none⟩,
⟨some 48, .bin .eql (.t 47) (.k (.int .i64 1)), none⟩,
⟨some 49, .mov (.t 48), none⟩,
⟨some 50, .mov (.t 1), (some (49, false))⟩,
⟨some 51, .bin .eql (.t 50) (.k (.int .i64 2)), (some (49, false))⟩,
⟨some 52, .pick (.t 49) (.k (.bool true)) (.t 51), none⟩,
⟨some 53, .mov (.t 52), none⟩,
⟨some 54, .mov (.t 2), (some (53, true))⟩,
⟨some 55, .mov (.t 1), (some (53, true))⟩,
⟨some 56, .bin .eql (.t 54) (.t 55), (some (53, true))⟩,
⟨some 57, .pick (.t 53) (.t 56) (.k (.bool false)), none⟩,
⟨some 58, .mov (.t 1), none⟩,
⟨some 59, .call n_value_when [.t 57, .t 58], none⟩,
⟨some 6, .mov (.t 59), none⟩]
[6])
.ret)
(.exit 0))))
(.seq (.seq (.reg [⟨some 60, .mov (.t 1), none⟩,
⟨some 61, .call n_value_Name [.t 60], none⟩,
⟨some 62, .bin .neq (.t 61) (.k (.str [])), none⟩,
⟨some 63, .mov (.t 62), none⟩,
⟨some 64, .mov (.t 2), (some (63, true))⟩,
⟨some 65, .mov (.t 1), (some (63, true))⟩,
⟨some 66, .bin .eql (.t 64) (.t 65), (some (63, true))⟩,
⟨some 67, .pick (.t 63) (.t 66) (.k (.bool false)), none⟩,
⟨some 68, .call n_value_when [.t 67, .k (.int .i64 3)], none⟩,
⟨some 6, .mov (.t 68), none⟩]
[6])
.ret)
(.exit 0))))
(.seq (.seq (.reg [⟨some 69, .mov (.t 1), none⟩,
⟨some 70, .bin .eql (.t 69) (.k (.int .i64 1)), none⟩,
⟨some 71, .mov (.t 70), none⟩,
⟨some 72, .mov (.t 1), (some (71, false))⟩,
⟨some 73, .bin .eql (.t 72) (.k (.int .i64 2)), (some (71, false))⟩,
⟨some 74, .pick (.t 71) (.k (.bool true)) (.t 73), none⟩,
⟨some 75, .mov (.t 74), none⟩,
⟨some 76, .mov (.t 2), (some (75, true))⟩,
⟨some 77, .mov (.t 1), (some (75, true))⟩,
⟨some 78, .bin .eql (.t 76) (.t 77), (some (75, true))⟩,
⟨some 79, .pick (.t 75) (.t 78) (.k (.bool false)), none⟩,
⟨some 80, .call n_value_when [.t 79, .k (.int .i64 3)], none⟩,
⟨some 6, .mov (.t 80), none⟩]
[6])
.ret)
(.exit 0)))))
(.seq (.reg [⟨some 6, .mov (.k (.int .i64 0)), none⟩]
[6])
.ret)))⟩
theorem k_value_Type : chkF Go.Proofs.Tryd.prog Go.Proofs.Tryd.f91 c_value_Type = true := by kernel_rfl
theorem pc_value_Type {G : Nat → Option AV} {args : List AV} {r : AV} (h : Runs Go.Proofs.Tryd.prog G c_value_Type args r) (hk : args.length = c_value_Type.k := by rfl) : PureC Go.Proofs.Tryd.prog G n_value_Type args r := PureC.of_runs (fn := Go.Proofs.Tryd.f91) (A := c_value_Type) Go.Proofs.Tryd.func91 k_value_Type hk h
def c_value_text : AFun := ⟨10, 1, [.cells 2 4, .t 3],
  (.seq (.reg [⟨some 2, .alloc t_api_Value 4 (.agg [.int .i64 0, .int .i64 0, .str [], .bool false]), none⟩,
⟨some 3, .mov (.k (.int .i64 0)), none⟩]
[0, 2])
(.seq (.seq (.reg [⟨some 4, .mov (.t 0), none⟩,
⟨some 5, .len true (.t 4), none⟩,
⟨some 6, .bin .gtr (.t 5) (.k (.int .i64 4096)), none⟩]
[0, 2, 6])
(.cond (.t 6)
(.seq (.reg [⟨some 7, .build [.int .i64 0, .int .i64 0, .str [], .bool false] [], none⟩,
⟨none, .store (.t 2) (.t 7) 4, none⟩,
⟨some 3, .mov (.k (.int .i64 3)), none⟩]
[2, 3])
.ret)
.skip))
(.seq (.reg [⟨some 8, .mov (.t 0), none⟩,
⟨some 9, .call n_value_Str [.t 8], none⟩,
⟨none, .store (.t 2) (.t 9) 4, none⟩,
⟨some 3, .mov (.k (.int .i64 0)), none⟩]
[2, 3])
.ret)))⟩
theorem k_value_text : chkF Go.Proofs.Tryd.prog Go.Proofs.Tryd.f119 c_value_text = true := by kernel_rfl
theorem pc_value_text {G : Nat → Option AV} {args : List AV} {r : AV} (h : Runs Go.Proofs.Tryd.prog G c_value_text args r) (hk : args.length = c_value_text.k := by rfl) : PureC Go.Proofs.Tryd.prog G n_value_text args r := PureC.of_runs (fn := Go.Proofs.Tryd.f119) (A := c_value_text) Go.Proofs.Tryd.func119 k_value_text hk h
def c_value_truth : AFun := ⟨6, 1, [.cells 2 4, .t 3],
  (.seq (.reg [⟨some 2, .alloc t_api_Value 4 (.agg [.int .i64 0, .int .i64 0, .str [], .bool false]), none⟩,
⟨some 3, .mov (.k (.int .i64 0)), none⟩]
[0, 2])
(.seq (.reg [⟨some 4, .mov (.t 0), none⟩,
⟨some 5, .call n_value_Bool [.t 4], none⟩,
⟨none, .store (.t 2) (.t 5) 4, none⟩,
⟨some 3, .mov (.k (.int .i64 0)), none⟩]
[2, 3])
.ret))⟩
theorem k_value_truth : chkF Go.Proofs.Tryd.prog Go.Proofs.Tryd.f118 c_value_truth = true := by kernel_rfl
theorem pc_value_truth {G : Nat → Option AV} {args : List AV} {r : AV} (h : Runs Go.Proofs.Tryd.prog G c_value_truth args r) (hk : args.length = c_value_truth.k := by rfl) : PureC Go.Proofs.Tryd.prog G n_value_truth args r := PureC.of_runs (fn := Go.Proofs.Tryd.f118) (A := c_value_truth) Go.Proofs.Tryd.func118 k_value_truth hk h
def c_value_when : AFun := ⟨8, 2, [.t 4],
  (.seq (.reg [⟨some 4, .mov (.k (.int .i64 0)), none⟩]
[0, 1])
(.seq (.seq (.reg [⟨some 5, .mov (.t 0), none⟩,
⟨some 6, .un .not (.t 5), none⟩]
[1, 6])
(.cond (.t 6)
(.seq (.reg [⟨some 4, .mov (.k (.int .i64 0)), none⟩]
[4])
.ret)
.skip))
(.seq (.reg [⟨some 7, .mov (.t 1), none⟩,
⟨some 4, .mov (.t 7), none⟩]
[4])
.ret)))⟩
theorem k_value_when : chkF Go.Proofs.Tryd.prog Go.Proofs.Tryd.f115 c_value_when = true := by kernel_rfl
theorem pc_value_when {G : Nat → Option AV} {args : List AV} {r : AV} (h : Runs Go.Proofs.Tryd.prog G c_value_when args r) (hk : args.length = c_value_when.k := by rfl) : PureC Go.Proofs.Tryd.prog G n_value_when args r := PureC.of_runs (fn := Go.Proofs.Tryd.f115) (A := c_value_when) Go.Proofs.Tryd.func115 k_value_when hk h
def c_slices_EqualFunc_api_Value_api_Free_api_Value_api_Free : AFun := ⟨32, 3, [.t 6],
  (.seq (.reg [⟨some 6, .mov (.k (.bool false)), none⟩]
[0, 1, 2])
(.seq (.seq (.reg [⟨some 10, .mov (.t 0), none⟩,
⟨some 11, .len false (.t 10), none⟩,
⟨some 12, .mov (.t 1), none⟩,
⟨some 13, .len false (.t 12), none⟩,
⟨some 14, .bin .neq (.t 11) (.t 13), none⟩]
[0, 1, 2, 14])
(.cond (.t 14)
(.seq (.reg [⟨some 6, .mov (.k (.bool false)), none⟩]
[6])
.ret)
.skip))
(.seq (.seq (.reg [⟨some 15, .mov (.t 0), none⟩,
⟨some 16, .len false (.t 15), none⟩,
⟨some 17, .mov (.k (.int .i64 0)), none⟩]
[1, 2, 15, 16, 17])
(.block 0
(.loop [1, 2, 15, 16, 17] [11, 13, 16]
  (.seq (.reg [⟨some 18, .bin .lss (.t 17) (.t 16), none⟩]
[1, 2, 15, 16, 17, 18])
(.seq (.cond (.t 18)
.skip
(.exit 0))
(.seq (.block 1
(.seq (.reg [⟨some 19, .mov (.t 17), none⟩,
⟨some 20, .iaddr 4 (.t 15) (.t 17), none⟩,
⟨some 21, .loadN (.t 20) 4, none⟩,
⟨some 8, .alloc t_api_Value 4 (.agg [.int .i64 0, .int .i64 0, .str [], .bool false]), none⟩,
⟨some 7, .mov (.t 19), none⟩,
⟨none, .store (.t 8) (.t 21) 4, none⟩]
[1, 2, 7, 8, 15, 16, 17])
(.seq (.reg [⟨some 22, .mov (.t 1), none⟩,
⟨some 23, .mov (.t 7), none⟩,
⟨some 24, .iaddr 5 (.t 22) (.t 23), none⟩,
⟨some 25, .loadN (.t 24) 5, none⟩,
⟨some 9, .alloc t_api_Free 5 (.agg [.str [], .int .i64 0, .int .i64 0, .str [], .bool false]), none⟩,
⟨none, .store (.t 9) (.t 25) 5, none⟩]
[1, 2, 8, 9, 15, 16, 17])
(.seq (.reg [⟨some 26, .mov (.t 2), none⟩,
⟨some 27, .loadN (.t 8) 4, none⟩,
⟨some 28, .loadN (.t 9) 5, none⟩,
⟨some 29, .callv (.t 26) [.t 27, .t 28], none⟩,
⟨some 30, .un .not (.t 29), none⟩]
[1, 2, 15, 16, 17, 30])
(.cond (.t 30)
(.seq (.reg [⟨some 6, .mov (.k (.bool false)), none⟩]
[6])
.ret)
.skip)))))
(.reg [⟨some 31, .bin .add (.t 17) (.k (.int .i64 1)), none⟩,
⟨some 17, .mov (.t 31), none⟩]
[1, 2, 15, 16, 17])))))))
(.seq (.reg [⟨some 6, .mov (.k (.bool true)), none⟩]
[6])
.ret))))⟩
theorem k_slices_EqualFunc_api_Value_api_Free_api_Value_api_Free : chkF Go.Proofs.Tryd.prog Go.Proofs.Tryd.f43 c_slices_EqualFunc_api_Value_api_Free_api_Value_api_Free = true := by kernel_rfl
theorem pc_slices_EqualFunc_api_Value_api_Free_api_Value_api_Free {G : Nat → Option AV} {args : List AV} {r : AV} (h : Runs Go.Proofs.Tryd.prog G c_slices_EqualFunc_api_Value_api_Free_api_Value_api_Free args r) (hk : args.length = c_slices_EqualFunc_api_Value_api_Free_api_Value_api_Free.k := by rfl) : PureC Go.Proofs.Tryd.prog G n_slices_EqualFunc_api_Value_api_Free_api_Value_api_Free args r := PureC.of_runs (fn := Go.Proofs.Tryd.f43) (A := c_slices_EqualFunc_api_Value_api_Free_api_Value_api_Free) Go.Proofs.Tryd.func43 k_slices_EqualFunc_api_Value_api_Free_api_Value_api_Free hk h
def c_eval_must : AFun := ⟨15, 3, [.cells 6 4],
  (.seq (.reg [⟨some 4, .box t_api_Value 4 (.t 1), none⟩,
⟨some 6, .alloc t_api_Value 4 (.agg [.int .i64 0, .int .i64 0, .str [], .bool false]), none⟩]
[0, 2, 4, 6])
(.seq (.seq (.reg [⟨some 7, .mov (.t 2), none⟩,
⟨some 8, .bin .neq (.t 7) (.k (.int .i64 0)), none⟩]
[0, 2, 4, 6, 8])
(.cond (.t 8)
(.reg [⟨some 9, .mov (.t 0), none⟩,
⟨some 10, .mov (.t 2), none⟩,
⟨some 11, .mki t_api_Errno (.t 10), none⟩,
⟨some 12, .build [.int .i64 0, .nili] [(0, 1, .t 9), (1, 1, .t 11)], none⟩,
⟨some 13, .mki t_eval_wrong (.t 12), none⟩,
⟨none, .bad, none⟩]
[4, 6])
.skip))
(.seq (.reg [⟨some 14, .loadN (.t 4) 4, none⟩,
⟨none, .store (.t 6) (.t 14) 4, none⟩]
[6])
.ret)))⟩
theorem k_eval_must : chkF Go.Proofs.Tryd.prog Go.Proofs.Tryd.f93 c_eval_must = true := by kernel_rfl
theorem pc_eval_must {G : Nat → Option AV} {args : List AV} {r : AV} (h : Runs Go.Proofs.Tryd.prog G c_eval_must args r) (hk : args.length = c_eval_must.k := by rfl) : PureC Go.Proofs.Tryd.prog G n_eval_must args r := PureC.of_runs (fn := Go.Proofs.Tryd.f93) (A := c_eval_must) Go.Proofs.Tryd.func93 k_eval_must hk h
end Go.Proofs.YtdfdiglnpekcpabDoor.Ab
