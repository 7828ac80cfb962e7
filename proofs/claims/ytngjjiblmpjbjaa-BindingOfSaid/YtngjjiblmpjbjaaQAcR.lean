/-
  The functions' abstract code, by program (acgen.py), and that the model's code is it, reckoned by the kernel. No claim is proved here.
-/
import Derived.Test.YtngjjiblmpjbjaaQAbRun
import Derived.Test.YtngjjiblmpjbjaaProg
namespace Go.Proofs.Ytngjjiblmpjbjaa.Ab
open Go
abbrev t_string : Nat := 9
abbrev t_Sapi_Slot : Nat := 22
abbrev t_api_Value : Nat := 28
abbrev t_api_Slot : Nat := 32
abbrev n_proctorlaw05_BindingOf : Nat := 3
abbrev n_proctorlaw05_awake : Nat := 4
abbrev n_binding_Of : Nat := 5
abbrev n_binding_Right : Nat := 6
abbrev n_proctorref05_Right : Nat := 7
abbrev n_proctorref05_Get : Nat := 8
abbrev n_proctorref05_Union : Nat := 9
abbrev n_binding_Get : Nat := 10
abbrev n_proctorref05_Same : Nat := 11
abbrev n_binding_Union : Nat := 12
abbrev n_binding_Under : Nat := 13
abbrev n_binding_find : Nat := 14
abbrev n_slices_Insert_api_Slot_api_Slot : Nat := 15
abbrev n_value_Right : Nat := 16
abbrev n_proctorref03_Right : Nat := 17
abbrev n_binding_Fits : Nat := 18
abbrev n_slices_Concat_api_Slot_api_Slot : Nat := 19
abbrev n_slices_BinarySearchFunc_api_Slot_api_Slot_int : Nat := 21
abbrev n_binding_find_1 : Nat := 22
abbrev n_value_Int : Nat := 25
abbrev n_value_Str : Nat := 26
abbrev n_value_Bool : Nat := 27
abbrev n_slices_Grow_api_Slot_api_Slot : Nat := 28
def c_binding_Get : AFun := ⟨22, 2, [.cells 4 4, .t 5],
  (.seq (.reg [⟨some 4, .alloc t_api_Value 4 (.agg [.int .i64 0, .int .i64 0, .str [], .bool false]), none⟩,
⟨some 5, .mov (.k (.bool false)), none⟩]
[0, 1, 4])
(.seq (.seq (.reg [⟨some 8, .mov (.t 0), none⟩,
⟨some 9, .len false (.t 8), none⟩,
⟨some 10, .mov (.k (.int .i64 0)), none⟩]
[1, 4, 8, 9, 10])
(.block 0
(.loop [1, 4, 8, 9, 10] [4, 9]
  (.seq (.reg [⟨some 11, .bin .lss (.t 10) (.t 9), none⟩]
[1, 4, 8, 9, 10, 11])
(.seq (.cond (.t 11)
.skip
(.exit 0))
(.seq (.block 1
(.seq (.reg [⟨some 12, .iaddr 5 (.t 8) (.t 10), none⟩,
⟨some 13, .loadN (.t 12) 5, none⟩,
⟨some 7, .alloc t_api_Slot 5 (.agg [.int .i64 0, .int .i64 0, .int .i64 0, .str [], .bool false]), none⟩,
⟨none, .store (.t 7) (.t 13) 5, none⟩]
[1, 4, 7, 8, 9, 10])
(.seq (.reg [⟨some 14, .faddr (.t 7) 0, none⟩,
⟨some 15, .load (.t 14), none⟩,
⟨some 16, .mov (.t 1), none⟩,
⟨some 17, .bin .eql (.t 15) (.t 16), none⟩]
[1, 4, 7, 8, 9, 10, 17])
(.cond (.t 17)
(.seq (.reg [⟨some 18, .faddr (.t 7) 1, none⟩,
⟨some 19, .loadN (.t 18) 4, none⟩,
⟨none, .store (.t 4) (.t 19) 4, none⟩,
⟨some 5, .mov (.k (.bool true)), none⟩]
[4, 5])
.ret)
.skip))))
(.reg [⟨some 20, .bin .add (.t 10) (.k (.int .i64 1)), none⟩,
⟨some 10, .mov (.t 20), none⟩]
[1, 4, 8, 9, 10])))))))
(.seq (.reg [⟨some 21, .build [.int .i64 0, .int .i64 0, .str [], .bool false] [], none⟩,
⟨none, .store (.t 4) (.t 21) 4, none⟩,
⟨some 5, .mov (.k (.bool false)), none⟩]
[4, 5])
.ret)))⟩
theorem k_binding_Get : chkF Go.Proofs.Try.prog Go.Proofs.Try.f10 c_binding_Get = true := by kernel_rfl
theorem pc_binding_Get {G : Nat → Option AV} {args : List AV} {r : AV} (h : Runs Go.Proofs.Try.prog G c_binding_Get args r) (hk : args.length = c_binding_Get.k := by rfl) : PureC Go.Proofs.Try.prog G n_binding_Get args r := PureC.of_runs (fn := Go.Proofs.Try.f10) (A := c_binding_Get) Go.Proofs.Try.func10 k_binding_Get hk h
def c_binding_Of : AFun := ⟨42, 1, [.t 2, .t 3],
  (.seq (.reg [⟨some 2, .nilrow t_api_Slot 5, none⟩,
⟨some 3, .mov (.k (.bool false)), none⟩]
[0])
(.seq (.reg [⟨some 4, .nilrow t_api_Slot 5, none⟩]
[0, 4])
(.seq (.seq (.reg [⟨some 9, .mov (.t 0), none⟩,
⟨some 10, .len false (.t 9), none⟩,
⟨some 11, .mov (.k (.int .i64 0)), none⟩]
[4, 9, 10, 11])
(.block 0
(.loop [4, 9, 10, 11] [2, 4, 10]
  (.seq (.reg [⟨some 12, .bin .lss (.t 11) (.t 10), none⟩]
[4, 9, 10, 11, 12])
(.seq (.cond (.t 12)
.skip
(.exit 0))
(.seq (.block 1
(.seq (.reg [⟨some 13, .iaddr 5 (.t 9) (.t 11), none⟩,
⟨some 14, .loadN (.t 13) 5, none⟩,
⟨some 6, .alloc t_api_Slot 5 (.agg [.int .i64 0, .int .i64 0, .int .i64 0, .str [], .bool false]), none⟩,
⟨none, .store (.t 6) (.t 14) 5, none⟩]
[4, 6, 9, 10, 11])
(.seq (.reg [⟨some 16, .mov (.t 4), none⟩,
⟨some 17, .faddr (.t 6) 0, none⟩,
⟨some 18, .load (.t 17), none⟩,
⟨some 19, .call n_binding_find [.t 16, .t 18], none⟩,
⟨some 15, .mov (.t 19), none⟩,
⟨some 20, .ext (.t 15) 0, none⟩,
⟨some 21, .ext (.t 15) 1, none⟩,
⟨some 7, .mov (.t 20), none⟩,
⟨some 8, .mov (.t 21), none⟩]
[4, 6, 7, 8, 9, 10, 11])
(.block 2
(.seq (.reg [⟨some 23, .mov (.t 8), none⟩,
⟨some 24, .un .not (.t 23), none⟩,
⟨some 22, .mov (.t 24), none⟩]
[4, 6, 7, 9, 10, 11, 22])
(.cond (.t 22)
(.reg [⟨some 25, .mov (.t 4), none⟩,
⟨some 26, .mov (.t 7), none⟩,
⟨some 27, .loadN (.t 6) 5, none⟩,
⟨some 28, .mkrow t_api_Slot 5 1 (.agg [.int .i64 0, .int .i64 0, .int .i64 0, .str [], .bool false]) [(0, .t 27)], none⟩,
⟨some 29, .call n_slices_Insert_api_Slot_api_Slot [.t 25, .t 26, .t 28], none⟩,
⟨some 4, .mov (.t 29), none⟩]
[4, 9, 10, 11])
(.seq (.dreg [⟨some 31, .mov (.t 4), none⟩,
⟨some 32, .mov (.t 7), none⟩,
⟨some 33, .iaddr 5 (.t 31) (.t 32), none⟩,
⟨some 34, .loadN (.t 33) 5, none⟩,
⟨some 35, .loadN (.t 6) 5, none⟩,
⟨some 36, .eqA true [0, 0, 0, 1, 2] (.t 34) (.t 35), none⟩,
⟨some 30, .mov (.t 36), none⟩]
[4, 9, 10, 11, 30])
(.cond (.t 30)
(.seq (.reg [⟨some 2, .nilrow t_api_Slot 5, none⟩,
⟨some 3, .mov (.k (.bool false)), none⟩]
[2, 3])
.ret)
.skip))))))))
(.reg [⟨some 37, .bin .add (.t 11) (.k (.int .i64 1)), none⟩,
⟨some 11, .mov (.t 37), none⟩]
[4, 9, 10, 11])))))))
(.seq (.seq (.reg [⟨some 38, .mov (.t 4), none⟩,
⟨some 39, .call n_binding_Right [.t 38], none⟩,
⟨some 40, .un .not (.t 39), none⟩]
[4, 40])
(.cond (.t 40)
(.seq (.reg [⟨some 2, .nilrow t_api_Slot 5, none⟩,
⟨some 3, .mov (.k (.bool false)), none⟩]
[2, 3])
.ret)
.skip))
(.seq (.reg [⟨some 41, .mov (.t 4), none⟩,
⟨some 2, .mov (.t 41), none⟩,
⟨some 3, .mov (.k (.bool true)), none⟩]
[2, 3])
.ret)))))⟩
theorem k_binding_Of : chkF Go.Proofs.Try.prog Go.Proofs.Try.f5 c_binding_Of = true := by kernel_rfl
theorem pc_binding_Of {G : Nat → Option AV} {args : List AV} {r : AV} (h : Runs Go.Proofs.Try.prog G c_binding_Of args r) (hk : args.length = c_binding_Of.k := by rfl) : PureC Go.Proofs.Try.prog G n_binding_Of args r := PureC.of_runs (fn := Go.Proofs.Try.f5) (A := c_binding_Of) Go.Proofs.Try.func5 k_binding_Of hk h
def c_binding_Right : AFun := ⟨42, 1, [.t 2],
  (.seq (.reg [⟨some 2, .mov (.k (.bool false)), none⟩]
[0])
(.seq (.seq (.reg [⟨some 5, .mov (.t 0), none⟩,
⟨some 6, .len false (.t 5), none⟩,
⟨some 7, .mov (.k (.int .i64 0)), none⟩]
[0, 5, 6, 7])
(.block 0
(.loop [0, 5, 6, 7] [6]
  (.seq (.reg [⟨some 8, .bin .lss (.t 7) (.t 6), none⟩]
[0, 5, 6, 7, 8])
(.seq (.cond (.t 8)
.skip
(.exit 0))
(.seq (.block 1
(.seq (.reg [⟨some 9, .mov (.t 7), none⟩,
⟨some 10, .iaddr 5 (.t 5) (.t 7), none⟩,
⟨some 11, .loadN (.t 10) 5, none⟩,
⟨some 4, .alloc t_api_Slot 5 (.agg [.int .i64 0, .int .i64 0, .int .i64 0, .str [], .bool false]), none⟩,
⟨some 3, .mov (.t 9), none⟩,
⟨none, .store (.t 4) (.t 11) 5, none⟩]
[0, 3, 4, 5, 6, 7])
(.seq (.dreg [⟨some 12, .faddr (.t 4) 0, none⟩,
⟨some 13, .load (.t 12), none⟩,
⟨some 14, .bin .lss (.t 13) (.k (.int .i64 0)), none⟩,
⟨some 15, .mov (.t 14), none⟩,
⟨some 16, .faddr (.t 4) 0, (some (15, false))⟩,
⟨some 17, .load (.t 16), (some (15, false))⟩,
⟨some 18, .bin .geq (.t 17) (.k (.int .i64 8)), (some (15, false))⟩,
⟨some 19, .pick (.t 15) (.k (.bool true)) (.t 18), none⟩,
⟨some 20, .mov (.t 19), none⟩,
⟨some 21, .faddr (.t 4) 1, (some (20, false))⟩,
⟨some 22, .loadN (.t 21) 4, (some (20, false))⟩,
⟨some 23, .call n_value_Right [.t 22], (some (20, false))⟩,
⟨some 24, .un .not (.t 23), (some (20, false))⟩,
⟨some 25, .pick (.t 20) (.k (.bool true)) (.t 24), none⟩,
⟨some 26, .mov (.t 25), none⟩,
⟨some 27, .mov (.t 3), (some (26, false))⟩,
⟨some 28, .bin .gtr (.t 27) (.k (.int .i64 0)), (some (26, false))⟩,
⟨some 29, .mov (.t 28), (some (26, false))⟩,
⟨some 30, .faddr (.t 4) 0, (some (29, true))⟩,
⟨some 31, .load (.t 30), (some (29, true))⟩,
⟨some 32, .mov (.t 0), (some (29, true))⟩,
⟨some 33, .mov (.t 3), (some (29, true))⟩,
⟨some 34, .bin .sub (.t 33) (.k (.int .i64 1)), (some (29, true))⟩,
⟨some 35, .iaddr 5 (.t 32) (.t 34), (some (29, true))⟩,
⟨some 36, .faddr (.t 35) 0, (some (29, true))⟩,
⟨some 37, .load (.t 36), (some (29, true))⟩,
⟨some 38, .bin .leq (.t 31) (.t 37), (some (29, true))⟩,
⟨some 39, .pick (.t 29) (.t 38) (.k (.bool false)), (some (26, false))⟩,
⟨some 40, .pick (.t 26) (.k (.bool true)) (.t 39), none⟩]
[0, 5, 6, 7, 40])
(.cond (.t 40)
(.seq (.reg [⟨some 2, .mov (.k (.bool false)), none⟩]
[2])
.ret)
.skip))))
(.reg [⟨some 41, .bin .add (.t 7) (.k (.int .i64 1)), none⟩,
⟨some 7, .mov (.t 41), none⟩]
[0, 5, 6, 7])))))))
(.seq (.reg [⟨some 2, .mov (.k (.bool true)), none⟩]
[2])
.ret)))⟩
theorem k_binding_Right : chkF Go.Proofs.Try.prog Go.Proofs.Try.f6 c_binding_Right = true := by kernel_rfl
theorem pc_binding_Right {G : Nat → Option AV} {args : List AV} {r : AV} (h : Runs Go.Proofs.Try.prog G c_binding_Right args r) (hk : args.length = c_binding_Right.k := by rfl) : PureC Go.Proofs.Try.prog G n_binding_Right args r := PureC.of_runs (fn := Go.Proofs.Try.f6) (A := c_binding_Right) Go.Proofs.Try.func6 k_binding_Right hk h
def c_binding_Union : AFun := ⟨17, 2, [.t 4, .t 5],
  (.seq (.reg [⟨some 4, .nilrow t_api_Slot 5, none⟩,
⟨some 5, .mov (.k (.bool false)), none⟩]
[0, 1])
(.seq (.seq (.reg [⟨some 6, .mov (.t 0), none⟩,
⟨some 7, .mov (.t 1), none⟩,
⟨some 8, .call n_binding_Fits [.t 6, .t 7], none⟩,
⟨some 9, .un .not (.t 8), none⟩]
[0, 1, 9])
(.cond (.t 9)
(.seq (.reg [⟨some 4, .nilrow t_api_Slot 5, none⟩,
⟨some 5, .mov (.k (.bool false)), none⟩]
[4, 5])
.ret)
.skip))
(.seq (.reg [⟨some 10, .mov (.t 0), none⟩,
⟨some 11, .mov (.t 1), none⟩,
⟨some 12, .mkrow t_Sapi_Slot 1 2 (.nils) [(0, .t 10), (1, .t 11)], none⟩,
⟨some 13, .call n_slices_Concat_api_Slot_api_Slot [.t 12], none⟩,
⟨some 14, .call n_binding_Of [.t 13], none⟩,
⟨some 15, .ext (.t 14) 0, none⟩,
⟨some 16, .ext (.t 14) 1, none⟩,
⟨some 4, .mov (.t 15), none⟩,
⟨some 5, .mov (.t 16), none⟩]
[4, 5])
.ret)))⟩
theorem k_binding_Union : chkF Go.Proofs.Try.prog Go.Proofs.Try.f12 c_binding_Union = true := by kernel_rfl
theorem pc_binding_Union {G : Nat → Option AV} {args : List AV} {r : AV} (h : Runs Go.Proofs.Try.prog G c_binding_Union args r) (hk : args.length = c_binding_Union.k := by rfl) : PureC Go.Proofs.Try.prog G n_binding_Union args r := PureC.of_runs (fn := Go.Proofs.Try.f12) (A := c_binding_Union) Go.Proofs.Try.func12 k_binding_Union hk h
def c_binding_find : AFun := ⟨11, 2, [.t 4, .t 5],
  (.seq (.reg [⟨some 4, .mov (.k (.int .i64 0)), none⟩,
⟨some 5, .mov (.k (.bool false)), none⟩]
[0, 1])
(.seq (.reg [⟨some 6, .mov (.t 0), none⟩,
⟨some 7, .mov (.t 1), none⟩,
⟨some 8, .call n_slices_BinarySearchFunc_api_Slot_api_Slot_int [.t 6, .t 7, .f n_binding_find_1], none⟩,
⟨some 9, .ext (.t 8) 0, none⟩,
⟨some 10, .ext (.t 8) 1, none⟩,
⟨some 4, .mov (.t 9), none⟩,
⟨some 5, .mov (.t 10), none⟩]
[4, 5])
.ret))⟩
theorem k_binding_find : chkF Go.Proofs.Try.prog Go.Proofs.Try.f14 c_binding_find = true := by kernel_rfl
theorem pc_binding_find {G : Nat → Option AV} {args : List AV} {r : AV} (h : Runs Go.Proofs.Try.prog G c_binding_find args r) (hk : args.length = c_binding_find.k := by rfl) : PureC Go.Proofs.Try.prog G n_binding_find args r := PureC.of_runs (fn := Go.Proofs.Try.f14) (A := c_binding_find) Go.Proofs.Try.func14 k_binding_find hk h
def c_binding_find_1 : AFun := ⟨9, 2, [.t 4],
  (.seq (.reg [⟨some 2, .box t_api_Slot 5 (.t 0), none⟩,
⟨some 4, .mov (.k (.int .i64 0)), none⟩]
[1, 2])
(.seq (.reg [⟨some 5, .faddr (.t 2) 0, none⟩,
⟨some 6, .load (.t 5), none⟩,
⟨some 7, .mov (.t 1), none⟩,
⟨some 8, .bin .sub (.t 6) (.t 7), none⟩,
⟨some 4, .mov (.t 8), none⟩]
[4])
.ret))⟩
theorem k_binding_find_1 : chkF Go.Proofs.Try.prog Go.Proofs.Try.f22 c_binding_find_1 = true := by kernel_rfl
theorem pc_binding_find_1 {G : Nat → Option AV} {args : List AV} {r : AV} (h : Runs Go.Proofs.Try.prog G c_binding_find_1 args r) (hk : args.length = c_binding_find_1.k := by rfl) : PureC Go.Proofs.Try.prog G n_binding_find_1 args r := PureC.of_runs (fn := Go.Proofs.Try.f22) (A := c_binding_find_1) Go.Proofs.Try.func22 k_binding_find_1 hk h
def c_proctorlaw05_BindingOf : AFun := ⟨131, 2, [.t 4],
  (.seq (.reg [⟨some 4, .mov (.k (.bool false)), none⟩]
[0, 1])
(.seq (.seq (.reg [⟨some 16, .mov (.t 0), none⟩,
⟨some 17, .len false (.t 16), none⟩,
⟨some 18, .bin .gtr (.t 17) (.k (.int .i64 20)), none⟩]
[0, 1, 18])
(.cond (.t 18)
(.seq (.reg [⟨some 19, .call n_proctorlaw05_awake [], none⟩,
⟨some 4, .mov (.t 19), none⟩]
[4])
.ret)
.skip))
(.seq (.reg [⟨some 21, .mov (.t 0), none⟩,
⟨some 22, .call n_binding_Of [.t 21], none⟩,
⟨some 20, .mov (.t 22), none⟩,
⟨some 23, .ext (.t 20) 0, none⟩,
⟨some 24, .ext (.t 20) 1, none⟩,
⟨some 5, .mov (.t 23), none⟩,
⟨some 6, .mov (.t 24), none⟩]
[0, 1, 5, 6])
(.seq (.seq (.reg [⟨some 25, .mov (.t 0), none⟩,
⟨some 26, .call n_binding_Right [.t 25], none⟩,
⟨some 27, .mov (.t 0), none⟩,
⟨some 28, .call n_proctorref05_Right [.t 27], none⟩,
⟨some 29, .eqB true (.t 26) (.t 28), none⟩]
[0, 1, 5, 6, 29])
(.cond (.t 29)
(.seq (.reg [⟨some 4, .mov (.k (.bool false)), none⟩]
[4])
.ret)
.skip))
(.seq (.reg [⟨some 7, .nilrow t_api_Slot 5, none⟩]
[0, 1, 5, 6, 7])
(.seq (.reg [⟨some 8, .mov (.k (.bool true)), none⟩]
[0, 1, 5, 6, 7, 8])
(.seq (.seq (.reg [⟨some 9, .mov (.k (.int .i64 0)), none⟩]
[0, 1, 5, 6, 7, 8, 9])
(.block 0
(.loop [0, 1, 5, 6, 7, 8, 9] [17, 19, 22, 26, 28, 7]
  (.seq (.seq (.reg [⟨some 30, .mov (.t 9), none⟩,
⟨some 31, .mov (.t 0), none⟩,
⟨some 32, .len false (.t 31), none⟩,
⟨some 33, .bin .lss (.t 30) (.t 32), none⟩]
[0, 1, 5, 6, 7, 8, 9, 33])
(.cond (.t 33)
.skip
(.exit 0)))
(.seq (.block 1
(.seq (.reg [⟨some 37, .mov (.t 7), none⟩,
⟨some 38, .mov (.t 0), none⟩,
⟨some 39, .mov (.t 9), none⟩,
⟨some 40, .iaddr 5 (.t 38) (.t 39), none⟩,
⟨some 41, .faddr (.t 40) 0, none⟩,
⟨some 42, .load (.t 41), none⟩,
⟨some 43, .call n_proctorref05_Get [.t 37, .t 42], none⟩,
⟨some 36, .mov (.t 43), none⟩,
⟨some 44, .ext (.t 36) 0, none⟩,
⟨some 45, .ext (.t 36) 1, none⟩,
⟨some 10, .alloc t_api_Value 4 (.agg [.int .i64 0, .int .i64 0, .str [], .bool false]), none⟩,
⟨none, .store (.t 10) (.t 44) 4, none⟩,
⟨some 11, .mov (.t 45), none⟩]
[0, 1, 5, 6, 7, 8, 9, 10, 11])
(.seq (.seq (.dreg [⟨some 46, .mov (.t 11), none⟩,
⟨some 47, .mov (.t 46), none⟩,
⟨some 48, .loadN (.t 10) 4, (some (47, true))⟩,
⟨some 49, .mov (.t 0), (some (47, true))⟩,
⟨some 50, .mov (.t 9), (some (47, true))⟩,
⟨some 51, .iaddr 5 (.t 49) (.t 50), (some (47, true))⟩,
⟨some 52, .faddr (.t 51) 1, (some (47, true))⟩,
⟨some 53, .loadN (.t 52) 4, (some (47, true))⟩,
⟨some 54, .eqA true [0, 0, 1, 2] (.t 48) (.t 53), (some (47, true))⟩,
⟨some 55, .pick (.t 47) (.t 54) (.k (.bool false)), none⟩,
⟨some 56, .mov (.t 55), none⟩,
⟨some 57, .mov (.t 0), (some (56, false))⟩,
⟨some 58, .mov (.t 9), (some (56, false))⟩,
⟨some 59, .iaddr 5 (.t 57) (.t 58), (some (56, false))⟩,
⟨some 60, .faddr (.t 59) 0, (some (56, false))⟩,
⟨some 61, .load (.t 60), (some (56, false))⟩,
⟨some 62, .bin .lss (.t 61) (.k (.int .i64 0)), (some (56, false))⟩,
⟨some 63, .pick (.t 56) (.k (.bool true)) (.t 62), none⟩,
⟨some 64, .mov (.t 63), none⟩,
⟨some 65, .mov (.t 0), (some (64, false))⟩,
⟨some 66, .mov (.t 9), (some (64, false))⟩,
⟨some 67, .iaddr 5 (.t 65) (.t 66), (some (64, false))⟩,
⟨some 68, .faddr (.t 67) 0, (some (64, false))⟩,
⟨some 69, .load (.t 68), (some (64, false))⟩,
⟨some 70, .bin .gtr (.t 69) (.k (.int .i64 7)), (some (64, false))⟩,
⟨some 71, .pick (.t 64) (.k (.bool true)) (.t 70), none⟩,
⟨some 72, .mov (.t 71), none⟩,
⟨some 73, .mov (.t 0), (some (72, false))⟩,
⟨some 74, .mov (.t 9), (some (72, false))⟩,
⟨some 75, .mov (.t 9), (some (72, false))⟩,
⟨some 76, .bin .add (.t 75) (.k (.int .i64 1)), (some (72, false))⟩,
⟨some 77, .slc 5 (.t 73) (some (.t 74)) (some (.t 76)), (some (72, false))⟩,
⟨some 78, .call n_proctorref05_Right [.t 77], (some (72, false))⟩,
⟨some 79, .un .not (.t 78), (some (72, false))⟩,
⟨some 80, .pick (.t 72) (.k (.bool true)) (.t 79), none⟩]
[0, 1, 5, 6, 7, 8, 9, 80])
(.cond (.t 80)
(.seq (.reg [⟨some 8, .mov (.k (.bool false)), none⟩]
[1, 5, 6, 7, 8])
(.exit 0))
.skip))
(.reg [⟨some 81, .mov (.t 7), none⟩,
⟨some 82, .mov (.t 0), none⟩,
⟨some 83, .mov (.t 9), none⟩,
⟨some 84, .mov (.t 9), none⟩,
⟨some 85, .bin .add (.t 84) (.k (.int .i64 1)), none⟩,
⟨some 86, .slc 5 (.t 82) (some (.t 83)) (some (.t 85)), none⟩,
⟨some 87, .call n_proctorref05_Union [.t 81, .t 86], none⟩,
⟨some 7, .mov (.t 87), none⟩]
[0, 1, 5, 6, 7, 8, 9]))))
(.reg [⟨some 34, .mov (.t 9), none⟩,
⟨some 35, .bin .add (.t 34) (.k (.int .i64 1)), none⟩,
⟨some 9, .mov (.t 35), none⟩]
[0, 1, 5, 6, 7, 8, 9]))))))
(.seq (.seq (.reg [⟨some 88, .mov (.t 8), none⟩,
⟨some 89, .un .not (.t 88), none⟩]
[1, 5, 6, 7, 89])
(.cond (.t 89)
(.seq (.reg [⟨some 90, .mov (.t 5), none⟩,
⟨some 91, .len false (.t 90), none⟩,
⟨some 92, .bin .eql (.t 91) (.k (.int .i64 0)), none⟩,
⟨some 93, .mov (.t 92), none⟩,
⟨some 94, .mov (.t 6), (some (93, true))⟩,
⟨some 95, .un .not (.t 94), (some (93, true))⟩,
⟨some 96, .pick (.t 93) (.t 95) (.k (.bool false)), none⟩,
⟨some 97, .mov (.t 96), none⟩,
⟨some 98, .call n_proctorlaw05_awake [], (some (97, true))⟩,
⟨some 99, .pick (.t 97) (.t 98) (.k (.bool false)), none⟩,
⟨some 4, .mov (.t 99), none⟩]
[4])
.ret)
.skip))
(.seq (.reg [⟨some 101, .mov (.t 5), none⟩,
⟨some 102, .mov (.t 1), none⟩,
⟨some 103, .call n_binding_Get [.t 101, .t 102], none⟩,
⟨some 100, .mov (.t 103), none⟩,
⟨some 104, .ext (.t 100) 0, none⟩,
⟨some 105, .ext (.t 100) 1, none⟩,
⟨some 12, .alloc t_api_Value 4 (.agg [.int .i64 0, .int .i64 0, .str [], .bool false]), none⟩,
⟨none, .store (.t 12) (.t 104) 4, none⟩,
⟨some 13, .mov (.t 105), none⟩]
[1, 5, 6, 7, 12, 13])
(.seq (.reg [⟨some 107, .mov (.t 7), none⟩,
⟨some 108, .mov (.t 1), none⟩,
⟨some 109, .call n_proctorref05_Get [.t 107, .t 108], none⟩,
⟨some 106, .mov (.t 109), none⟩,
⟨some 110, .ext (.t 106) 0, none⟩,
⟨some 111, .ext (.t 106) 1, none⟩,
⟨some 14, .alloc t_api_Value 4 (.agg [.int .i64 0, .int .i64 0, .str [], .bool false]), none⟩,
⟨none, .store (.t 14) (.t 110) 4, none⟩,
⟨some 15, .mov (.t 111), none⟩]
[5, 6, 7, 12, 13, 14, 15])
(.seq (.reg [⟨some 112, .mov (.t 6), none⟩,
⟨some 113, .mov (.t 112), none⟩,
⟨some 114, .mov (.t 5), (some (113, true))⟩,
⟨some 115, .mov (.t 7), (some (113, true))⟩,
⟨some 116, .call n_proctorref05_Same [.t 114, .t 115], (some (113, true))⟩,
⟨some 117, .pick (.t 113) (.t 116) (.k (.bool false)), none⟩,
⟨some 118, .mov (.t 117), none⟩,
⟨some 119, .loadN (.t 12) 4, (some (118, true))⟩,
⟨some 120, .loadN (.t 14) 4, (some (118, true))⟩,
⟨some 121, .eqA false [0, 0, 1, 2] (.t 119) (.t 120), (some (118, true))⟩,
⟨some 122, .pick (.t 118) (.t 121) (.k (.bool false)), none⟩,
⟨some 123, .mov (.t 122), none⟩,
⟨some 124, .mov (.t 13), (some (123, true))⟩,
⟨some 125, .mov (.t 15), (some (123, true))⟩,
⟨some 126, .eqB false (.t 124) (.t 125), (some (123, true))⟩,
⟨some 127, .pick (.t 123) (.t 126) (.k (.bool false)), none⟩,
⟨some 128, .mov (.t 127), none⟩,
⟨some 129, .call n_proctorlaw05_awake [], (some (128, true))⟩,
⟨some 130, .pick (.t 128) (.t 129) (.k (.bool false)), none⟩,
⟨some 4, .mov (.t 130), none⟩]
[4])
.ret)))))))))))⟩
theorem k_proctorlaw05_BindingOf : chkF Go.Proofs.Try.prog Go.Proofs.Try.f3 c_proctorlaw05_BindingOf = true := by kernel_rfl
theorem pc_proctorlaw05_BindingOf {G : Nat → Option AV} {args : List AV} {r : AV} (h : Runs Go.Proofs.Try.prog G c_proctorlaw05_BindingOf args r) (hk : args.length = c_proctorlaw05_BindingOf.k := by rfl) : PureC Go.Proofs.Try.prog G n_proctorlaw05_BindingOf args r := PureC.of_runs (fn := Go.Proofs.Try.f3) (A := c_proctorlaw05_BindingOf) Go.Proofs.Try.func3 k_proctorlaw05_BindingOf hk h
def c_proctorlaw05_awake : AFun := ⟨43, 0, [.t 0],
  (.seq (.reg [⟨some 0, .mov (.k (.bool false)), none⟩]
[])
(.seq (.reg [⟨some 5, .build [.int .i64 0, .int .i64 0, .str [], .bool false] [(0, 1, .k (.int .i64 1)), (1, 1, .k (.int .i64 5))], none⟩,
⟨some 6, .build [.int .i64 0, .int .i64 0, .int .i64 0, .str [], .bool false] [(0, 1, .k (.int .i64 0)), (1, 4, .t 5)], none⟩,
⟨some 7, .mkrow t_api_Slot 5 1 (.agg [.int .i64 0, .int .i64 0, .int .i64 0, .str [], .bool false]) [(0, .t 6)], none⟩,
⟨some 1, .mov (.t 7), none⟩]
[1])
(.seq (.reg [⟨some 8, .build [.int .i64 0, .int .i64 0, .str [], .bool false] [(0, 1, .k (.int .i64 1)), (1, 1, .k (.int .i64 5))], none⟩,
⟨some 9, .build [.int .i64 0, .int .i64 0, .int .i64 0, .str [], .bool false] [(0, 1, .k (.int .i64 0)), (1, 4, .t 8)], none⟩,
⟨some 10, .build [.int .i64 0, .int .i64 0, .str [], .bool false] [(0, 1, .k (.int .i64 1)), (1, 1, .k (.int .i64 6))], none⟩,
⟨some 11, .build [.int .i64 0, .int .i64 0, .int .i64 0, .str [], .bool false] [(0, 1, .k (.int .i64 1)), (1, 4, .t 10)], none⟩,
⟨some 12, .mkrow t_api_Slot 5 2 (.agg [.int .i64 0, .int .i64 0, .int .i64 0, .str [], .bool false]) [(0, .t 9), (1, .t 11)], none⟩,
⟨some 2, .mov (.t 12), none⟩]
[1, 2])
(.seq (.reg [⟨some 14, .mov (.t 1), none⟩,
⟨some 15, .mov (.t 2), none⟩,
⟨some 16, .call n_binding_Union [.t 14, .t 15], none⟩,
⟨some 13, .mov (.t 16), none⟩,
⟨some 17, .ext (.t 13) 0, none⟩,
⟨some 18, .ext (.t 13) 1, none⟩,
⟨some 3, .mov (.t 17), none⟩,
⟨some 4, .mov (.t 18), none⟩]
[1, 2, 3, 4])
(.seq (.dreg [⟨some 19, .mov (.t 4), none⟩,
⟨some 20, .mov (.t 19), none⟩,
⟨some 21, .mov (.t 3), (some (20, true))⟩,
⟨some 22, .len false (.t 21), (some (20, true))⟩,
⟨some 23, .bin .eql (.t 22) (.k (.int .i64 2)), (some (20, true))⟩,
⟨some 24, .pick (.t 20) (.t 23) (.k (.bool false)), none⟩,
⟨some 25, .mov (.t 24), none⟩,
⟨some 26, .mov (.t 3), (some (25, true))⟩,
⟨some 27, .iaddr 5 (.t 26) (.k (.int .i64 1)), (some (25, true))⟩,
⟨some 28, .loadN (.t 27) 5, (some (25, true))⟩,
⟨some 29, .mov (.t 2), (some (25, true))⟩,
⟨some 30, .iaddr 5 (.t 29) (.k (.int .i64 1)), (some (25, true))⟩,
⟨some 31, .loadN (.t 30) 5, (some (25, true))⟩,
⟨some 32, .eqA false [0, 0, 0, 1, 2] (.t 28) (.t 31), (some (25, true))⟩,
⟨some 33, .pick (.t 25) (.t 32) (.k (.bool false)), none⟩,
⟨some 34, .mov (.t 33), none⟩,
⟨some 35, .mov (.t 1), (some (34, true))⟩,
⟨some 36, .mov (.t 2), (some (34, true))⟩,
⟨some 37, .call n_binding_Under [.t 35, .t 36], (some (34, true))⟩,
⟨some 38, .pick (.t 34) (.t 37) (.k (.bool false)), none⟩,
⟨some 39, .mov (.t 38), none⟩,
⟨some 40, .mov (.t 2), (some (39, true))⟩,
⟨some 41, .call n_binding_Right [.t 40], (some (39, true))⟩,
⟨some 42, .pick (.t 39) (.t 41) (.k (.bool false)), none⟩,
⟨some 0, .mov (.t 42), none⟩]
[0])
.ret)))))⟩
theorem k_proctorlaw05_awake : chkF Go.Proofs.Try.prog Go.Proofs.Try.f4 c_proctorlaw05_awake = true := by kernel_rfl
theorem pc_proctorlaw05_awake {G : Nat → Option AV} {args : List AV} {r : AV} (h : Runs Go.Proofs.Try.prog G c_proctorlaw05_awake args r) (hk : args.length = c_proctorlaw05_awake.k := by rfl) : PureC Go.Proofs.Try.prog G n_proctorlaw05_awake args r := PureC.of_runs (fn := Go.Proofs.Try.f4) (A := c_proctorlaw05_awake) Go.Proofs.Try.func4 k_proctorlaw05_awake hk h
def c_proctorref03_Right : AFun := ⟨44, 1, [.t 2],
  (.seq (.reg [⟨some 1, .box t_api_Value 4 (.t 0), none⟩,
⟨some 2, .mov (.k (.bool false)), none⟩]
[1])
(.seq (.seq (.reg [⟨some 3, .faddr (.t 1) 0, none⟩,
⟨some 4, .load (.t 3), none⟩,
⟨some 5, .bin .eql (.t 4) (.k (.int .i64 1)), none⟩]
[1, 5])
(.cond (.t 5)
(.seq (.reg [⟨some 6, .faddr (.t 1) 2, none⟩,
⟨some 7, .load (.t 6), none⟩,
⟨some 8, .bin .eql (.t 7) (.k (.str [])), none⟩,
⟨some 9, .mov (.t 8), none⟩,
⟨some 10, .faddr (.t 1) 3, (some (9, true))⟩,
⟨some 11, .load (.t 10), (some (9, true))⟩,
⟨some 12, .un .not (.t 11), (some (9, true))⟩,
⟨some 13, .pick (.t 9) (.t 12) (.k (.bool false)), none⟩,
⟨some 2, .mov (.t 13), none⟩]
[2])
.ret)
.skip))
(.seq (.seq (.reg [⟨some 14, .faddr (.t 1) 0, none⟩,
⟨some 15, .load (.t 14), none⟩,
⟨some 16, .bin .eql (.t 15) (.k (.int .i64 2)), none⟩]
[1, 16])
(.cond (.t 16)
(.seq (.reg [⟨some 17, .faddr (.t 1) 1, none⟩,
⟨some 18, .load (.t 17), none⟩,
⟨some 19, .bin .eql (.t 18) (.k (.int .i64 0)), none⟩,
⟨some 20, .mov (.t 19), none⟩,
⟨some 21, .faddr (.t 1) 3, (some (20, true))⟩,
⟨some 22, .load (.t 21), (some (20, true))⟩,
⟨some 23, .un .not (.t 22), (some (20, true))⟩,
⟨some 24, .pick (.t 20) (.t 23) (.k (.bool false)), none⟩,
⟨some 25, .mov (.t 24), none⟩,
⟨some 26, .faddr (.t 1) 2, (some (25, true))⟩,
⟨some 27, .load (.t 26), (some (25, true))⟩,
⟨some 28, .len true (.t 27), (some (25, true))⟩,
⟨some 29, .bin .leq (.t 28) (.k (.int .i64 4096)), (some (25, true))⟩,
⟨some 30, .pick (.t 25) (.t 29) (.k (.bool false)), none⟩,
⟨some 2, .mov (.t 30), none⟩]
[2])
.ret)
.skip))
(.seq (.reg [⟨some 31, .faddr (.t 1) 0, none⟩,
⟨some 32, .load (.t 31), none⟩,
⟨some 33, .bin .eql (.t 32) (.k (.int .i64 3)), none⟩,
⟨some 34, .mov (.t 33), none⟩,
⟨some 35, .faddr (.t 1) 1, (some (34, true))⟩,
⟨some 36, .load (.t 35), (some (34, true))⟩,
⟨some 37, .bin .eql (.t 36) (.k (.int .i64 0)), (some (34, true))⟩,
⟨some 38, .pick (.t 34) (.t 37) (.k (.bool false)), none⟩,
⟨some 39, .mov (.t 38), none⟩,
⟨some 40, .faddr (.t 1) 2, (some (39, true))⟩,
⟨some 41, .load (.t 40), (some (39, true))⟩,
⟨some 42, .bin .eql (.t 41) (.k (.str [])), (some (39, true))⟩,
⟨some 43, .pick (.t 39) (.t 42) (.k (.bool false)), none⟩,
⟨some 2, .mov (.t 43), none⟩]
[2])
.ret))))⟩
theorem k_proctorref03_Right : chkF Go.Proofs.Try.prog Go.Proofs.Try.f17 c_proctorref03_Right = true := by kernel_rfl
theorem pc_proctorref03_Right {G : Nat → Option AV} {args : List AV} {r : AV} (h : Runs Go.Proofs.Try.prog G c_proctorref03_Right args r) (hk : args.length = c_proctorref03_Right.k := by rfl) : PureC Go.Proofs.Try.prog G n_proctorref03_Right args r := PureC.of_runs (fn := Go.Proofs.Try.f17) (A := c_proctorref03_Right) Go.Proofs.Try.func17 k_proctorref03_Right hk h
def c_proctorref05_Get : AFun := ⟨26, 2, [.cells 4 4, .t 5],
  (.seq (.reg [⟨some 4, .alloc t_api_Value 4 (.agg [.int .i64 0, .int .i64 0, .str [], .bool false]), none⟩,
⟨some 5, .mov (.k (.bool false)), none⟩]
[0, 1, 4])
(.seq (.seq (.reg [⟨some 6, .mov (.k (.int .i64 0)), none⟩]
[0, 1, 4, 6])
(.block 0
(.loop [0, 1, 4, 6] [4]
  (.seq (.seq (.reg [⟨some 7, .mov (.t 6), none⟩,
⟨some 8, .mov (.t 0), none⟩,
⟨some 9, .len false (.t 8), none⟩,
⟨some 10, .bin .lss (.t 7) (.t 9), none⟩]
[0, 1, 4, 6, 10])
(.cond (.t 10)
.skip
(.exit 0)))
(.seq (.block 1
(.seq (.reg [⟨some 13, .mov (.t 0), none⟩,
⟨some 14, .mov (.t 6), none⟩,
⟨some 15, .iaddr 5 (.t 13) (.t 14), none⟩,
⟨some 16, .faddr (.t 15) 0, none⟩,
⟨some 17, .load (.t 16), none⟩,
⟨some 18, .mov (.t 1), none⟩,
⟨some 19, .bin .eql (.t 17) (.t 18), none⟩]
[0, 1, 4, 6, 19])
(.cond (.t 19)
(.seq (.reg [⟨some 20, .mov (.t 0), none⟩,
⟨some 21, .mov (.t 6), none⟩,
⟨some 22, .iaddr 5 (.t 20) (.t 21), none⟩,
⟨some 23, .faddr (.t 22) 1, none⟩,
⟨some 24, .loadN (.t 23) 4, none⟩,
⟨none, .store (.t 4) (.t 24) 4, none⟩,
⟨some 5, .mov (.k (.bool true)), none⟩]
[4, 5])
.ret)
.skip)))
(.reg [⟨some 11, .mov (.t 6), none⟩,
⟨some 12, .bin .add (.t 11) (.k (.int .i64 1)), none⟩,
⟨some 6, .mov (.t 12), none⟩]
[0, 1, 4, 6]))))))
(.seq (.reg [⟨some 25, .build [.int .i64 0, .int .i64 0, .str [], .bool false] [], none⟩,
⟨none, .store (.t 4) (.t 25) 4, none⟩,
⟨some 5, .mov (.k (.bool false)), none⟩]
[4, 5])
.ret)))⟩
theorem k_proctorref05_Get : chkF Go.Proofs.Try.prog Go.Proofs.Try.f8 c_proctorref05_Get = true := by kernel_rfl
theorem pc_proctorref05_Get {G : Nat → Option AV} {args : List AV} {r : AV} (h : Runs Go.Proofs.Try.prog G c_proctorref05_Get args r) (hk : args.length = c_proctorref05_Get.k := by rfl) : PureC Go.Proofs.Try.prog G n_proctorref05_Get args r := PureC.of_runs (fn := Go.Proofs.Try.f8) (A := c_proctorref05_Get) Go.Proofs.Try.func8 k_proctorref05_Get hk h
def c_proctorref05_Right : AFun := ⟨51, 1, [.t 2],
  (.seq (.reg [⟨some 2, .mov (.k (.bool false)), none⟩]
[0])
(.seq (.seq (.reg [⟨some 3, .mov (.k (.int .i64 0)), none⟩]
[0, 3])
(.block 0
(.loop [0, 3] []
  (.seq (.seq (.reg [⟨some 4, .mov (.t 3), none⟩,
⟨some 5, .mov (.t 0), none⟩,
⟨some 6, .len false (.t 5), none⟩,
⟨some 7, .bin .lss (.t 4) (.t 6), none⟩]
[0, 3, 7])
(.cond (.t 7)
.skip
(.exit 0)))
(.seq (.block 1
(.seq (.dreg [⟨some 10, .mov (.t 0), none⟩,
⟨some 11, .mov (.t 3), none⟩,
⟨some 12, .iaddr 5 (.t 10) (.t 11), none⟩,
⟨some 13, .faddr (.t 12) 0, none⟩,
⟨some 14, .load (.t 13), none⟩,
⟨some 15, .bin .lss (.t 14) (.k (.int .i64 0)), none⟩,
⟨some 16, .mov (.t 15), none⟩,
⟨some 17, .mov (.t 0), (some (16, false))⟩,
⟨some 18, .mov (.t 3), (some (16, false))⟩,
⟨some 19, .iaddr 5 (.t 17) (.t 18), (some (16, false))⟩,
⟨some 20, .faddr (.t 19) 0, (some (16, false))⟩,
⟨some 21, .load (.t 20), (some (16, false))⟩,
⟨some 22, .bin .gtr (.t 21) (.k (.int .i64 7)), (some (16, false))⟩,
⟨some 23, .pick (.t 16) (.k (.bool true)) (.t 22), none⟩,
⟨some 24, .mov (.t 23), none⟩,
⟨some 25, .mov (.t 0), (some (24, false))⟩,
⟨some 26, .mov (.t 3), (some (24, false))⟩,
⟨some 27, .iaddr 5 (.t 25) (.t 26), (some (24, false))⟩,
⟨some 28, .faddr (.t 27) 1, (some (24, false))⟩,
⟨some 29, .loadN (.t 28) 4, (some (24, false))⟩,
⟨some 30, .call n_proctorref03_Right [.t 29], (some (24, false))⟩,
⟨some 31, .un .not (.t 30), (some (24, false))⟩,
⟨some 32, .pick (.t 24) (.k (.bool true)) (.t 31), none⟩,
⟨some 33, .mov (.t 32), none⟩,
⟨some 34, .mov (.t 3), (some (33, false))⟩,
⟨some 35, .bin .gtr (.t 34) (.k (.int .i64 0)), (some (33, false))⟩,
⟨some 36, .mov (.t 35), (some (33, false))⟩,
⟨some 37, .mov (.t 0), (some (36, true))⟩,
⟨some 38, .mov (.t 3), (some (36, true))⟩,
⟨some 39, .iaddr 5 (.t 37) (.t 38), (some (36, true))⟩,
⟨some 40, .faddr (.t 39) 0, (some (36, true))⟩,
⟨some 41, .load (.t 40), (some (36, true))⟩,
⟨some 42, .mov (.t 0), (some (36, true))⟩,
⟨some 43, .mov (.t 3), (some (36, true))⟩,
⟨some 44, .bin .sub (.t 43) (.k (.int .i64 1)), (some (36, true))⟩,
⟨some 45, .iaddr 5 (.t 42) (.t 44), (some (36, true))⟩,
⟨some 46, .faddr (.t 45) 0, (some (36, true))⟩,
⟨some 47, .load (.t 46), (some (36, true))⟩,
⟨some 48, .bin .leq (.t 41) (.t 47), (some (36, true))⟩,
⟨some 49, .pick (.t 36) (.t 48) (.k (.bool false)), (some (33, false))⟩,
⟨some 50, .pick (.t 33) (.k (.bool true)) (.t 49), none⟩]
[0, 3, 50])
(.cond (.t 50)
(.seq (.reg [⟨some 2, .mov (.k (.bool false)), none⟩]
[2])
.ret)
.skip)))
(.reg [⟨some 8, .mov (.t 3), none⟩,
⟨some 9, .bin .add (.t 8) (.k (.int .i64 1)), none⟩,
⟨some 3, .mov (.t 9), none⟩]
[0, 3]))))))
(.seq (.reg [⟨some 2, .mov (.k (.bool true)), none⟩]
[2])
.ret)))⟩
theorem k_proctorref05_Right : chkF Go.Proofs.Try.prog Go.Proofs.Try.f7 c_proctorref05_Right = true := by kernel_rfl
theorem pc_proctorref05_Right {G : Nat → Option AV} {args : List AV} {r : AV} (h : Runs Go.Proofs.Try.prog G c_proctorref05_Right args r) (hk : args.length = c_proctorref05_Right.k := by rfl) : PureC Go.Proofs.Try.prog G n_proctorref05_Right args r := PureC.of_runs (fn := Go.Proofs.Try.f7) (A := c_proctorref05_Right) Go.Proofs.Try.func7 k_proctorref05_Right hk h
def c_proctorref05_Same : AFun := ⟨26, 2, [.t 4],
  (.seq (.reg [⟨some 4, .mov (.k (.bool false)), none⟩]
[0, 1])
(.seq (.seq (.reg [⟨some 6, .mov (.t 0), none⟩,
⟨some 7, .len false (.t 6), none⟩,
⟨some 8, .mov (.t 1), none⟩,
⟨some 9, .len false (.t 8), none⟩,
⟨some 10, .bin .neq (.t 7) (.t 9), none⟩]
[0, 1, 10])
(.cond (.t 10)
(.seq (.reg [⟨some 4, .mov (.k (.bool false)), none⟩]
[4])
.ret)
.skip))
(.seq (.seq (.reg [⟨some 5, .mov (.k (.int .i64 0)), none⟩]
[0, 1, 5])
(.block 0
(.loop [0, 1, 5] [7, 9]
  (.seq (.seq (.reg [⟨some 11, .mov (.t 5), none⟩,
⟨some 12, .mov (.t 0), none⟩,
⟨some 13, .len false (.t 12), none⟩,
⟨some 14, .bin .lss (.t 11) (.t 13), none⟩]
[0, 1, 5, 14])
(.cond (.t 14)
.skip
(.exit 0)))
(.seq (.block 1
(.seq (.dreg [⟨some 17, .mov (.t 0), none⟩,
⟨some 18, .mov (.t 5), none⟩,
⟨some 19, .iaddr 5 (.t 17) (.t 18), none⟩,
⟨some 20, .loadN (.t 19) 5, none⟩,
⟨some 21, .mov (.t 1), none⟩,
⟨some 22, .mov (.t 5), none⟩,
⟨some 23, .iaddr 5 (.t 21) (.t 22), none⟩,
⟨some 24, .loadN (.t 23) 5, none⟩,
⟨some 25, .eqA true [0, 0, 0, 1, 2] (.t 20) (.t 24), none⟩]
[0, 1, 5, 25])
(.cond (.t 25)
(.seq (.reg [⟨some 4, .mov (.k (.bool false)), none⟩]
[4])
.ret)
.skip)))
(.reg [⟨some 15, .mov (.t 5), none⟩,
⟨some 16, .bin .add (.t 15) (.k (.int .i64 1)), none⟩,
⟨some 5, .mov (.t 16), none⟩]
[0, 1, 5]))))))
(.seq (.reg [⟨some 4, .mov (.k (.bool true)), none⟩]
[4])
.ret))))⟩
theorem k_proctorref05_Same : chkF Go.Proofs.Try.prog Go.Proofs.Try.f11 c_proctorref05_Same = true := by kernel_rfl
theorem pc_proctorref05_Same {G : Nat → Option AV} {args : List AV} {r : AV} (h : Runs Go.Proofs.Try.prog G c_proctorref05_Same args r) (hk : args.length = c_proctorref05_Same.k := by rfl) : PureC Go.Proofs.Try.prog G n_proctorref05_Same args r := PureC.of_runs (fn := Go.Proofs.Try.f11) (A := c_proctorref05_Same) Go.Proofs.Try.func11 k_proctorref05_Same hk h
def c_proctorref05_Union : AFun := ⟨42, 2, [.t 4],
  (.seq (.reg [⟨some 4, .nilrow t_api_Slot 5, none⟩]
[0, 1])
(.seq (.reg [⟨some 5, .nilrow t_api_Slot 5, none⟩]
[0, 1, 5])
(.seq (.seq (.reg [⟨some 6, .mov (.k (.int .i64 0)), none⟩]
[0, 1, 5, 6])
(.block 0
(.loop [0, 1, 5, 6] [4, 5, 33, 40]
  (.seq (.seq (.reg [⟨some 11, .mov (.t 6), none⟩,
⟨some 12, .bin .lss (.t 11) (.k (.int .i64 8)), none⟩]
[0, 1, 5, 6, 12])
(.cond (.t 12)
.skip
(.exit 0)))
(.seq (.block 1
(.seq (.reg [⟨some 16, .mov (.t 0), none⟩,
⟨some 17, .mov (.t 6), none⟩,
⟨some 18, .call n_proctorref05_Get [.t 16, .t 17], none⟩,
⟨some 15, .mov (.t 18), none⟩,
⟨some 19, .ext (.t 15) 0, none⟩,
⟨some 20, .ext (.t 15) 1, none⟩,
⟨some 7, .alloc t_api_Value 4 (.agg [.int .i64 0, .int .i64 0, .str [], .bool false]), none⟩,
⟨none, .store (.t 7) (.t 19) 4, none⟩,
⟨some 8, .mov (.t 20), none⟩]
[0, 1, 5, 6, 7, 8])
(.seq (.reg [⟨some 22, .mov (.t 1), none⟩,
⟨some 23, .mov (.t 6), none⟩,
⟨some 24, .call n_proctorref05_Get [.t 22, .t 23], none⟩,
⟨some 21, .mov (.t 24), none⟩,
⟨some 25, .ext (.t 21) 0, none⟩,
⟨some 26, .ext (.t 21) 1, none⟩,
⟨some 9, .alloc t_api_Value 4 (.agg [.int .i64 0, .int .i64 0, .str [], .bool false]), none⟩,
⟨none, .store (.t 9) (.t 25) 4, none⟩,
⟨some 10, .mov (.t 26), none⟩]
[0, 1, 5, 6, 7, 8, 9, 10])
(.seq (.reg [⟨some 27, .mov (.t 8), none⟩]
[0, 1, 5, 6, 7, 9, 10, 27])
(.cond (.t 27)
(.reg [⟨some 28, .mov (.t 5), none⟩,
⟨some 29, .mov (.t 6), none⟩,
⟨some 30, .loadN (.t 7) 4, none⟩,
⟨some 31, .build [.int .i64 0, .int .i64 0, .int .i64 0, .str [], .bool false] [(0, 1, .t 29), (1, 4, .t 30)], none⟩,
⟨some 32, .mkrow t_api_Slot 5 1 (.agg [.int .i64 0, .int .i64 0, .int .i64 0, .str [], .bool false]) [(0, .t 31)], none⟩,
⟨some 33, .app t_api_Slot 5 48 (.t 28) (.t 32), none⟩,
⟨some 5, .mov (.t 33), none⟩]
[0, 1, 5, 6])
(.seq (.reg [⟨some 34, .mov (.t 10), none⟩]
[0, 1, 5, 6, 9, 34])
(.cond (.t 34)
(.reg [⟨some 35, .mov (.t 5), none⟩,
⟨some 36, .mov (.t 6), none⟩,
⟨some 37, .loadN (.t 9) 4, none⟩,
⟨some 38, .build [.int .i64 0, .int .i64 0, .int .i64 0, .str [], .bool false] [(0, 1, .t 36), (1, 4, .t 37)], none⟩,
⟨some 39, .mkrow t_api_Slot 5 1 (.agg [.int .i64 0, .int .i64 0, .int .i64 0, .str [], .bool false]) [(0, .t 38)], none⟩,
⟨some 40, .app t_api_Slot 5 48 (.t 35) (.t 39), none⟩,
⟨some 5, .mov (.t 40), none⟩]
[0, 1, 5, 6])
.skip)))))))
(.reg [⟨some 13, .mov (.t 6), none⟩,
⟨some 14, .bin .add (.t 13) (.k (.int .i64 1)), none⟩,
⟨some 6, .mov (.t 14), none⟩]
[0, 1, 5, 6]))))))
(.seq (.reg [⟨some 41, .mov (.t 5), none⟩,
⟨some 4, .mov (.t 41), none⟩]
[4])
.ret))))⟩
theorem k_proctorref05_Union : chkF Go.Proofs.Try.prog Go.Proofs.Try.f9 c_proctorref05_Union = true := by kernel_rfl
theorem pc_proctorref05_Union {G : Nat → Option AV} {args : List AV} {r : AV} (h : Runs Go.Proofs.Try.prog G c_proctorref05_Union args r) (hk : args.length = c_proctorref05_Union.k := by rfl) : PureC Go.Proofs.Try.prog G n_proctorref05_Union args r := PureC.of_runs (fn := Go.Proofs.Try.f9) (A := c_proctorref05_Union) Go.Proofs.Try.func9 k_proctorref05_Union hk h
def c_value_Bool : AFun := ⟨5, 1, [.cells 2 4],
  (.seq (.reg [⟨some 2, .alloc t_api_Value 4 (.agg [.int .i64 0, .int .i64 0, .str [], .bool false]), none⟩]
[0, 2])
(.seq (.reg [⟨some 3, .mov (.t 0), none⟩,
⟨some 4, .build [.int .i64 0, .int .i64 0, .str [], .bool false] [(0, 1, .k (.int .i64 3)), (3, 1, .t 3)], none⟩,
⟨none, .store (.t 2) (.t 4) 4, none⟩]
[2])
.ret))⟩
theorem k_value_Bool : chkF Go.Proofs.Try.prog Go.Proofs.Try.f27 c_value_Bool = true := by kernel_rfl
theorem pc_value_Bool {G : Nat → Option AV} {args : List AV} {r : AV} (h : Runs Go.Proofs.Try.prog G c_value_Bool args r) (hk : args.length = c_value_Bool.k := by rfl) : PureC Go.Proofs.Try.prog G n_value_Bool args r := PureC.of_runs (fn := Go.Proofs.Try.f27) (A := c_value_Bool) Go.Proofs.Try.func27 k_value_Bool hk h
def c_value_Int : AFun := ⟨5, 1, [.cells 2 4],
  (.seq (.reg [⟨some 2, .alloc t_api_Value 4 (.agg [.int .i64 0, .int .i64 0, .str [], .bool false]), none⟩]
[0, 2])
(.seq (.reg [⟨some 3, .mov (.t 0), none⟩,
⟨some 4, .build [.int .i64 0, .int .i64 0, .str [], .bool false] [(0, 1, .k (.int .i64 1)), (1, 1, .t 3)], none⟩,
⟨none, .store (.t 2) (.t 4) 4, none⟩]
[2])
.ret))⟩
theorem k_value_Int : chkF Go.Proofs.Try.prog Go.Proofs.Try.f25 c_value_Int = true := by kernel_rfl
theorem pc_value_Int {G : Nat → Option AV} {args : List AV} {r : AV} (h : Runs Go.Proofs.Try.prog G c_value_Int args r) (hk : args.length = c_value_Int.k := by rfl) : PureC Go.Proofs.Try.prog G n_value_Int args r := PureC.of_runs (fn := Go.Proofs.Try.f25) (A := c_value_Int) Go.Proofs.Try.func25 k_value_Int hk h
def c_value_Right : AFun := ⟨32, 1, [.t 2],
  (.seq (.reg [⟨some 1, .box t_api_Value 4 (.t 0), none⟩,
⟨some 2, .mov (.k (.bool false)), none⟩]
[1])
(.seq (.seq (.reg [⟨some 3, .faddr (.t 1) 0, none⟩,
⟨some 4, .load (.t 3), none⟩]
[1, 4])
(.block 0
(.seq (.reg [⟨some 6, .bin .eql (.t 4) (.k (.int .i64 1)), none⟩,
⟨some 5, .mov (.t 6), none⟩]
[1, 4, 5])
(.cond (.t 5)
(.seq (.dreg [⟨some 7, .loadN (.t 1) 4, none⟩,
⟨some 8, .faddr (.t 1) 1, none⟩,
⟨some 9, .load (.t 8), none⟩,
⟨some 10, .call n_value_Int [.t 9], none⟩,
⟨some 11, .eqA false [0, 0, 1, 2] (.t 7) (.t 10), none⟩,
⟨some 2, .mov (.t 11), none⟩]
[2])
.ret)
(.seq (.reg [⟨some 13, .bin .eql (.t 4) (.k (.int .i64 2)), none⟩,
⟨some 12, .mov (.t 13), none⟩]
[1, 4, 12])
(.cond (.t 12)
(.seq (.dreg [⟨some 14, .loadN (.t 1) 4, none⟩,
⟨some 15, .faddr (.t 1) 2, none⟩,
⟨some 16, .load (.t 15), none⟩,
⟨some 17, .call n_value_Str [.t 16], none⟩,
⟨some 18, .eqA false [0, 0, 1, 2] (.t 14) (.t 17), none⟩,
⟨some 19, .mov (.t 18), none⟩,
⟨some 20, .faddr (.t 1) 2, (some (19, true))⟩,
⟨some 21, .load (.t 20), (some (19, true))⟩,
⟨some 22, .len true (.t 21), (some (19, true))⟩,
⟨some 23, .bin .leq (.t 22) (.k (.int .i64 4096)), (some (19, true))⟩,
⟨some 24, .pick (.t 19) (.t 23) (.k (.bool false)), none⟩,
⟨some 2, .mov (.t 24), none⟩]
[2])
.ret)
(.seq (.reg [⟨some 26, .bin .eql (.t 4) (.k (.int .i64 3)), none⟩,
⟨some 25, .mov (.t 26), none⟩]
[1, 25])
(.cond (.t 25)
(.seq (.dreg [⟨some 27, .loadN (.t 1) 4, none⟩,
⟨some 28, .faddr (.t 1) 3, none⟩,
⟨some 29, .load (.t 28), none⟩,
⟨some 30, .call n_value_Bool [.t 29], none⟩,
⟨some 31, .eqA false [0, 0, 1, 2] (.t 27) (.t 30), none⟩,
⟨some 2, .mov (.t 31), none⟩]
[2])
.ret)
.skip))))))))
(.seq (.reg [⟨some 2, .mov (.k (.bool false)), none⟩]
[2])
.ret)))⟩
theorem k_value_Right : chkF Go.Proofs.Try.prog Go.Proofs.Try.f16 c_value_Right = true := by kernel_rfl
theorem pc_value_Right {G : Nat → Option AV} {args : List AV} {r : AV} (h : Runs Go.Proofs.Try.prog G c_value_Right args r) (hk : args.length = c_value_Right.k := by rfl) : PureC Go.Proofs.Try.prog G n_value_Right args r := PureC.of_runs (fn := Go.Proofs.Try.f16) (A := c_value_Right) Go.Proofs.Try.func16 k_value_Right hk h
def c_value_Str : AFun := ⟨5, 1, [.cells 2 4],
  (.seq (.reg [⟨some 2, .alloc t_api_Value 4 (.agg [.int .i64 0, .int .i64 0, .str [], .bool false]), none⟩]
[0, 2])
(.seq (.reg [⟨some 3, .mov (.t 0), none⟩,
⟨some 4, .build [.int .i64 0, .int .i64 0, .str [], .bool false] [(0, 1, .k (.int .i64 2)), (2, 1, .t 3)], none⟩,
⟨none, .store (.t 2) (.t 4) 4, none⟩]
[2])
.ret))⟩
theorem k_value_Str : chkF Go.Proofs.Try.prog Go.Proofs.Try.f26 c_value_Str = true := by kernel_rfl
theorem pc_value_Str {G : Nat → Option AV} {args : List AV} {r : AV} (h : Runs Go.Proofs.Try.prog G c_value_Str args r) (hk : args.length = c_value_Str.k := by rfl) : PureC Go.Proofs.Try.prog G n_value_Str args r := PureC.of_runs (fn := Go.Proofs.Try.f26) (A := c_value_Str) Go.Proofs.Try.func26 k_value_Str hk h
def c_slices_BinarySearchFunc_api_Slot_api_Slot_int : AFun := ⟨49, 3, [.t 6, .t 7],
  (.seq (.reg [⟨some 6, .mov (.k (.int .i64 0)), none⟩,
⟨some 7, .mov (.k (.bool false)), none⟩]
[0, 1, 2])
(.seq (.reg [⟨some 12, .mov (.t 0), none⟩,
⟨some 13, .len false (.t 12), none⟩,
⟨some 8, .mov (.t 13), none⟩]
[0, 1, 2, 8])
(.seq (.reg [⟨some 14, .mov (.t 8), none⟩,
⟨some 9, .mov (.k (.int .i64 0)), none⟩,
⟨some 10, .mov (.t 14), none⟩]
[0, 1, 2, 8, 9, 10])
(.seq (.block 0
(.loop [0, 1, 2, 8, 9, 10] [13]
  (.seq (.seq (.reg [⟨some 15, .mov (.t 9), none⟩,
⟨some 16, .mov (.t 10), none⟩,
⟨some 17, .bin .lss (.t 15) (.t 16), none⟩]
[0, 1, 2, 8, 9, 10, 17])
(.cond (.t 17)
.skip
(.exit 0)))
(.block 1
(.seq (.reg [⟨some 18, .mov (.t 9), none⟩,
⟨some 19, .mov (.t 10), none⟩,
⟨some 20, .bin .add (.t 18) (.t 19), none⟩,
⟨some 21, .conv .u64 (.t 20), none⟩,
⟨some 22, .bin .shr (.t 21) (.k (.int .u64 1)), none⟩,
⟨some 23, .conv .i64 (.t 22), none⟩,
⟨some 11, .mov (.t 23), none⟩]
[0, 1, 2, 8, 9, 10, 11])
(.seq (.reg [⟨some 24, .mov (.t 2), none⟩,
⟨some 25, .mov (.t 0), none⟩,
⟨some 26, .mov (.t 11), none⟩,
⟨some 27, .iaddr 5 (.t 25) (.t 26), none⟩,
⟨some 28, .loadN (.t 27) 5, none⟩,
⟨some 29, .mov (.t 1), none⟩,
⟨some 30, .callv (.t 24) [.t 28, .t 29], none⟩,
⟨some 31, .bin .lss (.t 30) (.k (.int .i64 0)), none⟩]
[0, 1, 2, 8, 9, 10, 11, 31])
(.cond (.t 31)
(.reg [⟨some 32, .mov (.t 11), none⟩,
⟨some 33, .bin .add (.t 32) (.k (.int .i64 1)), none⟩,
⟨some 9, .mov (.t 33), none⟩]
[0, 1, 2, 8, 9, 10])
(.reg [⟨some 34, .mov (.t 11), none⟩,
⟨some 10, .mov (.t 34), none⟩]
[0, 1, 2, 8, 9, 10]))))))))
(.seq (.reg [⟨some 35, .mov (.t 9), none⟩,
⟨some 36, .mov (.t 9), none⟩,
⟨some 37, .mov (.t 8), none⟩,
⟨some 38, .bin .lss (.t 36) (.t 37), none⟩,
⟨some 39, .mov (.t 38), none⟩,
⟨some 40, .mov (.t 2), (some (39, true))⟩,
⟨some 41, .mov (.t 0), (some (39, true))⟩,
⟨some 42, .mov (.t 9), (some (39, true))⟩,
⟨some 43, .iaddr 5 (.t 41) (.t 42), (some (39, true))⟩,
⟨some 44, .loadN (.t 43) 5, (some (39, true))⟩,
⟨some 45, .mov (.t 1), (some (39, true))⟩,
⟨some 46, .callv (.t 40) [.t 44, .t 45], (some (39, true))⟩,
⟨some 47, .bin .eql (.t 46) (.k (.int .i64 0)), (some (39, true))⟩,
⟨some 48, .pick (.t 39) (.t 47) (.k (.bool false)), none⟩,
⟨some 6, .mov (.t 35), none⟩,
⟨some 7, .mov (.t 48), none⟩]
[6, 7])
.ret)))))⟩
theorem k_slices_BinarySearchFunc_api_Slot_api_Slot_int : chkF Go.Proofs.Try.prog Go.Proofs.Try.f21 c_slices_BinarySearchFunc_api_Slot_api_Slot_int = true := by kernel_rfl
theorem pc_slices_BinarySearchFunc_api_Slot_api_Slot_int {G : Nat → Option AV} {args : List AV} {r : AV} (h : Runs Go.Proofs.Try.prog G c_slices_BinarySearchFunc_api_Slot_api_Slot_int args r) (hk : args.length = c_slices_BinarySearchFunc_api_Slot_api_Slot_int.k := by rfl) : PureC Go.Proofs.Try.prog G n_slices_BinarySearchFunc_api_Slot_api_Slot_int args r := PureC.of_runs (fn := Go.Proofs.Try.f21) (A := c_slices_BinarySearchFunc_api_Slot_api_Slot_int) Go.Proofs.Try.func21 k_slices_BinarySearchFunc_api_Slot_api_Slot_int hk h
def c_slices_Concat_api_Slot_api_Slot : AFun := ⟨36, 1, [.t 2],
  (.seq (.reg [⟨some 2, .nilrow t_api_Slot 5, none⟩]
[0])
(.seq (.reg [⟨some 3, .mov (.k (.int .i64 0)), none⟩]
[0, 3])
(.seq (.seq (.reg [⟨some 9, .mov (.t 0), none⟩,
⟨some 10, .len false (.t 9), none⟩,
⟨some 11, .mov (.k (.int .i64 0)), none⟩]
[0, 3, 9, 10, 11])
(.block 0
(.loop [0, 3, 9, 10, 11] [2, 10]
  (.seq (.reg [⟨some 12, .bin .lss (.t 11) (.t 10), none⟩]
[0, 3, 9, 10, 11, 12])
(.seq (.cond (.t 12)
.skip
(.exit 0))
(.seq (.block 1
(.seq (.reg [⟨some 13, .iaddr 1 (.t 9) (.t 11), none⟩,
⟨some 14, .load (.t 13), none⟩,
⟨some 5, .mov (.t 14), none⟩]
[0, 3, 5, 9, 10, 11])
(.seq (.reg [⟨some 15, .mov (.t 3), none⟩,
⟨some 16, .mov (.t 5), none⟩,
⟨some 17, .len false (.t 16), none⟩,
⟨some 18, .bin .add (.t 15) (.t 17), none⟩,
⟨some 3, .mov (.t 18), none⟩]
[0, 3, 9, 10, 11])
(.seq (.reg [⟨some 19, .mov (.t 3), none⟩,
⟨some 20, .bin .lss (.t 19) (.k (.int .i64 0)), none⟩]
[0, 3, 9, 10, 11, 20])
(.cond (.t 20)
(.reg [⟨some 21, .mki t_string (.k (.str [108, 101, 110, 32, 111, 117, 116, 32, 111, 102, 32, 114, 97, 110, 103, 101])), none⟩,
⟨none, .bad, none⟩]
[0, 3, 9, 10, 11])
.skip)))))
(.reg [⟨some 22, .bin .add (.t 11) (.k (.int .i64 1)), none⟩,
⟨some 11, .mov (.t 22), none⟩]
[0, 3, 9, 10, 11])))))))
(.seq (.reg [⟨some 23, .mov (.t 3), none⟩,
⟨some 24, .call n_slices_Grow_api_Slot_api_Slot [.k (.nils), .t 23], none⟩,
⟨some 6, .mov (.t 24), none⟩]
[0, 6])
(.seq (.seq (.reg [⟨some 25, .mov (.t 0), none⟩,
⟨some 26, .len false (.t 25), none⟩,
⟨some 27, .mov (.k (.int .i64 0)), none⟩]
[6, 25, 26, 27])
(.block 2
(.loop [6, 25, 26, 27] [2, 10, 17, 24, 26, 33]
  (.seq (.reg [⟨some 28, .bin .lss (.t 27) (.t 26), none⟩]
[6, 25, 26, 27, 28])
(.seq (.cond (.t 28)
.skip
(.exit 2))
(.seq (.block 3
(.seq (.reg [⟨some 29, .iaddr 1 (.t 25) (.t 27), none⟩,
⟨some 30, .load (.t 29), none⟩,
⟨some 8, .mov (.t 30), none⟩]
[6, 8, 25, 26, 27])
(.reg [⟨some 31, .mov (.t 6), none⟩,
⟨some 32, .mov (.t 8), none⟩,
⟨some 33, .app t_api_Slot 5 48 (.t 31) (.t 32), none⟩,
⟨some 6, .mov (.t 33), none⟩]
[6, 25, 26, 27])))
(.reg [⟨some 34, .bin .add (.t 27) (.k (.int .i64 1)), none⟩,
⟨some 27, .mov (.t 34), none⟩]
[6, 25, 26, 27])))))))
(.seq (.reg [⟨some 35, .mov (.t 6), none⟩,
⟨some 2, .mov (.t 35), none⟩]
[2])
.ret))))))⟩
theorem k_slices_Concat_api_Slot_api_Slot : chkF Go.Proofs.Try.prog Go.Proofs.Try.f19 c_slices_Concat_api_Slot_api_Slot = true := by kernel_rfl
theorem pc_slices_Concat_api_Slot_api_Slot {G : Nat → Option AV} {args : List AV} {r : AV} (h : Runs Go.Proofs.Try.prog G c_slices_Concat_api_Slot_api_Slot args r) (hk : args.length = c_slices_Concat_api_Slot_api_Slot.k := by rfl) : PureC Go.Proofs.Try.prog G n_slices_Concat_api_Slot_api_Slot args r := PureC.of_runs (fn := Go.Proofs.Try.f19) (A := c_slices_Concat_api_Slot_api_Slot) Go.Proofs.Try.func19 k_slices_Concat_api_Slot_api_Slot hk h
end Go.Proofs.Ytngjjiblmpjbjaa.Ab
