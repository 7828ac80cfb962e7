/-
  The functions' abstract code, by program (acgen.py), and that the model's code is it, reckoned by the kernel. No claim is proved here.
-/
import Derived.Test.YtjkdpahaingjjaaYAbRun
import Derived.Test.YtjkdpahaingjjaaProg
namespace Go.Proofs.Ytjkdpahaingjjaa.Ab
open Go
abbrev t_uint8 : Nat := 5
abbrev t_string : Nat := 9
abbrev t_Sapi_Slot : Nat := 22
abbrev t_Sint : Nat := 35
abbrev t_api_Value : Nat := 38
abbrev t_api_Slot : Nat := 40
abbrev n_proctorlaw05_BindingParts : Nat := 5
abbrev n_proctorlaw05_small : Nat := 6
abbrev n_proctorlaw05_awake : Nat := 7
abbrev n_binding_Union : Nat := 9
abbrev n_binding_Under : Nat := 10
abbrev n_binding_Fits : Nat := 12
abbrev n_binding_Same : Nat := 13
abbrev n_proctorref05_Same : Nat := 14
abbrev n_binding_Less : Nat := 15
abbrev n_proctorref05_Less : Nat := 16
abbrev n_binding_Key : Nat := 17
abbrev n_proctorref05_Put : Nat := 20
abbrev n_proctorlaw05_same : Nat := 21
abbrev n_proctorref04_Key : Nat := 23
abbrev n_binding_Keep : Nat := 24
abbrev n_binding_Under1 : Nat := 25
abbrev n_proctorref05_Right : Nat := 26
abbrev n_binding_Right : Nat := 27
abbrev n_binding_Of : Nat := 29
abbrev n_slices_Concat_api_Slot_api_Slot : Nat := 30
abbrev n_slices_Equal_api_Slot_api_Slot : Nat := 32
abbrev n_value_Less : Nat := 33
abbrev n_proctorref03_Less : Nat := 34
abbrev n_key_Of : Nat := 35
abbrev n_proctorref05_Has : Nat := 36
abbrev n_binding_order : Nat := 39
abbrev n_binding_pick : Nat := 40
abbrev n_binding_Keep_1 : Nat := 41
abbrev n_slices_Contains_int_int : Nat := 42
abbrev n_binding_Under1_1 : Nat := 43
abbrev n_proctorref03_Right : Nat := 44
abbrev n_value_Right : Nat := 45
abbrev n_binding_find : Nat := 46
abbrev n_slices_Insert_api_Slot_api_Slot : Nat := 47
abbrev n_slices_Grow_api_Slot_api_Slot : Nat := 48
abbrev n_binding_Get : Nat := 50
abbrev n_proctorref03_Below : Nat := 51
abbrev n_key_one : Nat := 52
abbrev n_slices_SortFunc_api_Slot_api_Slot : Nat := 54
abbrev n_binding_order_1 : Nat := 55
abbrev n_slices_CompactFunc_api_Slot_api_Slot : Nat := 56
abbrev n_slices_Index_int_int : Nat := 57
abbrev n_value_Int : Nat := 58
abbrev n_value_Str : Nat := 59
abbrev n_value_Bool : Nat := 60
abbrev n_slices_BinarySearchFunc_api_Slot_api_Slot_int : Nat := 61
abbrev n_binding_find_1 : Nat := 62
abbrev n_key_number : Nat := 65
abbrev n_key_text : Nat := 66
def c_binding_Get : AFun := ⟨22, 2, [.cells 4 4, .t 5],
  (.seq (.reg [⟨some 4, .alloc t_api_Value 4 (.agg [.int .i64 0, .int .i64 0, .str [], .bool false]), none⟩,
⟨some 5, .mov (.k (.bool false)), none⟩]
[0, 1, 4])
(.seq (.seq (.reg [⟨some 8, .mov (.t 0), none⟩,
⟨some 9, .len false (.t 8), none⟩,
⟨some 10, .mov (.k (.int .i64 0)), none⟩]
[1, 4, 8, 9, 10])
(.block 0
(.loop [1, 4, 8, 9, 10] [4, 9]
  (.seq (.reg [⟨some 11, .bin .lss (.t 10) (.t 9), none⟩]
[1, 4, 8, 9, 10, 11])
(.seq (.cond (.t 11)
.skip
(.exit 0))
(.seq (.block 1
(.seq (.reg [⟨some 12, .iaddr 5 (.t 8) (.t 10), none⟩,
⟨some 13, .loadN (.t 12) 5, none⟩,
⟨some 7, .alloc t_api_Slot 5 (.agg [.int .i64 0, .int .i64 0, .int .i64 0, .str [], .bool false]), none⟩,
⟨none, .store (.t 7) (.t 13) 5, none⟩]
[1, 4, 7, 8, 9, 10])
(.seq (.reg [⟨some 14, .faddr (.t 7) 0, none⟩,
⟨some 15, .load (.t 14), none⟩,
⟨some 16, .mov (.t 1), none⟩,
⟨some 17, .bin .eql (.t 15) (.t 16), none⟩]
[1, 4, 7, 8, 9, 10, 17])
(.cond (.t 17)
(.seq (.reg [⟨some 18, .faddr (.t 7) 1, none⟩,
⟨some 19, .loadN (.t 18) 4, none⟩,
⟨none, .store (.t 4) (.t 19) 4, none⟩,
⟨some 5, .mov (.k (.bool true)), none⟩]
[4, 5])
.ret)
.skip))))
(.reg [⟨some 20, .bin .add (.t 10) (.k (.int .i64 1)), none⟩,
⟨some 10, .mov (.t 20), none⟩]
[1, 4, 8, 9, 10])))))))
(.seq (.reg [⟨some 21, .build [.int .i64 0, .int .i64 0, .str [], .bool false] [], none⟩,
⟨none, .store (.t 4) (.t 21) 4, none⟩,
⟨some 5, .mov (.k (.bool false)), none⟩]
[4, 5])
.ret)))⟩
theorem k_binding_Get : chkF Go.Proofs.Try.prog Go.Proofs.Try.f50 c_binding_Get = true := by kernel_rfl
theorem pc_binding_Get {G : Nat → Option AV} {args : List AV} {r : AV} (h : Runs Go.Proofs.Try.prog G c_binding_Get args r) (hk : args.length = c_binding_Get.k := by rfl) : PureC Go.Proofs.Try.prog G n_binding_Get args r := PureC.of_runs (fn := Go.Proofs.Try.f50) (A := c_binding_Get) Go.Proofs.Try.func50 k_binding_Get hk h
def c_binding_Keep : AFun := ⟨8, 2, [.t 4],
  (.seq (.reg [⟨some 3, .box t_Sint 1 (.t 1), none⟩,
⟨some 4, .nilrow t_api_Slot 5, none⟩]
[0, 3])
(.seq (.reg [⟨some 5, .mov (.t 0), none⟩,
⟨some 6, .mkfn n_binding_Keep_1 [.t 3], none⟩,
⟨some 7, .call n_binding_pick [.t 5, .t 6], none⟩,
⟨some 4, .mov (.t 7), none⟩]
[4])
.ret))⟩
theorem k_binding_Keep : chkF Go.Proofs.Try.prog Go.Proofs.Try.f24 c_binding_Keep = true := by kernel_rfl
theorem pc_binding_Keep {G : Nat → Option AV} {args : List AV} {r : AV} (h : Runs Go.Proofs.Try.prog G c_binding_Keep args r) (hk : args.length = c_binding_Keep.k := by rfl) : PureC Go.Proofs.Try.prog G n_binding_Keep args r := PureC.of_runs (fn := Go.Proofs.Try.f24) (A := c_binding_Keep) Go.Proofs.Try.func24 k_binding_Keep hk h
def c_binding_Keep_1 : AFun := ⟨8, 2, [.t 3],
  (.seq (.reg [⟨some 2, .box t_api_Slot 5 (.t 0), none⟩,
⟨some 3, .mov (.k (.bool false)), none⟩]
[1, 2])
(.seq (.reg [⟨some 4, .load (.t 1), none⟩,
⟨some 5, .faddr (.t 2) 0, none⟩,
⟨some 6, .load (.t 5), none⟩,
⟨some 7, .call n_slices_Contains_int_int [.t 4, .t 6], none⟩,
⟨some 3, .mov (.t 7), none⟩]
[3])
.ret))⟩
theorem k_binding_Keep_1 : chkF Go.Proofs.Try.prog Go.Proofs.Try.f41 c_binding_Keep_1 = true := by kernel_rfl
theorem hc_binding_Keep_1 {G : Nat → Option AV} {args : List AV} {r : AV} {H H1 : List (Nat × Box)} (h : RunsH Go.Proofs.Try.prog G c_binding_Keep_1 args H r H1) (hk : args.length = c_binding_Keep_1.k := by rfl) (hh : highB c_binding_Keep_1.N H = true := by rfl) : HeapC Go.Proofs.Try.prog G n_binding_Keep_1 args H r H1 := HeapC.of_runs (fn := Go.Proofs.Try.f41) (A := c_binding_Keep_1) Go.Proofs.Try.func41 k_binding_Keep_1 hk hh h
def c_binding_Key : AFun := ⟨27, 1, [.t 2],
  (.seq (.reg [⟨some 2, .mov (.k (.str [])), none⟩]
[0])
(.seq (.reg [⟨some 3, .nilrow t_uint8 1, none⟩]
[0, 3])
(.seq (.seq (.reg [⟨some 6, .mov (.t 0), none⟩,
⟨some 7, .len false (.t 6), none⟩,
⟨some 8, .mov (.k (.int .i64 0)), none⟩]
[3, 6, 7, 8])
(.block 0
(.loop [3, 6, 7, 8] [3, 7, 18, 23]
  (.seq (.reg [⟨some 9, .bin .lss (.t 8) (.t 7), none⟩]
[3, 6, 7, 8, 9])
(.seq (.cond (.t 9)
.skip
(.exit 0))
(.seq (.block 1
(.seq (.reg [⟨some 10, .iaddr 5 (.t 6) (.t 8), none⟩,
⟨some 11, .loadN (.t 10) 5, none⟩,
⟨some 5, .alloc t_api_Slot 5 (.agg [.int .i64 0, .int .i64 0, .int .i64 0, .str [], .bool false]), none⟩,
⟨none, .store (.t 5) (.t 11) 5, none⟩]
[3, 5, 6, 7, 8])
(.dregT [⟨some 12, .mov (.t 3), none⟩,
⟨some 13, .faddr (.t 5) 0, none⟩,
⟨some 14, .load (.t 13), none⟩,
⟨some 15, .bin .add (.t 14) (.k (.int .i64 16)), none⟩,
⟨some 16, .conv .u8 (.t 15), none⟩,
⟨some 17, .mkrow t_uint8 1 1 (.int .u8 0) [(0, .t 16)], none⟩,
⟨some 18, .app t_uint8 1 1 (.t 12) (.t 17), none⟩,
⟨some 19, .faddr (.t 5) 1, none⟩,
⟨some 20, .loadN (.t 19) 4, none⟩,
⟨some 21, .mkrow t_api_Value 4 1 (.agg [.int .i64 0, .int .i64 0, .str [], .bool false]) [(0, .t 20)], none⟩,
⟨some 22, .callB n_key_Of [.t 21], none⟩,
⟨some 23, .app t_uint8 1 1 (.t 18) (.t 22), none⟩,
⟨some 3, .mov (.t 23), none⟩]
[5, 6, 9, 10, 11] [[], [], [], [], [], [], [5], [], [], [], [5, 6, 9], [5, 6, 9, 10], [5, 6, 9, 10, 11]] [[6, 10, 11], [5, 6, 10, 11], [5, 6, 10, 11], [5, 6, 10, 11], [5, 6, 10, 11], [], [], [9, 10, 11], [9, 10, 11], [], [], [], []] [0, 1, 2, 3, 4, 7, 8]
(.next 5 [] [0, 7, 8] (.next 6 [] [7, 8] (.next 9 [] [] (.next 10 [] [] (.next 11 [12] [] .fin .nil) .nil) .nil) (.next 9 [] [0] (.next 6 [] [] (.next 10 [] [] (.next 11 [12] [] .fin .nil) .nil) .nil) .nil)) (.next 9 [] [0, 1, 2, 3, 4] (.next 5 [] [0] (.next 6 [] [] (.next 10 [] [] (.next 11 [12] [] .fin .nil) .nil) .nil) .nil) .nil))
[3, 5, 6, 7, 8, 12, 13, 14, 15, 16, 17, 18, 19, 20, 21, 22, 23] [3, 6, 7, 8])))
(.reg [⟨some 24, .bin .add (.t 8) (.k (.int .i64 1)), none⟩,
⟨some 8, .mov (.t 24), none⟩]
[3, 6, 7, 8])))))))
(.seq (.reg [⟨some 25, .mov (.t 3), none⟩,
⟨some 26, .b2s (.t 25), none⟩,
⟨some 2, .mov (.t 26), none⟩]
[2])
.ret))))⟩
theorem k_binding_Key : chkF Go.Proofs.Try.prog Go.Proofs.Try.f17 c_binding_Key = true := by kernel_rfl
theorem pc_binding_Key {G : Nat → Option AV} {args : List AV} {r : AV} (h : Runs Go.Proofs.Try.prog G c_binding_Key args r) (hk : args.length = c_binding_Key.k := by rfl) : PureC Go.Proofs.Try.prog G n_binding_Key args r := PureC.of_runs (fn := Go.Proofs.Try.f17) (A := c_binding_Key) Go.Proofs.Try.func17 k_binding_Key hk h
def c_binding_Less : AFun := ⟨59, 2, [.t 4],
  (.seq (.reg [⟨some 4, .mov (.k (.bool false)), none⟩]
[0, 1])
(.seq (.seq (.reg [⟨some 7, .mov (.t 0), none⟩,
⟨some 8, .len false (.t 7), none⟩,
⟨some 9, .mov (.t 1), none⟩,
⟨some 10, .len false (.t 9), none⟩,
⟨some 11, .bin .neq (.t 8) (.t 10), none⟩]
[0, 1, 11])
(.cond (.t 11)
(.seq (.reg [⟨some 12, .mov (.t 0), none⟩,
⟨some 13, .len false (.t 12), none⟩,
⟨some 14, .mov (.t 1), none⟩,
⟨some 15, .len false (.t 14), none⟩,
⟨some 16, .bin .lss (.t 13) (.t 15), none⟩,
⟨some 4, .mov (.t 16), none⟩]
[4])
.ret)
.skip))
(.seq (.seq (.reg [⟨some 17, .mov (.t 0), none⟩,
⟨some 18, .len false (.t 17), none⟩,
⟨some 19, .mov (.k (.int .i64 0)), none⟩]
[1, 17, 18, 19])
(.block 0
(.loop [1, 17, 18, 19] [8, 10, 13, 15, 18]
  (.seq (.reg [⟨some 20, .bin .lss (.t 19) (.t 18), none⟩]
[1, 17, 18, 19, 20])
(.seq (.cond (.t 20)
.skip
(.exit 0))
(.seq (.block 1
(.seq (.reg [⟨some 21, .mov (.t 19), none⟩,
⟨some 22, .iaddr 5 (.t 17) (.t 19), none⟩,
⟨some 23, .loadN (.t 22) 5, none⟩,
⟨some 6, .alloc t_api_Slot 5 (.agg [.int .i64 0, .int .i64 0, .int .i64 0, .str [], .bool false]), none⟩,
⟨some 5, .mov (.t 21), none⟩,
⟨none, .store (.t 6) (.t 23) 5, none⟩]
[1, 5, 6, 17, 18, 19])
(.block 2
(.seq (.dreg [⟨some 25, .faddr (.t 6) 0, none⟩,
⟨some 26, .load (.t 25), none⟩,
⟨some 27, .mov (.t 1), none⟩,
⟨some 28, .mov (.t 5), none⟩,
⟨some 29, .iaddr 5 (.t 27) (.t 28), none⟩,
⟨some 30, .faddr (.t 29) 0, none⟩,
⟨some 31, .load (.t 30), none⟩,
⟨some 32, .bin .neq (.t 26) (.t 31), none⟩,
⟨some 24, .mov (.t 32), none⟩]
[1, 5, 6, 17, 18, 19, 24])
(.cond (.t 24)
(.seq (.dreg [⟨some 33, .faddr (.t 6) 0, none⟩,
⟨some 34, .load (.t 33), none⟩,
⟨some 35, .mov (.t 1), none⟩,
⟨some 36, .mov (.t 5), none⟩,
⟨some 37, .iaddr 5 (.t 35) (.t 36), none⟩,
⟨some 38, .faddr (.t 37) 0, none⟩,
⟨some 39, .load (.t 38), none⟩,
⟨some 40, .bin .lss (.t 34) (.t 39), none⟩,
⟨some 4, .mov (.t 40), none⟩]
[4])
.ret)
(.seq (.dreg [⟨some 42, .faddr (.t 6) 1, none⟩,
⟨some 43, .loadN (.t 42) 4, none⟩,
⟨some 44, .mov (.t 1), none⟩,
⟨some 45, .mov (.t 5), none⟩,
⟨some 46, .iaddr 5 (.t 44) (.t 45), none⟩,
⟨some 47, .faddr (.t 46) 1, none⟩,
⟨some 48, .loadN (.t 47) 4, none⟩,
⟨some 49, .eqA true [0, 0, 1, 2] (.t 43) (.t 48), none⟩,
⟨some 41, .mov (.t 49), none⟩]
[1, 5, 6, 17, 18, 19, 41])
(.cond (.t 41)
(.seq (.dreg [⟨some 50, .faddr (.t 6) 1, none⟩,
⟨some 51, .loadN (.t 50) 4, none⟩,
⟨some 52, .mov (.t 1), none⟩,
⟨some 53, .mov (.t 5), none⟩,
⟨some 54, .iaddr 5 (.t 52) (.t 53), none⟩,
⟨some 55, .faddr (.t 54) 1, none⟩,
⟨some 56, .loadN (.t 55) 4, none⟩,
⟨some 57, .call n_value_Less [.t 51, .t 56], none⟩,
⟨some 4, .mov (.t 57), none⟩]
[4])
.ret)
.skip)))))))
(.reg [⟨some 58, .bin .add (.t 19) (.k (.int .i64 1)), none⟩,
⟨some 19, .mov (.t 58), none⟩]
[1, 17, 18, 19])))))))
(.seq (.reg [⟨some 4, .mov (.k (.bool false)), none⟩]
[4])
.ret))))⟩
theorem k_binding_Less : chkF Go.Proofs.Try.prog Go.Proofs.Try.f15 c_binding_Less = true := by kernel_rfl
theorem pc_binding_Less {G : Nat → Option AV} {args : List AV} {r : AV} (h : Runs Go.Proofs.Try.prog G c_binding_Less args r) (hk : args.length = c_binding_Less.k := by rfl) : PureC Go.Proofs.Try.prog G n_binding_Less args r := PureC.of_runs (fn := Go.Proofs.Try.f15) (A := c_binding_Less) Go.Proofs.Try.func15 k_binding_Less hk h
def c_binding_Of : AFun := ⟨42, 1, [.t 2, .t 3],
  (.seq (.reg [⟨some 2, .nilrow t_api_Slot 5, none⟩,
⟨some 3, .mov (.k (.bool false)), none⟩]
[0])
(.seq (.reg [⟨some 4, .nilrow t_api_Slot 5, none⟩]
[0, 4])
(.seq (.seq (.reg [⟨some 9, .mov (.t 0), none⟩,
⟨some 10, .len false (.t 9), none⟩,
⟨some 11, .mov (.k (.int .i64 0)), none⟩]
[4, 9, 10, 11])
(.block 0
(.loop [4, 9, 10, 11] [2, 4, 10]
  (.seq (.reg [⟨some 12, .bin .lss (.t 11) (.t 10), none⟩]
[4, 9, 10, 11, 12])
(.seq (.cond (.t 12)
.skip
(.exit 0))
(.seq (.block 1
(.seq (.reg [⟨some 13, .iaddr 5 (.t 9) (.t 11), none⟩,
⟨some 14, .loadN (.t 13) 5, none⟩,
⟨some 6, .alloc t_api_Slot 5 (.agg [.int .i64 0, .int .i64 0, .int .i64 0, .str [], .bool false]), none⟩,
⟨none, .store (.t 6) (.t 14) 5, none⟩]
[4, 6, 9, 10, 11])
(.seq (.reg [⟨some 16, .mov (.t 4), none⟩,
⟨some 17, .faddr (.t 6) 0, none⟩,
⟨some 18, .load (.t 17), none⟩,
⟨some 19, .call n_binding_find [.t 16, .t 18], none⟩,
⟨some 15, .mov (.t 19), none⟩,
⟨some 20, .ext (.t 15) 0, none⟩,
⟨some 21, .ext (.t 15) 1, none⟩,
⟨some 7, .mov (.t 20), none⟩,
⟨some 8, .mov (.t 21), none⟩]
[4, 6, 7, 8, 9, 10, 11])
(.block 2
(.seq (.reg [⟨some 23, .mov (.t 8), none⟩,
⟨some 24, .un .not (.t 23), none⟩,
⟨some 22, .mov (.t 24), none⟩]
[4, 6, 7, 9, 10, 11, 22])
(.cond (.t 22)
(.reg [⟨some 25, .mov (.t 4), none⟩,
⟨some 26, .mov (.t 7), none⟩,
⟨some 27, .loadN (.t 6) 5, none⟩,
⟨some 28, .mkrow t_api_Slot 5 1 (.agg [.int .i64 0, .int .i64 0, .int .i64 0, .str [], .bool false]) [(0, .t 27)], none⟩,
⟨some 29, .call n_slices_Insert_api_Slot_api_Slot [.t 25, .t 26, .t 28], none⟩,
⟨some 4, .mov (.t 29), none⟩]
[4, 9, 10, 11])
(.seq (.dreg [⟨some 31, .mov (.t 4), none⟩,
⟨some 32, .mov (.t 7), none⟩,
⟨some 33, .iaddr 5 (.t 31) (.t 32), none⟩,
⟨some 34, .loadN (.t 33) 5, none⟩,
⟨some 35, .loadN (.t 6) 5, none⟩,
⟨some 36, .eqA true [0, 0, 0, 1, 2] (.t 34) (.t 35), none⟩,
⟨some 30, .mov (.t 36), none⟩]
[4, 9, 10, 11, 30])
(.cond (.t 30)
(.seq (.reg [⟨some 2, .nilrow t_api_Slot 5, none⟩,
⟨some 3, .mov (.k (.bool false)), none⟩]
[2, 3])
.ret)
.skip))))))))
(.reg [⟨some 37, .bin .add (.t 11) (.k (.int .i64 1)), none⟩,
⟨some 11, .mov (.t 37), none⟩]
[4, 9, 10, 11])))))))
(.seq (.seq (.reg [⟨some 38, .mov (.t 4), none⟩,
⟨some 39, .call n_binding_Right [.t 38], none⟩,
⟨some 40, .un .not (.t 39), none⟩]
[4, 40])
(.cond (.t 40)
(.seq (.reg [⟨some 2, .nilrow t_api_Slot 5, none⟩,
⟨some 3, .mov (.k (.bool false)), none⟩]
[2, 3])
.ret)
.skip))
(.seq (.reg [⟨some 41, .mov (.t 4), none⟩,
⟨some 2, .mov (.t 41), none⟩,
⟨some 3, .mov (.k (.bool true)), none⟩]
[2, 3])
.ret)))))⟩
theorem k_binding_Of : chkF Go.Proofs.Try.prog Go.Proofs.Try.f29 c_binding_Of = true := by kernel_rfl
theorem pc_binding_Of {G : Nat → Option AV} {args : List AV} {r : AV} (h : Runs Go.Proofs.Try.prog G c_binding_Of args r) (hk : args.length = c_binding_Of.k := by rfl) : PureC Go.Proofs.Try.prog G n_binding_Of args r := PureC.of_runs (fn := Go.Proofs.Try.f29) (A := c_binding_Of) Go.Proofs.Try.func29 k_binding_Of hk h
def c_binding_Right : AFun := ⟨42, 1, [.t 2],
  (.seq (.reg [⟨some 2, .mov (.k (.bool false)), none⟩]
[0])
(.seq (.seq (.reg [⟨some 5, .mov (.t 0), none⟩,
⟨some 6, .len false (.t 5), none⟩,
⟨some 7, .mov (.k (.int .i64 0)), none⟩]
[0, 5, 6, 7])
(.block 0
(.loop [0, 5, 6, 7] [6]
  (.seq (.reg [⟨some 8, .bin .lss (.t 7) (.t 6), none⟩]
[0, 5, 6, 7, 8])
(.seq (.cond (.t 8)
.skip
(.exit 0))
(.seq (.block 1
(.seq (.reg [⟨some 9, .mov (.t 7), none⟩,
⟨some 10, .iaddr 5 (.t 5) (.t 7), none⟩,
⟨some 11, .loadN (.t 10) 5, none⟩,
⟨some 4, .alloc t_api_Slot 5 (.agg [.int .i64 0, .int .i64 0, .int .i64 0, .str [], .bool false]), none⟩,
⟨some 3, .mov (.t 9), none⟩,
⟨none, .store (.t 4) (.t 11) 5, none⟩]
[0, 3, 4, 5, 6, 7])
(.seq (.dreg [⟨some 12, .faddr (.t 4) 0, none⟩,
⟨some 13, .load (.t 12), none⟩,
⟨some 14, .bin .lss (.t 13) (.k (.int .i64 0)), none⟩,
⟨some 15, .mov (.t 14), none⟩,
⟨some 16, .faddr (.t 4) 0, (some (15, false))⟩,
⟨some 17, .load (.t 16), (some (15, false))⟩,
⟨some 18, .bin .geq (.t 17) (.k (.int .i64 8)), (some (15, false))⟩,
⟨some 19, .pick (.t 15) (.k (.bool true)) (.t 18), none⟩,
⟨some 20, .mov (.t 19), none⟩,
⟨some 21, .faddr (.t 4) 1, (some (20, false))⟩,
⟨some 22, .loadN (.t 21) 4, (some (20, false))⟩,
⟨some 23, .call n_value_Right [.t 22], (some (20, false))⟩,
⟨some 24, .un .not (.t 23), (some (20, false))⟩,
⟨some 25, .pick (.t 20) (.k (.bool true)) (.t 24), none⟩,
⟨some 26, .mov (.t 25), none⟩,
⟨some 27, .mov (.t 3), (some (26, false))⟩,
⟨some 28, .bin .gtr (.t 27) (.k (.int .i64 0)), (some (26, false))⟩,
⟨some 29, .mov (.t 28), (some (26, false))⟩,
⟨some 30, .faddr (.t 4) 0, (some (29, true))⟩,
⟨some 31, .load (.t 30), (some (29, true))⟩,
⟨some 32, .mov (.t 0), (some (29, true))⟩,
⟨some 33, .mov (.t 3), (some (29, true))⟩,
⟨some 34, .bin .sub (.t 33) (.k (.int .i64 1)), (some (29, true))⟩,
⟨some 35, .iaddr 5 (.t 32) (.t 34), (some (29, true))⟩,
⟨some 36, .faddr (.t 35) 0, (some (29, true))⟩,
⟨some 37, .load (.t 36), (some (29, true))⟩,
⟨some 38, .bin .leq (.t 31) (.t 37), (some (29, true))⟩,
⟨some 39, .pick (.t 29) (.t 38) (.k (.bool false)), (some (26, false))⟩,
⟨some 40, .pick (.t 26) (.k (.bool true)) (.t 39), none⟩]
[0, 5, 6, 7, 40])
(.cond (.t 40)
(.seq (.reg [⟨some 2, .mov (.k (.bool false)), none⟩]
[2])
.ret)
.skip))))
(.reg [⟨some 41, .bin .add (.t 7) (.k (.int .i64 1)), none⟩,
⟨some 7, .mov (.t 41), none⟩]
[0, 5, 6, 7])))))))
(.seq (.reg [⟨some 2, .mov (.k (.bool true)), none⟩]
[2])
.ret)))⟩
theorem k_binding_Right : chkF Go.Proofs.Try.prog Go.Proofs.Try.f27 c_binding_Right = true := by kernel_rfl
theorem pc_binding_Right {G : Nat → Option AV} {args : List AV} {r : AV} (h : Runs Go.Proofs.Try.prog G c_binding_Right args r) (hk : args.length = c_binding_Right.k := by rfl) : PureC Go.Proofs.Try.prog G n_binding_Right args r := PureC.of_runs (fn := Go.Proofs.Try.f27) (A := c_binding_Right) Go.Proofs.Try.func27 k_binding_Right hk h
def c_binding_Same : AFun := ⟨8, 2, [.t 4],
  (.seq (.reg [⟨some 4, .mov (.k (.bool false)), none⟩]
[0, 1])
(.seq (.reg [⟨some 5, .mov (.t 0), none⟩,
⟨some 6, .mov (.t 1), none⟩,
⟨some 7, .call n_slices_Equal_api_Slot_api_Slot [.t 5, .t 6], none⟩,
⟨some 4, .mov (.t 7), none⟩]
[4])
.ret))⟩
theorem k_binding_Same : chkF Go.Proofs.Try.prog Go.Proofs.Try.f13 c_binding_Same = true := by kernel_rfl
theorem pc_binding_Same {G : Nat → Option AV} {args : List AV} {r : AV} (h : Runs Go.Proofs.Try.prog G c_binding_Same args r) (hk : args.length = c_binding_Same.k := by rfl) : PureC Go.Proofs.Try.prog G n_binding_Same args r := PureC.of_runs (fn := Go.Proofs.Try.f13) (A := c_binding_Same) Go.Proofs.Try.func13 k_binding_Same hk h
def c_binding_Under1 : AFun := ⟨21, 1, [.t 2],
  (.seq (.reg [⟨some 2, .nilrow t_Sapi_Slot 1, none⟩]
[0])
(.seq (.reg [⟨some 3, .nilrow t_Sapi_Slot 1, none⟩]
[0, 3])
(.seq (.seq (.reg [⟨some 6, .mov (.t 0), none⟩,
⟨some 7, .len false (.t 6), none⟩,
⟨some 8, .mov (.k (.int .i64 0)), none⟩]
[0, 3, 6, 7, 8])
(.block 0
(.loop [0, 3, 6, 7, 8] [2, 3, 7, 17]
  (.seq (.reg [⟨some 9, .bin .lss (.t 8) (.t 7), none⟩]
[0, 3, 6, 7, 8, 9])
(.seq (.cond (.t 9)
.skip
(.exit 0))
(.seq (.block 1
(.seq (.reg [⟨some 10, .iaddr 5 (.t 6) (.t 8), none⟩,
⟨some 11, .loadN (.t 10) 5, none⟩,
⟨some 5, .alloc t_api_Slot 5 (.agg [.int .i64 0, .int .i64 0, .int .i64 0, .str [], .bool false]), none⟩,
⟨none, .store (.t 5) (.t 11) 5, none⟩]
[0, 3, 5, 6, 7, 8])
(.reg [⟨some 12, .mov (.t 3), none⟩,
⟨some 13, .mov (.t 0), none⟩,
⟨some 14, .mkfn n_binding_Under1_1 [.t 5], none⟩,
⟨some 15, .call n_binding_pick [.t 13, .t 14], none⟩,
⟨some 16, .mkrow t_Sapi_Slot 1 1 (.nils) [(0, .t 15)], none⟩,
⟨some 17, .app t_Sapi_Slot 1 24 (.t 12) (.t 16), none⟩,
⟨some 3, .mov (.t 17), none⟩]
[0, 3, 6, 7, 8])))
(.reg [⟨some 18, .bin .add (.t 8) (.k (.int .i64 1)), none⟩,
⟨some 8, .mov (.t 18), none⟩]
[0, 3, 6, 7, 8])))))))
(.seq (.reg [⟨some 19, .mov (.t 3), none⟩,
⟨some 20, .call n_binding_order [.t 19], none⟩,
⟨some 2, .mov (.t 20), none⟩]
[2])
.ret))))⟩
theorem k_binding_Under1 : chkF Go.Proofs.Try.prog Go.Proofs.Try.f25 c_binding_Under1 = true := by kernel_rfl
theorem pc_binding_Under1 {G : Nat → Option AV} {args : List AV} {r : AV} (h : Runs Go.Proofs.Try.prog G c_binding_Under1 args r) (hk : args.length = c_binding_Under1.k := by rfl) : PureC Go.Proofs.Try.prog G n_binding_Under1 args r := PureC.of_runs (fn := Go.Proofs.Try.f25) (A := c_binding_Under1) Go.Proofs.Try.func25 k_binding_Under1 hk h
def c_binding_Under1_1 : AFun := ⟨9, 2, [.t 3],
  (.seq (.reg [⟨some 2, .box t_api_Slot 5 (.t 0), none⟩,
⟨some 3, .mov (.k (.bool false)), none⟩]
[1, 2])
(.seq (.reg [⟨some 4, .faddr (.t 2) 0, none⟩,
⟨some 5, .load (.t 4), none⟩,
⟨some 6, .faddr (.t 1) 0, none⟩,
⟨some 7, .load (.t 6), none⟩,
⟨some 8, .bin .neq (.t 5) (.t 7), none⟩,
⟨some 3, .mov (.t 8), none⟩]
[3])
.ret))⟩
theorem k_binding_Under1_1 : chkF Go.Proofs.Try.prog Go.Proofs.Try.f43 c_binding_Under1_1 = true := by kernel_rfl
theorem hc_binding_Under1_1 {G : Nat → Option AV} {args : List AV} {r : AV} {H H1 : List (Nat × Box)} (h : RunsH Go.Proofs.Try.prog G c_binding_Under1_1 args H r H1) (hk : args.length = c_binding_Under1_1.k := by rfl) (hh : highB c_binding_Under1_1.N H = true := by rfl) : HeapC Go.Proofs.Try.prog G n_binding_Under1_1 args H r H1 := HeapC.of_runs (fn := Go.Proofs.Try.f43) (A := c_binding_Under1_1) Go.Proofs.Try.func43 k_binding_Under1_1 hk hh h
def c_binding_Union : AFun := ⟨17, 2, [.t 4, .t 5],
  (.seq (.reg [⟨some 4, .nilrow t_api_Slot 5, none⟩,
⟨some 5, .mov (.k (.bool false)), none⟩]
[0, 1])
(.seq (.seq (.reg [⟨some 6, .mov (.t 0), none⟩,
⟨some 7, .mov (.t 1), none⟩,
⟨some 8, .call n_binding_Fits [.t 6, .t 7], none⟩,
⟨some 9, .un .not (.t 8), none⟩]
[0, 1, 9])
(.cond (.t 9)
(.seq (.reg [⟨some 4, .nilrow t_api_Slot 5, none⟩,
⟨some 5, .mov (.k (.bool false)), none⟩]
[4, 5])
.ret)
.skip))
(.seq (.reg [⟨some 10, .mov (.t 0), none⟩,
⟨some 11, .mov (.t 1), none⟩,
⟨some 12, .mkrow t_Sapi_Slot 1 2 (.nils) [(0, .t 10), (1, .t 11)], none⟩,
⟨some 13, .call n_slices_Concat_api_Slot_api_Slot [.t 12], none⟩,
⟨some 14, .call n_binding_Of [.t 13], none⟩,
⟨some 15, .ext (.t 14) 0, none⟩,
⟨some 16, .ext (.t 14) 1, none⟩,
⟨some 4, .mov (.t 15), none⟩,
⟨some 5, .mov (.t 16), none⟩]
[4, 5])
.ret)))⟩
theorem k_binding_Union : chkF Go.Proofs.Try.prog Go.Proofs.Try.f9 c_binding_Union = true := by kernel_rfl
theorem pc_binding_Union {G : Nat → Option AV} {args : List AV} {r : AV} (h : Runs Go.Proofs.Try.prog G c_binding_Union args r) (hk : args.length = c_binding_Union.k := by rfl) : PureC Go.Proofs.Try.prog G n_binding_Union args r := PureC.of_runs (fn := Go.Proofs.Try.f9) (A := c_binding_Union) Go.Proofs.Try.func9 k_binding_Union hk h
def c_binding_find : AFun := ⟨11, 2, [.t 4, .t 5],
  (.seq (.reg [⟨some 4, .mov (.k (.int .i64 0)), none⟩,
⟨some 5, .mov (.k (.bool false)), none⟩]
[0, 1])
(.seq (.reg [⟨some 6, .mov (.t 0), none⟩,
⟨some 7, .mov (.t 1), none⟩,
⟨some 8, .call n_slices_BinarySearchFunc_api_Slot_api_Slot_int [.t 6, .t 7, .f n_binding_find_1], none⟩,
⟨some 9, .ext (.t 8) 0, none⟩,
⟨some 10, .ext (.t 8) 1, none⟩,
⟨some 4, .mov (.t 9), none⟩,
⟨some 5, .mov (.t 10), none⟩]
[4, 5])
.ret))⟩
theorem k_binding_find : chkF Go.Proofs.Try.prog Go.Proofs.Try.f46 c_binding_find = true := by kernel_rfl
theorem pc_binding_find {G : Nat → Option AV} {args : List AV} {r : AV} (h : Runs Go.Proofs.Try.prog G c_binding_find args r) (hk : args.length = c_binding_find.k := by rfl) : PureC Go.Proofs.Try.prog G n_binding_find args r := PureC.of_runs (fn := Go.Proofs.Try.f46) (A := c_binding_find) Go.Proofs.Try.func46 k_binding_find hk h
def c_binding_find_1 : AFun := ⟨9, 2, [.t 4],
  (.seq (.reg [⟨some 2, .box t_api_Slot 5 (.t 0), none⟩,
⟨some 4, .mov (.k (.int .i64 0)), none⟩]
[1, 2])
(.seq (.reg [⟨some 5, .faddr (.t 2) 0, none⟩,
⟨some 6, .load (.t 5), none⟩,
⟨some 7, .mov (.t 1), none⟩,
⟨some 8, .bin .sub (.t 6) (.t 7), none⟩,
⟨some 4, .mov (.t 8), none⟩]
[4])
.ret))⟩
theorem k_binding_find_1 : chkF Go.Proofs.Try.prog Go.Proofs.Try.f62 c_binding_find_1 = true := by kernel_rfl
theorem pc_binding_find_1 {G : Nat → Option AV} {args : List AV} {r : AV} (h : Runs Go.Proofs.Try.prog G c_binding_find_1 args r) (hk : args.length = c_binding_find_1.k := by rfl) : PureC Go.Proofs.Try.prog G n_binding_find_1 args r := PureC.of_runs (fn := Go.Proofs.Try.f62) (A := c_binding_find_1) Go.Proofs.Try.func62 k_binding_find_1 hk h
def c_binding_order_1 : AFun := ⟨13, 2, [.t 4],
  (.seq (.reg [⟨some 4, .mov (.k (.int .i64 0)), none⟩]
[0, 1])
(.seq (.block 0
(.seq (.reg [⟨some 6, .mov (.t 0), none⟩,
⟨some 7, .mov (.t 1), none⟩,
⟨some 8, .call n_binding_Less [.t 6, .t 7], none⟩,
⟨some 5, .mov (.t 8), none⟩]
[0, 1, 5])
(.cond (.t 5)
(.seq (.reg [⟨some 4, .mov (.k (.int .i64 (-1))), none⟩]
[4])
.ret)
(.seq (.reg [⟨some 10, .mov (.t 1), none⟩,
⟨some 11, .mov (.t 0), none⟩,
⟨some 12, .call n_binding_Less [.t 10, .t 11], none⟩,
⟨some 9, .mov (.t 12), none⟩]
[9])
(.cond (.t 9)
(.seq (.reg [⟨some 4, .mov (.k (.int .i64 1)), none⟩]
[4])
.ret)
.skip)))))
(.seq (.reg [⟨some 4, .mov (.k (.int .i64 0)), none⟩]
[4])
.ret)))⟩
theorem k_binding_order_1 : chkF Go.Proofs.Try.prog Go.Proofs.Try.f55 c_binding_order_1 = true := by kernel_rfl
theorem pc_binding_order_1 {G : Nat → Option AV} {args : List AV} {r : AV} (h : Runs Go.Proofs.Try.prog G c_binding_order_1 args r) (hk : args.length = c_binding_order_1.k := by rfl) : PureC Go.Proofs.Try.prog G n_binding_order_1 args r := PureC.of_runs (fn := Go.Proofs.Try.f55) (A := c_binding_order_1) Go.Proofs.Try.func55 k_binding_order_1 hk h
def c_binding_pick : AFun := ⟨23, 2, [.t 4],
  (.seq (.reg [⟨some 4, .nilrow t_api_Slot 5, none⟩]
[0, 1])
(.seq (.reg [⟨some 5, .nilrow t_api_Slot 5, none⟩]
[0, 1, 5])
(.seq (.seq (.reg [⟨some 8, .mov (.t 0), none⟩,
⟨some 9, .len false (.t 8), none⟩,
⟨some 10, .mov (.k (.int .i64 0)), none⟩]
[1, 5, 8, 9, 10])
(.block 0
(.loop [1, 5, 8, 9, 10] [4, 5, 9, 20]
  (.seq (.reg [⟨some 11, .bin .lss (.t 10) (.t 9), none⟩]
[1, 5, 8, 9, 10, 11])
(.seq (.cond (.t 11)
.skip
(.exit 0))
(.seq (.block 1
(.seq (.reg [⟨some 12, .iaddr 5 (.t 8) (.t 10), none⟩,
⟨some 13, .loadN (.t 12) 5, none⟩,
⟨some 7, .alloc t_api_Slot 5 (.agg [.int .i64 0, .int .i64 0, .int .i64 0, .str [], .bool false]), none⟩,
⟨none, .store (.t 7) (.t 13) 5, none⟩]
[1, 5, 7, 8, 9, 10])
(.seq (.reg [⟨some 14, .mov (.t 1), none⟩,
⟨some 15, .loadN (.t 7) 5, none⟩,
⟨some 16, .callv (.t 14) [.t 15], none⟩]
[1, 5, 7, 8, 9, 10, 16])
(.cond (.t 16)
(.reg [⟨some 17, .mov (.t 5), none⟩,
⟨some 18, .loadN (.t 7) 5, none⟩,
⟨some 19, .mkrow t_api_Slot 5 1 (.agg [.int .i64 0, .int .i64 0, .int .i64 0, .str [], .bool false]) [(0, .t 18)], none⟩,
⟨some 20, .app t_api_Slot 5 48 (.t 17) (.t 19), none⟩,
⟨some 5, .mov (.t 20), none⟩]
[1, 5, 8, 9, 10])
.skip))))
(.reg [⟨some 21, .bin .add (.t 10) (.k (.int .i64 1)), none⟩,
⟨some 10, .mov (.t 21), none⟩]
[1, 5, 8, 9, 10])))))))
(.seq (.reg [⟨some 22, .mov (.t 5), none⟩,
⟨some 4, .mov (.t 22), none⟩]
[4])
.ret))))⟩
theorem k_binding_pick : chkF Go.Proofs.Try.prog Go.Proofs.Try.f40 c_binding_pick = true := by kernel_rfl
theorem hc_binding_pick {G : Nat → Option AV} {args : List AV} {r : AV} {H H1 : List (Nat × Box)} (h : RunsH Go.Proofs.Try.prog G c_binding_pick args H r H1) (hk : args.length = c_binding_pick.k := by rfl) (hh : highB c_binding_pick.N H = true := by rfl) : HeapC Go.Proofs.Try.prog G n_binding_pick args H r H1 := HeapC.of_runs (fn := Go.Proofs.Try.f40) (A := c_binding_pick) Go.Proofs.Try.func40 k_binding_pick hk hh h
def c_key_Of : AFun := ⟨21, 1, [.t 2],
  (.seq (.reg [⟨some 2, .nilrow t_uint8 1, none⟩]
[0])
(.seq (.reg [⟨some 3, .nilrow t_uint8 1, none⟩]
[0, 3])
(.seq (.seq (.reg [⟨some 6, .mov (.t 0), none⟩,
⟨some 7, .len false (.t 6), none⟩,
⟨some 8, .mov (.k (.int .i64 0)), none⟩]
[3, 6, 7, 8])
(.block 0
(.loop [3, 6, 7, 8] [2, 3, 7, 18]
  (.seq (.reg [⟨some 9, .bin .lss (.t 8) (.t 7), none⟩]
[3, 6, 7, 8, 9])
(.seq (.cond (.t 9)
.skip
(.exit 0))
(.seq (.block 1
(.seq (.reg [⟨some 10, .iaddr 4 (.t 6) (.t 8), none⟩,
⟨some 11, .loadN (.t 10) 4, none⟩,
⟨some 5, .alloc t_api_Value 4 (.agg [.int .i64 0, .int .i64 0, .str [], .bool false]), none⟩,
⟨none, .store (.t 5) (.t 11) 4, none⟩]
[3, 5, 6, 7, 8])
(.seq (.seq (.reg [⟨some 12, .loadN (.t 5) 4, none⟩,
⟨some 13, .call n_value_Right [.t 12], none⟩,
⟨some 14, .un .not (.t 13), none⟩]
[3, 5, 6, 7, 8, 14])
(.cond (.t 14)
(.seq (.reg [⟨some 2, .nilrow t_uint8 1, none⟩]
[2])
.ret)
.skip))
(.reg [⟨some 15, .mov (.t 3), none⟩,
⟨some 16, .loadN (.t 5) 4, none⟩,
⟨some 17, .call n_key_one [.t 16], none⟩,
⟨some 18, .app t_uint8 1 1 (.t 15) (.t 17), none⟩,
⟨some 3, .mov (.t 18), none⟩]
[3, 6, 7, 8]))))
(.reg [⟨some 19, .bin .add (.t 8) (.k (.int .i64 1)), none⟩,
⟨some 8, .mov (.t 19), none⟩]
[3, 6, 7, 8])))))))
(.seq (.reg [⟨some 20, .mov (.t 3), none⟩,
⟨some 2, .mov (.t 20), none⟩]
[2])
.ret))))⟩
theorem k_key_Of : chkF Go.Proofs.Try.prog Go.Proofs.Try.f35 c_key_Of = true := by kernel_rfl
theorem pc_key_Of {G : Nat → Option AV} {args : List AV} {r : AV} (h : Runs Go.Proofs.Try.prog G c_key_Of args r) (hk : args.length = c_key_Of.k := by rfl) : PureC Go.Proofs.Try.prog G n_key_Of args r := PureC.of_runs (fn := Go.Proofs.Try.f35) (A := c_key_Of) Go.Proofs.Try.func35 k_key_Of hk h
def c_key_one : AFun := ⟨32, 1, [.t 2],
  (.seq (.reg [⟨some 1, .box t_api_Value 4 (.t 0), none⟩,
⟨some 2, .nilrow t_uint8 1, none⟩]
[1])
(.seq (.reg [⟨some 4, .faddr (.t 1) 0, none⟩,
⟨some 5, .load (.t 4), none⟩,
⟨some 6, .conv .u8 (.t 5), none⟩,
⟨some 7, .mkrow t_uint8 1 1 (.int .u8 0) [(0, .t 6)], none⟩,
⟨some 3, .mov (.t 7), none⟩]
[1, 3])
(.seq (.seq (.reg [⟨some 8, .faddr (.t 1) 0, none⟩,
⟨some 9, .load (.t 8), none⟩]
[1, 3, 9])
(.block 0
(.seq (.reg [⟨some 11, .bin .eql (.t 9) (.k (.int .i64 1)), none⟩,
⟨some 10, .mov (.t 11), none⟩]
[1, 3, 9, 10])
(.cond (.t 10)
(.seq (.reg [⟨some 12, .mov (.t 3), none⟩,
⟨some 13, .faddr (.t 1) 1, none⟩,
⟨some 14, .load (.t 13), none⟩,
⟨some 15, .call n_key_number [.t 14], none⟩,
⟨some 16, .app t_uint8 1 1 (.t 12) (.t 15), none⟩,
⟨some 2, .mov (.t 16), none⟩]
[2])
.ret)
(.seq (.reg [⟨some 18, .bin .eql (.t 9) (.k (.int .i64 2)), none⟩,
⟨some 17, .mov (.t 18), none⟩]
[1, 3, 17])
(.cond (.t 17)
(.seq (.reg [⟨some 19, .mov (.t 3), none⟩,
⟨some 20, .faddr (.t 1) 2, none⟩,
⟨some 21, .load (.t 20), none⟩,
⟨some 22, .call n_key_text [.t 21], none⟩,
⟨some 23, .app t_uint8 1 1 (.t 19) (.t 22), none⟩,
⟨some 2, .mov (.t 23), none⟩]
[2])
.ret)
.skip))))))
(.seq (.seq (.reg [⟨some 24, .faddr (.t 1) 3, none⟩,
⟨some 25, .load (.t 24), none⟩]
[3, 25])
(.cond (.t 25)
(.seq (.reg [⟨some 26, .mov (.t 3), none⟩,
⟨some 27, .mkrow t_uint8 1 1 (.int .u8 0) [(0, .k (.int .u8 1))], none⟩,
⟨some 28, .app t_uint8 1 1 (.t 26) (.t 27), none⟩,
⟨some 2, .mov (.t 28), none⟩]
[2])
.ret)
.skip))
(.seq (.reg [⟨some 29, .mov (.t 3), none⟩,
⟨some 30, .mkrow t_uint8 1 1 (.int .u8 0) [(0, .k (.int .u8 0))], none⟩,
⟨some 31, .app t_uint8 1 1 (.t 29) (.t 30), none⟩,
⟨some 2, .mov (.t 31), none⟩]
[2])
.ret)))))⟩
theorem k_key_one : chkF Go.Proofs.Try.prog Go.Proofs.Try.f52 c_key_one = true := by kernel_rfl
theorem pc_key_one {G : Nat → Option AV} {args : List AV} {r : AV} (h : Runs Go.Proofs.Try.prog G c_key_one args r) (hk : args.length = c_key_one.k := by rfl) : PureC Go.Proofs.Try.prog G n_key_one args r := PureC.of_runs (fn := Go.Proofs.Try.f52) (A := c_key_one) Go.Proofs.Try.func52 k_key_one hk h
def c_key_text : AFun := ⟨27, 1, [.t 2],
  (.seq (.reg [⟨some 2, .nilrow t_uint8 1, none⟩]
[0])
(.seq (.reg [⟨some 3, .nilrow t_uint8 1, none⟩]
[0, 3])
(.seq (.seq (.reg [⟨some 5, .mov (.t 0), none⟩,
⟨some 6, .len true (.t 5), none⟩,
⟨some 7, .mov (.k (.int .i64 0)), none⟩]
[0, 3, 6, 7])
(.block 0
(.loop [0, 3, 6, 7] [2, 3, 6, 15, 22]
  (.seq (.reg [⟨some 8, .bin .lss (.t 7) (.t 6), none⟩]
[0, 3, 6, 7, 8])
(.seq (.cond (.t 8)
.skip
(.exit 0))
(.seq (.block 1
(.seq (.reg [⟨some 9, .mov (.t 7), none⟩,
⟨some 4, .mov (.t 9), none⟩]
[0, 3, 4, 6, 7])
(.seq (.reg [⟨some 10, .mov (.t 3), none⟩,
⟨some 11, .mov (.t 0), none⟩,
⟨some 12, .mov (.t 4), none⟩,
⟨some 13, .idx (.t 11) (.t 12), none⟩,
⟨some 14, .mkrow t_uint8 1 1 (.int .u8 0) [(0, .t 13)], none⟩,
⟨some 15, .app t_uint8 1 1 (.t 10) (.t 14), none⟩,
⟨some 3, .mov (.t 15), none⟩]
[0, 3, 4, 6, 7])
(.seq (.reg [⟨some 16, .mov (.t 0), none⟩,
⟨some 17, .mov (.t 4), none⟩,
⟨some 18, .idx (.t 16) (.t 17), none⟩,
⟨some 19, .bin .eql (.t 18) (.k (.int .u8 0)), none⟩]
[0, 3, 6, 7, 19])
(.cond (.t 19)
(.reg [⟨some 20, .mov (.t 3), none⟩,
⟨some 21, .mkrow t_uint8 1 1 (.int .u8 0) [(0, .k (.int .u8 255))], none⟩,
⟨some 22, .app t_uint8 1 1 (.t 20) (.t 21), none⟩,
⟨some 3, .mov (.t 22), none⟩]
[0, 3, 6, 7])
.skip)))))
(.reg [⟨some 23, .bin .add (.t 7) (.k (.int .i64 1)), none⟩,
⟨some 7, .mov (.t 23), none⟩]
[0, 3, 6, 7])))))))
(.seq (.reg [⟨some 24, .mov (.t 3), none⟩,
⟨some 25, .mkrow t_uint8 1 2 (.int .u8 0) [(0, .k (.int .u8 0)), (1, .k (.int .u8 1))], none⟩,
⟨some 26, .app t_uint8 1 1 (.t 24) (.t 25), none⟩,
⟨some 2, .mov (.t 26), none⟩]
[2])
.ret))))⟩
theorem k_key_text : chkF Go.Proofs.Try.prog Go.Proofs.Try.f66 c_key_text = true := by kernel_rfl
theorem pc_key_text {G : Nat → Option AV} {args : List AV} {r : AV} (h : Runs Go.Proofs.Try.prog G c_key_text args r) (hk : args.length = c_key_text.k := by rfl) : PureC Go.Proofs.Try.prog G n_key_text args r := PureC.of_runs (fn := Go.Proofs.Try.f66) (A := c_key_text) Go.Proofs.Try.func66 k_key_text hk h
def c_proctorlaw05_BindingParts : AFun := ⟨101, 2, [.t 4],
  (.seq (.reg [⟨some 4, .mov (.k (.bool false)), none⟩]
[0, 1])
(.seq (.seq (.reg [⟨some 11, .mov (.t 0), none⟩,
⟨some 12, .call n_proctorlaw05_small [.t 11], none⟩,
⟨some 13, .un .not (.t 12), none⟩,
⟨some 14, .mov (.t 13), none⟩,
⟨some 15, .mov (.t 1), (some (14, false))⟩,
⟨some 16, .len false (.t 15), (some (14, false))⟩,
⟨some 17, .bin .gtr (.t 16) (.k (.int .i64 20)), (some (14, false))⟩,
⟨some 18, .pick (.t 14) (.k (.bool true)) (.t 17), none⟩]
[0, 1, 18])
(.cond (.t 18)
(.seq (.reg [⟨some 19, .call n_proctorlaw05_awake [], none⟩,
⟨some 4, .mov (.t 19), none⟩]
[4])
.ret)
.skip))
(.seq (.reg [⟨some 5, .nilrow t_api_Slot 5, none⟩]
[0, 1, 5])
(.seq (.reg [⟨some 6, .nilrow t_Sapi_Slot 1, none⟩]
[0, 1, 5, 6])
(.seq (.reg [⟨some 7, .nilrow t_uint8 1, none⟩]
[0, 1, 5, 6, 7])
(.seq (.seq (.reg [⟨some 8, .mov (.k (.int .i64 0)), none⟩]
[0, 1, 5, 6, 7, 8])
(.block 0
(.loop [0, 1, 5, 6, 7, 8] [12, 16, 19, 5, 6, 7, 48, 53, 58, 71, 79]
  (.seq (.seq (.reg [⟨some 20, .mov (.t 8), none⟩,
⟨some 21, .mov (.t 0), none⟩,
⟨some 22, .len false (.t 21), none⟩,
⟨some 23, .bin .lss (.t 20) (.t 22), none⟩]
[0, 1, 5, 6, 7, 8, 23])
(.cond (.t 23)
.skip
(.exit 0)))
(.seq (.block 1
(.seq (.seq (.reg [⟨some 9, .mov (.k (.int .i64 0)), none⟩]
[0, 1, 5, 6, 7, 8, 9])
(.block 2
(.loop [0, 1, 5, 6, 7, 8, 9] [12, 16, 19, 5, 6, 7, 22, 48]
  (.seq (.seq (.reg [⟨some 26, .mov (.t 9), none⟩,
⟨some 27, .mov (.t 1), none⟩,
⟨some 28, .len false (.t 27), none⟩,
⟨some 29, .bin .lss (.t 26) (.t 28), none⟩]
[0, 1, 5, 6, 7, 8, 9, 29])
(.cond (.t 29)
.skip
(.exit 2)))
(.seq (.block 3
(.seq (.dreg [⟨some 32, .mov (.t 1), none⟩,
⟨some 33, .mov (.t 9), none⟩,
⟨some 34, .iaddr 1 (.t 32) (.t 33), none⟩,
⟨some 35, .load (.t 34), none⟩,
⟨some 36, .mov (.t 0), none⟩,
⟨some 37, .mov (.t 8), none⟩,
⟨some 38, .iaddr 5 (.t 36) (.t 37), none⟩,
⟨some 39, .faddr (.t 38) 0, none⟩,
⟨some 40, .load (.t 39), none⟩,
⟨some 41, .bin .eql (.t 35) (.t 40), none⟩]
[0, 1, 5, 6, 7, 8, 9, 41])
(.cond (.t 41)
(.seq (.reg [⟨some 42, .mov (.t 5), none⟩,
⟨some 43, .mov (.t 0), none⟩,
⟨some 44, .mov (.t 8), none⟩,
⟨some 45, .iaddr 5 (.t 43) (.t 44), none⟩,
⟨some 46, .loadN (.t 45) 5, none⟩,
⟨some 47, .mkrow t_api_Slot 5 1 (.agg [.int .i64 0, .int .i64 0, .int .i64 0, .str [], .bool false]) [(0, .t 46)], none⟩,
⟨some 48, .app t_api_Slot 5 48 (.t 42) (.t 47), none⟩,
⟨some 5, .mov (.t 48), none⟩]
[0, 1, 5, 6, 7, 8])
(.exit 2))
.skip)))
(.reg [⟨some 30, .mov (.t 9), none⟩,
⟨some 31, .bin .add (.t 30) (.k (.int .i64 1)), none⟩,
⟨some 9, .mov (.t 31), none⟩]
[0, 1, 5, 6, 7, 8, 9]))))))
(.seq (.dregC [⟨some 49, .mkrow t_api_Slot 5 0 (.agg [.int .i64 0, .int .i64 0, .int .i64 0, .str [], .bool false]) [], none⟩,
⟨some 50, .mov (.t 0), none⟩,
⟨some 51, .mov (.t 8), none⟩,
⟨some 52, .slc 5 (.t 50) none (some (.t 51)), none⟩,
⟨some 53, .app t_api_Slot 5 48 (.t 49) (.t 52), none⟩,
⟨some 54, .mov (.t 0), none⟩,
⟨some 55, .mov (.t 8), none⟩,
⟨some 56, .bin .add (.t 55) (.k (.int .i64 1)), none⟩,
⟨some 57, .slc 5 (.t 54) (some (.t 56)) none, none⟩,
⟨some 58, .app t_api_Slot 5 48 (.t 53) (.t 57), none⟩,
⟨some 10, .mov (.t 58), none⟩]
[0, 4, 9] [1, 0, 0, 0, 2, 0, 0, 0, 0, 3, 3] [3, 1, 1, 1, 3, 2, 2, 2, 2, 3, 3] [([1, 2, 3, 5, 6, 7, 8], []), ([], [1, 2, 3, 5, 6, 7, 8]), ([], [5, 6, 7, 8]), ([10], [])] [0, 1, 5, 6, 7, 8, 10, 49, 50, 51, 52, 53, 54, 55, 56, 57, 58]
[0, 1, 5, 6, 7, 8, 10])
(.seq (.reg [⟨some 59, .mov (.t 6), none⟩,
⟨some 60, .mov (.t 10), none⟩,
⟨some 61, .call n_proctorref05_Put [.t 59, .t 60], none⟩,
⟨some 6, .mov (.t 61), none⟩]
[0, 1, 5, 6, 7, 8])
(.seq (.reg [⟨some 62, .mov (.t 7), none⟩,
⟨some 63, .mov (.t 0), none⟩,
⟨some 64, .mov (.t 8), none⟩,
⟨some 65, .iaddr 5 (.t 63) (.t 64), none⟩,
⟨some 66, .faddr (.t 65) 0, none⟩,
⟨some 67, .load (.t 66), none⟩,
⟨some 68, .bin .add (.t 67) (.k (.int .i64 16)), none⟩,
⟨some 69, .conv .u8 (.t 68), none⟩,
⟨some 70, .mkrow t_uint8 1 1 (.int .u8 0) [(0, .t 69)], none⟩,
⟨some 71, .app t_uint8 1 1 (.t 62) (.t 70), none⟩,
⟨some 7, .mov (.t 71), none⟩]
[0, 1, 5, 6, 7, 8])
(.reg [⟨some 72, .mov (.t 7), none⟩,
⟨some 73, .mov (.t 0), none⟩,
⟨some 74, .mov (.t 8), none⟩,
⟨some 75, .iaddr 5 (.t 73) (.t 74), none⟩,
⟨some 76, .faddr (.t 75) 1, none⟩,
⟨some 77, .loadN (.t 76) 4, none⟩,
⟨some 78, .call n_proctorref04_Key [.t 77], none⟩,
⟨some 79, .app t_uint8 1 1 (.t 72) (.t 78), none⟩,
⟨some 7, .mov (.t 79), none⟩]
[0, 1, 5, 6, 7, 8]))))))
(.reg [⟨some 24, .mov (.t 8), none⟩,
⟨some 25, .bin .add (.t 24) (.k (.int .i64 1)), none⟩,
⟨some 8, .mov (.t 25), none⟩]
[0, 1, 5, 6, 7, 8]))))))
(.seq (.dreg [⟨some 80, .mov (.t 0), none⟩,
⟨some 81, .mov (.t 1), none⟩,
⟨some 82, .call n_binding_Keep [.t 80, .t 81], none⟩,
⟨some 83, .mov (.t 5), none⟩,
⟨some 84, .call n_proctorref05_Same [.t 82, .t 83], none⟩,
⟨some 85, .mov (.t 84), none⟩,
⟨some 86, .mov (.t 0), (some (85, true))⟩,
⟨some 87, .call n_binding_Key [.t 86], (some (85, true))⟩,
⟨some 88, .mov (.t 7), (some (85, true))⟩,
⟨some 89, .b2s (.t 88), (some (85, true))⟩,
⟨some 90, .bin .eql (.t 87) (.t 89), (some (85, true))⟩,
⟨some 91, .pick (.t 85) (.t 90) (.k (.bool false)), none⟩,
⟨some 92, .mov (.t 91), none⟩,
⟨some 93, .mov (.t 0), (some (92, true))⟩,
⟨some 94, .call n_binding_Under1 [.t 93], (some (92, true))⟩,
⟨some 95, .mov (.t 6), (some (92, true))⟩,
⟨some 96, .call n_proctorlaw05_same [.t 94, .t 95], (some (92, true))⟩,
⟨some 97, .pick (.t 92) (.t 96) (.k (.bool false)), none⟩,
⟨some 98, .mov (.t 97), none⟩,
⟨some 99, .call n_proctorlaw05_awake [], (some (98, true))⟩,
⟨some 100, .pick (.t 98) (.t 99) (.k (.bool false)), none⟩,
⟨some 4, .mov (.t 100), none⟩]
[4])
.ret)))))))⟩
theorem k_proctorlaw05_BindingParts : chkF Go.Proofs.Try.prog Go.Proofs.Try.f5 c_proctorlaw05_BindingParts = true := by kernel_rfl
theorem pc_proctorlaw05_BindingParts {G : Nat → Option AV} {args : List AV} {r : AV} (h : Runs Go.Proofs.Try.prog G c_proctorlaw05_BindingParts args r) (hk : args.length = c_proctorlaw05_BindingParts.k := by rfl) : PureC Go.Proofs.Try.prog G n_proctorlaw05_BindingParts args r := PureC.of_runs (fn := Go.Proofs.Try.f5) (A := c_proctorlaw05_BindingParts) Go.Proofs.Try.func5 k_proctorlaw05_BindingParts hk h
def c_proctorlaw05_awake : AFun := ⟨43, 0, [.t 0],
  (.seq (.reg [⟨some 0, .mov (.k (.bool false)), none⟩]
[])
(.seq (.reg [⟨some 5, .build [.int .i64 0, .int .i64 0, .str [], .bool false] [(0, 1, .k (.int .i64 1)), (1, 1, .k (.int .i64 5))], none⟩,
⟨some 6, .build [.int .i64 0, .int .i64 0, .int .i64 0, .str [], .bool false] [(0, 1, .k (.int .i64 0)), (1, 4, .t 5)], none⟩,
⟨some 7, .mkrow t_api_Slot 5 1 (.agg [.int .i64 0, .int .i64 0, .int .i64 0, .str [], .bool false]) [(0, .t 6)], none⟩,
⟨some 1, .mov (.t 7), none⟩]
[1])
(.seq (.reg [⟨some 8, .build [.int .i64 0, .int .i64 0, .str [], .bool false] [(0, 1, .k (.int .i64 1)), (1, 1, .k (.int .i64 5))], none⟩,
⟨some 9, .build [.int .i64 0, .int .i64 0, .int .i64 0, .str [], .bool false] [(0, 1, .k (.int .i64 0)), (1, 4, .t 8)], none⟩,
⟨some 10, .build [.int .i64 0, .int .i64 0, .str [], .bool false] [(0, 1, .k (.int .i64 1)), (1, 1, .k (.int .i64 6))], none⟩,
⟨some 11, .build [.int .i64 0, .int .i64 0, .int .i64 0, .str [], .bool false] [(0, 1, .k (.int .i64 1)), (1, 4, .t 10)], none⟩,
⟨some 12, .mkrow t_api_Slot 5 2 (.agg [.int .i64 0, .int .i64 0, .int .i64 0, .str [], .bool false]) [(0, .t 9), (1, .t 11)], none⟩,
⟨some 2, .mov (.t 12), none⟩]
[1, 2])
(.seq (.reg [⟨some 14, .mov (.t 1), none⟩,
⟨some 15, .mov (.t 2), none⟩,
⟨some 16, .call n_binding_Union [.t 14, .t 15], none⟩,
⟨some 13, .mov (.t 16), none⟩,
⟨some 17, .ext (.t 13) 0, none⟩,
⟨some 18, .ext (.t 13) 1, none⟩,
⟨some 3, .mov (.t 17), none⟩,
⟨some 4, .mov (.t 18), none⟩]
[1, 2, 3, 4])
(.seq (.dreg [⟨some 19, .mov (.t 4), none⟩,
⟨some 20, .mov (.t 19), none⟩,
⟨some 21, .mov (.t 3), (some (20, true))⟩,
⟨some 22, .len false (.t 21), (some (20, true))⟩,
⟨some 23, .bin .eql (.t 22) (.k (.int .i64 2)), (some (20, true))⟩,
⟨some 24, .pick (.t 20) (.t 23) (.k (.bool false)), none⟩,
⟨some 25, .mov (.t 24), none⟩,
⟨some 26, .mov (.t 3), (some (25, true))⟩,
⟨some 27, .iaddr 5 (.t 26) (.k (.int .i64 1)), (some (25, true))⟩,
⟨some 28, .loadN (.t 27) 5, (some (25, true))⟩,
⟨some 29, .mov (.t 2), (some (25, true))⟩,
⟨some 30, .iaddr 5 (.t 29) (.k (.int .i64 1)), (some (25, true))⟩,
⟨some 31, .loadN (.t 30) 5, (some (25, true))⟩,
⟨some 32, .eqA false [0, 0, 0, 1, 2] (.t 28) (.t 31), (some (25, true))⟩,
⟨some 33, .pick (.t 25) (.t 32) (.k (.bool false)), none⟩,
⟨some 34, .mov (.t 33), none⟩,
⟨some 35, .mov (.t 1), (some (34, true))⟩,
⟨some 36, .mov (.t 2), (some (34, true))⟩,
⟨some 37, .call n_binding_Under [.t 35, .t 36], (some (34, true))⟩,
⟨some 38, .pick (.t 34) (.t 37) (.k (.bool false)), none⟩,
⟨some 39, .mov (.t 38), none⟩,
⟨some 40, .mov (.t 2), (some (39, true))⟩,
⟨some 41, .call n_binding_Right [.t 40], (some (39, true))⟩,
⟨some 42, .pick (.t 39) (.t 41) (.k (.bool false)), none⟩,
⟨some 0, .mov (.t 42), none⟩]
[0])
.ret)))))⟩
theorem k_proctorlaw05_awake : chkF Go.Proofs.Try.prog Go.Proofs.Try.f7 c_proctorlaw05_awake = true := by kernel_rfl
theorem pc_proctorlaw05_awake {G : Nat → Option AV} {args : List AV} {r : AV} (h : Runs Go.Proofs.Try.prog G c_proctorlaw05_awake args r) (hk : args.length = c_proctorlaw05_awake.k := by rfl) : PureC Go.Proofs.Try.prog G n_proctorlaw05_awake args r := PureC.of_runs (fn := Go.Proofs.Try.f7) (A := c_proctorlaw05_awake) Go.Proofs.Try.func7 k_proctorlaw05_awake hk h
def c_proctorlaw05_same : AFun := ⟨27, 2, [.t 4],
  (.seq (.reg [⟨some 4, .mov (.k (.bool false)), none⟩]
[0, 1])
(.seq (.seq (.reg [⟨some 6, .mov (.t 0), none⟩,
⟨some 7, .len false (.t 6), none⟩,
⟨some 8, .mov (.t 1), none⟩,
⟨some 9, .len false (.t 8), none⟩,
⟨some 10, .bin .neq (.t 7) (.t 9), none⟩]
[0, 1, 10])
(.cond (.t 10)
(.seq (.reg [⟨some 4, .mov (.k (.bool false)), none⟩]
[4])
.ret)
.skip))
(.seq (.seq (.reg [⟨some 5, .mov (.k (.int .i64 0)), none⟩]
[0, 1, 5])
(.block 0
(.loop [0, 1, 5] [7, 9]
  (.seq (.seq (.reg [⟨some 11, .mov (.t 5), none⟩,
⟨some 12, .mov (.t 0), none⟩,
⟨some 13, .len false (.t 12), none⟩,
⟨some 14, .bin .lss (.t 11) (.t 13), none⟩]
[0, 1, 5, 14])
(.cond (.t 14)
.skip
(.exit 0)))
(.seq (.block 1
(.seq (.dreg [⟨some 17, .mov (.t 0), none⟩,
⟨some 18, .mov (.t 5), none⟩,
⟨some 19, .iaddr 1 (.t 17) (.t 18), none⟩,
⟨some 20, .load (.t 19), none⟩,
⟨some 21, .mov (.t 1), none⟩,
⟨some 22, .mov (.t 5), none⟩,
⟨some 23, .iaddr 1 (.t 21) (.t 22), none⟩,
⟨some 24, .load (.t 23), none⟩,
⟨some 25, .call n_proctorref05_Same [.t 20, .t 24], none⟩,
⟨some 26, .un .not (.t 25), none⟩]
[0, 1, 5, 26])
(.cond (.t 26)
(.seq (.reg [⟨some 4, .mov (.k (.bool false)), none⟩]
[4])
.ret)
.skip)))
(.reg [⟨some 15, .mov (.t 5), none⟩,
⟨some 16, .bin .add (.t 15) (.k (.int .i64 1)), none⟩,
⟨some 5, .mov (.t 16), none⟩]
[0, 1, 5]))))))
(.seq (.reg [⟨some 4, .mov (.k (.bool true)), none⟩]
[4])
.ret))))⟩
theorem k_proctorlaw05_same : chkF Go.Proofs.Try.prog Go.Proofs.Try.f21 c_proctorlaw05_same = true := by kernel_rfl
theorem pc_proctorlaw05_same {G : Nat → Option AV} {args : List AV} {r : AV} (h : Runs Go.Proofs.Try.prog G c_proctorlaw05_same args r) (hk : args.length = c_proctorlaw05_same.k := by rfl) : PureC Go.Proofs.Try.prog G n_proctorlaw05_same args r := PureC.of_runs (fn := Go.Proofs.Try.f21) (A := c_proctorlaw05_same) Go.Proofs.Try.func21 k_proctorlaw05_same hk h
def c_proctorlaw05_small : AFun := ⟨23, 1, [.t 2],
  (.seq (.reg [⟨some 2, .mov (.k (.bool false)), none⟩]
[0])
(.seq (.seq (.reg [⟨some 4, .mov (.t 0), none⟩,
⟨some 5, .len false (.t 4), none⟩,
⟨some 6, .bin .gtr (.t 5) (.k (.int .i64 8)), none⟩]
[0, 6])
(.cond (.t 6)
(.seq (.reg [⟨some 2, .mov (.k (.bool false)), none⟩]
[2])
.ret)
.skip))
(.seq (.seq (.reg [⟨some 3, .mov (.k (.int .i64 0)), none⟩]
[0, 3])
(.block 0
(.loop [0, 3] [5]
  (.seq (.seq (.reg [⟨some 7, .mov (.t 3), none⟩,
⟨some 8, .mov (.t 0), none⟩,
⟨some 9, .len false (.t 8), none⟩,
⟨some 10, .bin .lss (.t 7) (.t 9), none⟩]
[0, 3, 10])
(.cond (.t 10)
.skip
(.exit 0)))
(.seq (.block 1
(.seq (.reg [⟨some 13, .mov (.t 0), none⟩,
⟨some 14, .mov (.t 3), none⟩,
⟨some 15, .iaddr 5 (.t 13) (.t 14), none⟩,
⟨some 16, .faddr (.t 15) 1, none⟩,
⟨some 17, .faddr (.t 16) 2, none⟩,
⟨some 18, .load (.t 17), none⟩,
⟨some 19, .len true (.t 18), none⟩,
⟨some 20, .bin .gtr (.t 19) (.k (.int .i64 1000)), none⟩]
[0, 3, 20])
(.cond (.t 20)
(.seq (.reg [⟨some 2, .mov (.k (.bool false)), none⟩]
[2])
.ret)
.skip)))
(.reg [⟨some 11, .mov (.t 3), none⟩,
⟨some 12, .bin .add (.t 11) (.k (.int .i64 1)), none⟩,
⟨some 3, .mov (.t 12), none⟩]
[0, 3]))))))
(.seq (.reg [⟨some 21, .mov (.t 0), none⟩,
⟨some 22, .call n_proctorref05_Right [.t 21], none⟩,
⟨some 2, .mov (.t 22), none⟩]
[2])
.ret))))⟩
theorem k_proctorlaw05_small : chkF Go.Proofs.Try.prog Go.Proofs.Try.f6 c_proctorlaw05_small = true := by kernel_rfl
theorem pc_proctorlaw05_small {G : Nat → Option AV} {args : List AV} {r : AV} (h : Runs Go.Proofs.Try.prog G c_proctorlaw05_small args r) (hk : args.length = c_proctorlaw05_small.k := by rfl) : PureC Go.Proofs.Try.prog G n_proctorlaw05_small args r := PureC.of_runs (fn := Go.Proofs.Try.f6) (A := c_proctorlaw05_small) Go.Proofs.Try.func6 k_proctorlaw05_small hk h
def c_proctorref03_Below : AFun := ⟨37, 2, [.t 4],
  (.seq (.reg [⟨some 4, .mov (.k (.bool false)), none⟩]
[0, 1])
(.seq (.seq (.reg [⟨some 5, .mov (.k (.int .i64 0)), none⟩]
[0, 1, 5])
(.block 0
(.loop [0, 1, 5] []
  (.seq (.seq (.reg [⟨some 6, .mov (.t 5), none⟩,
⟨some 7, .mov (.t 0), none⟩,
⟨some 8, .len true (.t 7), none⟩,
⟨some 9, .bin .lss (.t 6) (.t 8), none⟩,
⟨some 10, .mov (.t 9), none⟩,
⟨some 11, .mov (.t 5), (some (10, true))⟩,
⟨some 12, .mov (.t 1), (some (10, true))⟩,
⟨some 13, .len true (.t 12), (some (10, true))⟩,
⟨some 14, .bin .lss (.t 11) (.t 13), (some (10, true))⟩,
⟨some 15, .pick (.t 10) (.t 14) (.k (.bool false)), none⟩]
[0, 1, 5, 15])
(.cond (.t 15)
.skip
(.exit 0)))
(.seq (.block 1
(.seq (.dreg [⟨some 18, .mov (.t 0), none⟩,
⟨some 19, .mov (.t 5), none⟩,
⟨some 20, .idx (.t 18) (.t 19), none⟩,
⟨some 21, .mov (.t 1), none⟩,
⟨some 22, .mov (.t 5), none⟩,
⟨some 23, .idx (.t 21) (.t 22), none⟩,
⟨some 24, .bin .neq (.t 20) (.t 23), none⟩]
[0, 1, 5, 24])
(.cond (.t 24)
(.seq (.dreg [⟨some 25, .mov (.t 0), none⟩,
⟨some 26, .mov (.t 5), none⟩,
⟨some 27, .idx (.t 25) (.t 26), none⟩,
⟨some 28, .mov (.t 1), none⟩,
⟨some 29, .mov (.t 5), none⟩,
⟨some 30, .idx (.t 28) (.t 29), none⟩,
⟨some 31, .bin .lss (.t 27) (.t 30), none⟩,
⟨some 4, .mov (.t 31), none⟩]
[4])
.ret)
.skip)))
(.reg [⟨some 16, .mov (.t 5), none⟩,
⟨some 17, .bin .add (.t 16) (.k (.int .i64 1)), none⟩,
⟨some 5, .mov (.t 17), none⟩]
[0, 1, 5]))))))
(.seq (.reg [⟨some 32, .mov (.t 0), none⟩,
⟨some 33, .len true (.t 32), none⟩,
⟨some 34, .mov (.t 1), none⟩,
⟨some 35, .len true (.t 34), none⟩,
⟨some 36, .bin .lss (.t 33) (.t 35), none⟩,
⟨some 4, .mov (.t 36), none⟩]
[4])
.ret)))⟩
theorem k_proctorref03_Below : chkF Go.Proofs.Try.prog Go.Proofs.Try.f51 c_proctorref03_Below = true := by kernel_rfl
theorem pc_proctorref03_Below {G : Nat → Option AV} {args : List AV} {r : AV} (h : Runs Go.Proofs.Try.prog G c_proctorref03_Below args r) (hk : args.length = c_proctorref03_Below.k := by rfl) : PureC Go.Proofs.Try.prog G n_proctorref03_Below args r := PureC.of_runs (fn := Go.Proofs.Try.f51) (A := c_proctorref03_Below) Go.Proofs.Try.func51 k_proctorref03_Below hk h
def c_proctorref03_Less : AFun := ⟨38, 2, [.t 4],
  (.seq (.reg [⟨some 2, .box t_api_Value 4 (.t 0), none⟩,
⟨some 3, .box t_api_Value 4 (.t 1), none⟩,
⟨some 4, .mov (.k (.bool false)), none⟩]
[2, 3])
(.seq (.seq (.reg [⟨some 5, .faddr (.t 2) 0, none⟩,
⟨some 6, .load (.t 5), none⟩,
⟨some 7, .faddr (.t 3) 0, none⟩,
⟨some 8, .load (.t 7), none⟩,
⟨some 9, .bin .neq (.t 6) (.t 8), none⟩]
[2, 3, 9])
(.cond (.t 9)
(.seq (.reg [⟨some 10, .faddr (.t 2) 0, none⟩,
⟨some 11, .load (.t 10), none⟩,
⟨some 12, .faddr (.t 3) 0, none⟩,
⟨some 13, .load (.t 12), none⟩,
⟨some 14, .bin .lss (.t 11) (.t 13), none⟩,
⟨some 4, .mov (.t 14), none⟩]
[4])
.ret)
.skip))
(.seq (.seq (.reg [⟨some 15, .faddr (.t 2) 0, none⟩,
⟨some 16, .load (.t 15), none⟩,
⟨some 17, .bin .eql (.t 16) (.k (.int .i64 1)), none⟩]
[2, 3, 17])
(.cond (.t 17)
(.seq (.reg [⟨some 18, .faddr (.t 2) 1, none⟩,
⟨some 19, .load (.t 18), none⟩,
⟨some 20, .faddr (.t 3) 1, none⟩,
⟨some 21, .load (.t 20), none⟩,
⟨some 22, .bin .lss (.t 19) (.t 21), none⟩,
⟨some 4, .mov (.t 22), none⟩]
[4])
.ret)
.skip))
(.seq (.seq (.reg [⟨some 23, .faddr (.t 2) 0, none⟩,
⟨some 24, .load (.t 23), none⟩,
⟨some 25, .bin .eql (.t 24) (.k (.int .i64 2)), none⟩]
[2, 3, 25])
(.cond (.t 25)
(.seq (.reg [⟨some 26, .faddr (.t 2) 2, none⟩,
⟨some 27, .load (.t 26), none⟩,
⟨some 28, .faddr (.t 3) 2, none⟩,
⟨some 29, .load (.t 28), none⟩,
⟨some 30, .call n_proctorref03_Below [.t 27, .t 29], none⟩,
⟨some 4, .mov (.t 30), none⟩]
[4])
.ret)
.skip))
(.seq (.reg [⟨some 31, .faddr (.t 2) 3, none⟩,
⟨some 32, .load (.t 31), none⟩,
⟨some 33, .un .not (.t 32), none⟩,
⟨some 34, .mov (.t 33), none⟩,
⟨some 35, .faddr (.t 3) 3, (some (34, true))⟩,
⟨some 36, .load (.t 35), (some (34, true))⟩,
⟨some 37, .pick (.t 34) (.t 36) (.k (.bool false)), none⟩,
⟨some 4, .mov (.t 37), none⟩]
[4])
.ret)))))⟩
theorem k_proctorref03_Less : chkF Go.Proofs.Try.prog Go.Proofs.Try.f34 c_proctorref03_Less = true := by kernel_rfl
theorem pc_proctorref03_Less {G : Nat → Option AV} {args : List AV} {r : AV} (h : Runs Go.Proofs.Try.prog G c_proctorref03_Less args r) (hk : args.length = c_proctorref03_Less.k := by rfl) : PureC Go.Proofs.Try.prog G n_proctorref03_Less args r := PureC.of_runs (fn := Go.Proofs.Try.f34) (A := c_proctorref03_Less) Go.Proofs.Try.func34 k_proctorref03_Less hk h
def c_proctorref03_Right : AFun := ⟨44, 1, [.t 2],
  (.seq (.reg [⟨some 1, .box t_api_Value 4 (.t 0), none⟩,
⟨some 2, .mov (.k (.bool false)), none⟩]
[1])
(.seq (.seq (.reg [⟨some 3, .faddr (.t 1) 0, none⟩,
⟨some 4, .load (.t 3), none⟩,
⟨some 5, .bin .eql (.t 4) (.k (.int .i64 1)), none⟩]
[1, 5])
(.cond (.t 5)
(.seq (.reg [⟨some 6, .faddr (.t 1) 2, none⟩,
⟨some 7, .load (.t 6), none⟩,
⟨some 8, .bin .eql (.t 7) (.k (.str [])), none⟩,
⟨some 9, .mov (.t 8), none⟩,
⟨some 10, .faddr (.t 1) 3, (some (9, true))⟩,
⟨some 11, .load (.t 10), (some (9, true))⟩,
⟨some 12, .un .not (.t 11), (some (9, true))⟩,
⟨some 13, .pick (.t 9) (.t 12) (.k (.bool false)), none⟩,
⟨some 2, .mov (.t 13), none⟩]
[2])
.ret)
.skip))
(.seq (.seq (.reg [⟨some 14, .faddr (.t 1) 0, none⟩,
⟨some 15, .load (.t 14), none⟩,
⟨some 16, .bin .eql (.t 15) (.k (.int .i64 2)), none⟩]
[1, 16])
(.cond (.t 16)
(.seq (.reg [⟨some 17, .faddr (.t 1) 1, none⟩,
⟨some 18, .load (.t 17), none⟩,
⟨some 19, .bin .eql (.t 18) (.k (.int .i64 0)), none⟩,
⟨some 20, .mov (.t 19), none⟩,
⟨some 21, .faddr (.t 1) 3, (some (20, true))⟩,
⟨some 22, .load (.t 21), (some (20, true))⟩,
⟨some 23, .un .not (.t 22), (some (20, true))⟩,
⟨some 24, .pick (.t 20) (.t 23) (.k (.bool false)), none⟩,
⟨some 25, .mov (.t 24), none⟩,
⟨some 26, .faddr (.t 1) 2, (some (25, true))⟩,
⟨some 27, .load (.t 26), (some (25, true))⟩,
⟨some 28, .len true (.t 27), (some (25, true))⟩,
⟨some 29, .bin .leq (.t 28) (.k (.int .i64 4096)), (some (25, true))⟩,
⟨some 30, .pick (.t 25) (.t 29) (.k (.bool false)), none⟩,
⟨some 2, .mov (.t 30), none⟩]
[2])
.ret)
.skip))
(.seq (.reg [⟨some 31, .faddr (.t 1) 0, none⟩,
⟨some 32, .load (.t 31), none⟩,
⟨some 33, .bin .eql (.t 32) (.k (.int .i64 3)), none⟩,
⟨some 34, .mov (.t 33), none⟩,
⟨some 35, .faddr (.t 1) 1, (some (34, true))⟩,
⟨some 36, .load (.t 35), (some (34, true))⟩,
⟨some 37, .bin .eql (.t 36) (.k (.int .i64 0)), (some (34, true))⟩,
⟨some 38, .pick (.t 34) (.t 37) (.k (.bool false)), none⟩,
⟨some 39, .mov (.t 38), none⟩,
⟨some 40, .faddr (.t 1) 2, (some (39, true))⟩,
⟨some 41, .load (.t 40), (some (39, true))⟩,
⟨some 42, .bin .eql (.t 41) (.k (.str [])), (some (39, true))⟩,
⟨some 43, .pick (.t 39) (.t 42) (.k (.bool false)), none⟩,
⟨some 2, .mov (.t 43), none⟩]
[2])
.ret))))⟩
theorem k_proctorref03_Right : chkF Go.Proofs.Try.prog Go.Proofs.Try.f44 c_proctorref03_Right = true := by kernel_rfl
theorem pc_proctorref03_Right {G : Nat → Option AV} {args : List AV} {r : AV} (h : Runs Go.Proofs.Try.prog G c_proctorref03_Right args r) (hk : args.length = c_proctorref03_Right.k := by rfl) : PureC Go.Proofs.Try.prog G n_proctorref03_Right args r := PureC.of_runs (fn := Go.Proofs.Try.f44) (A := c_proctorref03_Right) Go.Proofs.Try.func44 k_proctorref03_Right hk h
def c_proctorref04_Key : AFun := ⟨70, 1, [.t 2],
  (.seq (.reg [⟨some 1, .box t_api_Value 4 (.t 0), none⟩,
⟨some 2, .nilrow t_uint8 1, none⟩]
[1])
(.seq (.reg [⟨some 8, .faddr (.t 1) 0, none⟩,
⟨some 9, .load (.t 8), none⟩,
⟨some 10, .conv .u8 (.t 9), none⟩,
⟨some 11, .mkrow t_uint8 1 1 (.int .u8 0) [(0, .t 10)], none⟩,
⟨some 3, .mov (.t 11), none⟩]
[1, 3])
(.seq (.seq (.reg [⟨some 12, .faddr (.t 1) 0, none⟩,
⟨some 13, .load (.t 12), none⟩,
⟨some 14, .bin .eql (.t 13) (.k (.int .i64 3)), none⟩]
[1, 3, 14])
(.cond (.t 14)
(.seq (.seq (.reg [⟨some 15, .faddr (.t 1) 3, none⟩,
⟨some 16, .load (.t 15), none⟩]
[3, 16])
(.cond (.t 16)
(.seq (.reg [⟨some 17, .mov (.t 3), none⟩,
⟨some 18, .mkrow t_uint8 1 1 (.int .u8 0) [(0, .k (.int .u8 1))], none⟩,
⟨some 19, .app t_uint8 1 1 (.t 17) (.t 18), none⟩,
⟨some 2, .mov (.t 19), none⟩]
[2])
.ret)
.skip))
(.seq (.reg [⟨some 20, .mov (.t 3), none⟩,
⟨some 21, .mkrow t_uint8 1 1 (.int .u8 0) [(0, .k (.int .u8 0))], none⟩,
⟨some 22, .app t_uint8 1 1 (.t 20) (.t 21), none⟩,
⟨some 2, .mov (.t 22), none⟩]
[2])
.ret))
.skip))
(.seq (.seq (.reg [⟨some 23, .faddr (.t 1) 0, none⟩,
⟨some 24, .load (.t 23), none⟩,
⟨some 25, .bin .eql (.t 24) (.k (.int .i64 2)), none⟩]
[1, 3, 25])
(.cond (.t 25)
(.seq (.seq (.reg [⟨some 4, .mov (.k (.int .i64 0)), none⟩]
[1, 3, 4])
(.block 0
(.loop [1, 3, 4] [1, 2, 11, 18, 19, 21, 22, 39, 47]
  (.seq (.seq (.reg [⟨some 26, .mov (.t 4), none⟩,
⟨some 27, .faddr (.t 1) 2, none⟩,
⟨some 28, .load (.t 27), none⟩,
⟨some 29, .len true (.t 28), none⟩,
⟨some 30, .bin .lss (.t 26) (.t 29), none⟩]
[1, 3, 4, 30])
(.cond (.t 30)
.skip
(.exit 0)))
(.seq (.block 1
(.seq (.reg [⟨some 33, .mov (.t 3), none⟩,
⟨some 34, .faddr (.t 1) 2, none⟩,
⟨some 35, .load (.t 34), none⟩,
⟨some 36, .mov (.t 4), none⟩,
⟨some 37, .idx (.t 35) (.t 36), none⟩,
⟨some 38, .mkrow t_uint8 1 1 (.int .u8 0) [(0, .t 37)], none⟩,
⟨some 39, .app t_uint8 1 1 (.t 33) (.t 38), none⟩,
⟨some 3, .mov (.t 39), none⟩]
[1, 3, 4])
(.seq (.reg [⟨some 40, .faddr (.t 1) 2, none⟩,
⟨some 41, .load (.t 40), none⟩,
⟨some 42, .mov (.t 4), none⟩,
⟨some 43, .idx (.t 41) (.t 42), none⟩,
⟨some 44, .bin .eql (.t 43) (.k (.int .u8 0)), none⟩]
[1, 3, 4, 44])
(.cond (.t 44)
(.reg [⟨some 45, .mov (.t 3), none⟩,
⟨some 46, .mkrow t_uint8 1 1 (.int .u8 0) [(0, .k (.int .u8 255))], none⟩,
⟨some 47, .app t_uint8 1 1 (.t 45) (.t 46), none⟩,
⟨some 3, .mov (.t 47), none⟩]
[1, 3, 4])
.skip))))
(.reg [⟨some 31, .mov (.t 4), none⟩,
⟨some 32, .bin .add (.t 31) (.k (.int .i64 1)), none⟩,
⟨some 4, .mov (.t 32), none⟩]
[1, 3, 4]))))))
(.seq (.reg [⟨some 48, .mov (.t 3), none⟩,
⟨some 49, .mkrow t_uint8 1 2 (.int .u8 0) [(0, .k (.int .u8 0)), (1, .k (.int .u8 1))], none⟩,
⟨some 50, .app t_uint8 1 1 (.t 48) (.t 49), none⟩,
⟨some 2, .mov (.t 50), none⟩]
[2])
.ret))
.skip))
(.seq (.reg [⟨some 51, .faddr (.t 1) 1, none⟩,
⟨some 52, .load (.t 51), none⟩,
⟨some 53, .conv .u64 (.t 52), none⟩,
⟨some 54, .bin .add (.t 53) (.k (.int .u64 9223372036854775808)), none⟩,
⟨some 5, .mov (.t 54), none⟩]
[3, 5])
(.seq (.reg [⟨some 6, .mov (.k (.int .u64 72057594037927936)), none⟩]
[3, 5, 6])
(.seq (.seq (.reg [⟨some 7, .mov (.k (.int .i64 0)), none⟩]
[3, 5, 6, 7])
(.block 2
(.loop [3, 5, 6, 7] [1, 2, 11, 18, 19, 21, 22, 29, 38, 39, 46, 47, 49, 50, 66]
  (.seq (.seq (.reg [⟨some 55, .mov (.t 7), none⟩,
⟨some 56, .bin .lss (.t 55) (.k (.int .i64 8)), none⟩]
[3, 5, 6, 7, 56])
(.cond (.t 56)
.skip
(.exit 2)))
(.seq (.block 3
(.seq (.reg [⟨some 59, .mov (.t 3), none⟩,
⟨some 60, .mov (.t 5), none⟩,
⟨some 61, .mov (.t 6), none⟩,
⟨some 62, .bin .quo (.t 60) (.t 61), none⟩,
⟨some 63, .bin .rem (.t 62) (.k (.int .u64 256)), none⟩,
⟨some 64, .conv .u8 (.t 63), none⟩,
⟨some 65, .mkrow t_uint8 1 1 (.int .u8 0) [(0, .t 64)], none⟩,
⟨some 66, .app t_uint8 1 1 (.t 59) (.t 65), none⟩,
⟨some 3, .mov (.t 66), none⟩]
[3, 5, 6, 7])
(.reg [⟨some 67, .mov (.t 6), none⟩,
⟨some 68, .bin .quo (.t 67) (.k (.int .u64 256)), none⟩,
⟨some 6, .mov (.t 68), none⟩]
[3, 5, 6, 7])))
(.reg [⟨some 57, .mov (.t 7), none⟩,
⟨some 58, .bin .add (.t 57) (.k (.int .i64 1)), none⟩,
⟨some 7, .mov (.t 58), none⟩]
[3, 5, 6, 7]))))))
(.seq (.reg [⟨some 69, .mov (.t 3), none⟩,
⟨some 2, .mov (.t 69), none⟩]
[2])
.ret))))))))⟩
theorem k_proctorref04_Key : chkF Go.Proofs.Try.prog Go.Proofs.Try.f23 c_proctorref04_Key = true := by kernel_rfl
theorem pc_proctorref04_Key {G : Nat → Option AV} {args : List AV} {r : AV} (h : Runs Go.Proofs.Try.prog G c_proctorref04_Key args r) (hk : args.length = c_proctorref04_Key.k := by rfl) : PureC Go.Proofs.Try.prog G n_proctorref04_Key args r := PureC.of_runs (fn := Go.Proofs.Try.f23) (A := c_proctorref04_Key) Go.Proofs.Try.func23 k_proctorref04_Key hk h
def c_proctorref05_Has : AFun := ⟨18, 2, [.t 4],
  (.seq (.reg [⟨some 4, .mov (.k (.bool false)), none⟩]
[0, 1])
(.seq (.seq (.reg [⟨some 5, .mov (.k (.int .i64 0)), none⟩]
[0, 1, 5])
(.block 0
(.loop [0, 1, 5] []
  (.seq (.seq (.reg [⟨some 6, .mov (.t 5), none⟩,
⟨some 7, .mov (.t 0), none⟩,
⟨some 8, .len false (.t 7), none⟩,
⟨some 9, .bin .lss (.t 6) (.t 8), none⟩]
[0, 1, 5, 9])
(.cond (.t 9)
.skip
(.exit 0)))
(.seq (.block 1
(.seq (.reg [⟨some 12, .mov (.t 0), none⟩,
⟨some 13, .mov (.t 5), none⟩,
⟨some 14, .iaddr 1 (.t 12) (.t 13), none⟩,
⟨some 15, .load (.t 14), none⟩,
⟨some 16, .mov (.t 1), none⟩,
⟨some 17, .call n_proctorref05_Same [.t 15, .t 16], none⟩]
[0, 1, 5, 17])
(.cond (.t 17)
(.seq (.reg [⟨some 4, .mov (.k (.bool true)), none⟩]
[4])
.ret)
.skip)))
(.reg [⟨some 10, .mov (.t 5), none⟩,
⟨some 11, .bin .add (.t 10) (.k (.int .i64 1)), none⟩,
⟨some 5, .mov (.t 11), none⟩]
[0, 1, 5]))))))
(.seq (.reg [⟨some 4, .mov (.k (.bool false)), none⟩]
[4])
.ret)))⟩
theorem k_proctorref05_Has : chkF Go.Proofs.Try.prog Go.Proofs.Try.f36 c_proctorref05_Has = true := by kernel_rfl
theorem pc_proctorref05_Has {G : Nat → Option AV} {args : List AV} {r : AV} (h : Runs Go.Proofs.Try.prog G c_proctorref05_Has args r) (hk : args.length = c_proctorref05_Has.k := by rfl) : PureC Go.Proofs.Try.prog G n_proctorref05_Has args r := PureC.of_runs (fn := Go.Proofs.Try.f36) (A := c_proctorref05_Has) Go.Proofs.Try.func36 k_proctorref05_Has hk h
def c_proctorref05_Less : AFun := ⟨66, 2, [.t 4],
  (.seq (.reg [⟨some 4, .mov (.k (.bool false)), none⟩]
[0, 1])
(.seq (.seq (.reg [⟨some 6, .mov (.t 0), none⟩,
⟨some 7, .len false (.t 6), none⟩,
⟨some 8, .mov (.t 1), none⟩,
⟨some 9, .len false (.t 8), none⟩,
⟨some 10, .bin .neq (.t 7) (.t 9), none⟩]
[0, 1, 10])
(.cond (.t 10)
(.seq (.reg [⟨some 11, .mov (.t 0), none⟩,
⟨some 12, .len false (.t 11), none⟩,
⟨some 13, .mov (.t 1), none⟩,
⟨some 14, .len false (.t 13), none⟩,
⟨some 15, .bin .lss (.t 12) (.t 14), none⟩,
⟨some 4, .mov (.t 15), none⟩]
[4])
.ret)
.skip))
(.seq (.seq (.reg [⟨some 5, .mov (.k (.int .i64 0)), none⟩]
[0, 1, 5])
(.block 0
(.loop [0, 1, 5] [7, 9, 12, 14]
  (.seq (.seq (.reg [⟨some 16, .mov (.t 5), none⟩,
⟨some 17, .mov (.t 0), none⟩,
⟨some 18, .len false (.t 17), none⟩,
⟨some 19, .bin .lss (.t 16) (.t 18), none⟩]
[0, 1, 5, 19])
(.cond (.t 19)
.skip
(.exit 0)))
(.seq (.block 1
(.seq (.seq (.dreg [⟨some 22, .mov (.t 0), none⟩,
⟨some 23, .mov (.t 5), none⟩,
⟨some 24, .iaddr 5 (.t 22) (.t 23), none⟩,
⟨some 25, .faddr (.t 24) 0, none⟩,
⟨some 26, .load (.t 25), none⟩,
⟨some 27, .mov (.t 1), none⟩,
⟨some 28, .mov (.t 5), none⟩,
⟨some 29, .iaddr 5 (.t 27) (.t 28), none⟩,
⟨some 30, .faddr (.t 29) 0, none⟩,
⟨some 31, .load (.t 30), none⟩,
⟨some 32, .bin .neq (.t 26) (.t 31), none⟩]
[0, 1, 5, 32])
(.cond (.t 32)
(.seq (.dreg [⟨some 33, .mov (.t 0), none⟩,
⟨some 34, .mov (.t 5), none⟩,
⟨some 35, .iaddr 5 (.t 33) (.t 34), none⟩,
⟨some 36, .faddr (.t 35) 0, none⟩,
⟨some 37, .load (.t 36), none⟩,
⟨some 38, .mov (.t 1), none⟩,
⟨some 39, .mov (.t 5), none⟩,
⟨some 40, .iaddr 5 (.t 38) (.t 39), none⟩,
⟨some 41, .faddr (.t 40) 0, none⟩,
⟨some 42, .load (.t 41), none⟩,
⟨some 43, .bin .lss (.t 37) (.t 42), none⟩,
⟨some 4, .mov (.t 43), none⟩]
[4])
.ret)
.skip))
(.seq (.dreg [⟨some 44, .mov (.t 0), none⟩,
⟨some 45, .mov (.t 5), none⟩,
⟨some 46, .iaddr 5 (.t 44) (.t 45), none⟩,
⟨some 47, .faddr (.t 46) 1, none⟩,
⟨some 48, .loadN (.t 47) 4, none⟩,
⟨some 49, .mov (.t 1), none⟩,
⟨some 50, .mov (.t 5), none⟩,
⟨some 51, .iaddr 5 (.t 49) (.t 50), none⟩,
⟨some 52, .faddr (.t 51) 1, none⟩,
⟨some 53, .loadN (.t 52) 4, none⟩,
⟨some 54, .eqA true [0, 0, 1, 2] (.t 48) (.t 53), none⟩]
[0, 1, 5, 54])
(.cond (.t 54)
(.seq (.dreg [⟨some 55, .mov (.t 0), none⟩,
⟨some 56, .mov (.t 5), none⟩,
⟨some 57, .iaddr 5 (.t 55) (.t 56), none⟩,
⟨some 58, .faddr (.t 57) 1, none⟩,
⟨some 59, .loadN (.t 58) 4, none⟩,
⟨some 60, .mov (.t 1), none⟩,
⟨some 61, .mov (.t 5), none⟩,
⟨some 62, .iaddr 5 (.t 60) (.t 61), none⟩,
⟨some 63, .faddr (.t 62) 1, none⟩,
⟨some 64, .loadN (.t 63) 4, none⟩,
⟨some 65, .call n_proctorref03_Less [.t 59, .t 64], none⟩,
⟨some 4, .mov (.t 65), none⟩]
[4])
.ret)
.skip))))
(.reg [⟨some 20, .mov (.t 5), none⟩,
⟨some 21, .bin .add (.t 20) (.k (.int .i64 1)), none⟩,
⟨some 5, .mov (.t 21), none⟩]
[0, 1, 5]))))))
(.seq (.reg [⟨some 4, .mov (.k (.bool false)), none⟩]
[4])
.ret))))⟩
theorem k_proctorref05_Less : chkF Go.Proofs.Try.prog Go.Proofs.Try.f16 c_proctorref05_Less = true := by kernel_rfl
theorem pc_proctorref05_Less {G : Nat → Option AV} {args : List AV} {r : AV} (h : Runs Go.Proofs.Try.prog G c_proctorref05_Less args r) (hk : args.length = c_proctorref05_Less.k := by rfl) : PureC Go.Proofs.Try.prog G n_proctorref05_Less args r := PureC.of_runs (fn := Go.Proofs.Try.f16) (A := c_proctorref05_Less) Go.Proofs.Try.func16 k_proctorref05_Less hk h
def c_proctorref05_Put : AFun := ⟨40, 2, [.t 4],
  (.seq (.reg [⟨some 4, .nilrow t_Sapi_Slot 1, none⟩]
[0, 1])
(.seq (.seq (.reg [⟨some 7, .mov (.t 0), none⟩,
⟨some 8, .mov (.t 1), none⟩,
⟨some 9, .call n_proctorref05_Has [.t 7, .t 8], none⟩]
[0, 1, 9])
(.cond (.t 9)
(.seq (.reg [⟨some 10, .mov (.t 0), none⟩,
⟨some 4, .mov (.t 10), none⟩]
[4])
.ret)
.skip))
(.seq (.reg [⟨some 11, .mov (.t 0), none⟩,
⟨some 12, .len false (.t 11), none⟩,
⟨some 5, .mov (.t 12), none⟩]
[0, 1, 5])
(.seq (.block 0
(.loop [0, 1, 5] [4, 9, 12]
  (.seq (.seq (.reg [⟨some 13, .mov (.t 5), none⟩,
⟨some 14, .bin .gtr (.t 13) (.k (.int .i64 0)), none⟩,
⟨some 15, .mov (.t 14), none⟩,
⟨some 16, .mov (.t 1), (some (15, true))⟩,
⟨some 17, .mov (.t 0), (some (15, true))⟩,
⟨some 18, .mov (.t 5), (some (15, true))⟩,
⟨some 19, .bin .sub (.t 18) (.k (.int .i64 1)), (some (15, true))⟩,
⟨some 20, .iaddr 1 (.t 17) (.t 19), (some (15, true))⟩,
⟨some 21, .load (.t 20), (some (15, true))⟩,
⟨some 22, .call n_proctorref05_Less [.t 16, .t 21], (some (15, true))⟩,
⟨some 23, .pick (.t 15) (.t 22) (.k (.bool false)), none⟩]
[0, 1, 5, 23])
(.cond (.t 23)
.skip
(.exit 0)))
(.block 1
(.reg [⟨some 24, .mov (.t 5), none⟩,
⟨some 25, .bin .sub (.t 24) (.k (.int .i64 1)), none⟩,
⟨some 5, .mov (.t 25), none⟩]
[0, 1, 5])))))
(.seq (.reg [⟨some 26, .mkrow t_Sapi_Slot 1 0 (.nils) [], none⟩,
⟨some 27, .mov (.t 0), none⟩,
⟨some 28, .mov (.t 5), none⟩,
⟨some 29, .slc 1 (.t 27) none (some (.t 28)), none⟩,
⟨some 30, .app t_Sapi_Slot 1 24 (.t 26) (.t 29), none⟩,
⟨some 6, .mov (.t 30), none⟩]
[0, 1, 5, 6])
(.seq (.reg [⟨some 31, .mov (.t 6), none⟩,
⟨some 32, .mov (.t 1), none⟩,
⟨some 33, .mkrow t_Sapi_Slot 1 1 (.nils) [(0, .t 32)], none⟩,
⟨some 34, .app t_Sapi_Slot 1 24 (.t 31) (.t 33), none⟩,
⟨some 6, .mov (.t 34), none⟩]
[0, 5, 6])
(.seq (.reg [⟨some 35, .mov (.t 6), none⟩,
⟨some 36, .mov (.t 0), none⟩,
⟨some 37, .mov (.t 5), none⟩,
⟨some 38, .slc 1 (.t 36) (some (.t 37)) none, none⟩,
⟨some 39, .app t_Sapi_Slot 1 24 (.t 35) (.t 38), none⟩,
⟨some 4, .mov (.t 39), none⟩]
[4])
.ret)))))))⟩
theorem k_proctorref05_Put : chkF Go.Proofs.Try.prog Go.Proofs.Try.f20 c_proctorref05_Put = true := by kernel_rfl
theorem pc_proctorref05_Put {G : Nat → Option AV} {args : List AV} {r : AV} (h : Runs Go.Proofs.Try.prog G c_proctorref05_Put args r) (hk : args.length = c_proctorref05_Put.k := by rfl) : PureC Go.Proofs.Try.prog G n_proctorref05_Put args r := PureC.of_runs (fn := Go.Proofs.Try.f20) (A := c_proctorref05_Put) Go.Proofs.Try.func20 k_proctorref05_Put hk h
def c_proctorref05_Right : AFun := ⟨51, 1, [.t 2],
  (.seq (.reg [⟨some 2, .mov (.k (.bool false)), none⟩]
[0])
(.seq (.seq (.reg [⟨some 3, .mov (.k (.int .i64 0)), none⟩]
[0, 3])
(.block 0
(.loop [0, 3] []
  (.seq (.seq (.reg [⟨some 4, .mov (.t 3), none⟩,
⟨some 5, .mov (.t 0), none⟩,
⟨some 6, .len false (.t 5), none⟩,
⟨some 7, .bin .lss (.t 4) (.t 6), none⟩]
[0, 3, 7])
(.cond (.t 7)
.skip
(.exit 0)))
(.seq (.block 1
(.seq (.dreg [⟨some 10, .mov (.t 0), none⟩,
⟨some 11, .mov (.t 3), none⟩,
⟨some 12, .iaddr 5 (.t 10) (.t 11), none⟩,
⟨some 13, .faddr (.t 12) 0, none⟩,
⟨some 14, .load (.t 13), none⟩,
⟨some 15, .bin .lss (.t 14) (.k (.int .i64 0)), none⟩,
⟨some 16, .mov (.t 15), none⟩,
⟨some 17, .mov (.t 0), (some (16, false))⟩,
⟨some 18, .mov (.t 3), (some (16, false))⟩,
⟨some 19, .iaddr 5 (.t 17) (.t 18), (some (16, false))⟩,
⟨some 20, .faddr (.t 19) 0, (some (16, false))⟩,
⟨some 21, .load (.t 20), (some (16, false))⟩,
⟨some 22, .bin .gtr (.t 21) (.k (.int .i64 7)), (some (16, false))⟩,
⟨some 23, .pick (.t 16) (.k (.bool true)) (.t 22), none⟩,
⟨some 24, .mov (.t 23), none⟩,
⟨some 25, .mov (.t 0), (some (24, false))⟩,
⟨some 26, .mov (.t 3), (some (24, false))⟩,
⟨some 27, .iaddr 5 (.t 25) (.t 26), (some (24, false))⟩,
⟨some 28, .faddr (.t 27) 1, (some (24, false))⟩,
⟨some 29, .loadN (.t 28) 4, (some (24, false))⟩,
⟨some 30, .call n_proctorref03_Right [.t 29], (some (24, false))⟩,
⟨some 31, .un .not (.t 30), (some (24, false))⟩,
⟨some 32, .pick (.t 24) (.k (.bool true)) (.t 31), none⟩,
⟨some 33, .mov (.t 32), none⟩,
⟨some 34, .mov (.t 3), (some (33, false))⟩,
⟨some 35, .bin .gtr (.t 34) (.k (.int .i64 0)), (some (33, false))⟩,
⟨some 36, .mov (.t 35), (some (33, false))⟩,
⟨some 37, .mov (.t 0), (some (36, true))⟩,
⟨some 38, .mov (.t 3), (some (36, true))⟩,
⟨some 39, .iaddr 5 (.t 37) (.t 38), (some (36, true))⟩,
⟨some 40, .faddr (.t 39) 0, (some (36, true))⟩,
⟨some 41, .load (.t 40), (some (36, true))⟩,
⟨some 42, .mov (.t 0), (some (36, true))⟩,
⟨some 43, .mov (.t 3), (some (36, true))⟩,
⟨some 44, .bin .sub (.t 43) (.k (.int .i64 1)), (some (36, true))⟩,
⟨some 45, .iaddr 5 (.t 42) (.t 44), (some (36, true))⟩,
⟨some 46, .faddr (.t 45) 0, (some (36, true))⟩,
⟨some 47, .load (.t 46), (some (36, true))⟩,
⟨some 48, .bin .leq (.t 41) (.t 47), (some (36, true))⟩,
⟨some 49, .pick (.t 36) (.t 48) (.k (.bool false)), (some (33, false))⟩,
⟨some 50, .pick (.t 33) (.k (.bool true)) (.t 49), none⟩]
[0, 3, 50])
(.cond (.t 50)
(.seq (.reg [⟨some 2, .mov (.k (.bool false)), none⟩]
[2])
.ret)
.skip)))
(.reg [⟨some 8, .mov (.t 3), none⟩,
⟨some 9, .bin .add (.t 8) (.k (.int .i64 1)), none⟩,
⟨some 3, .mov (.t 9), none⟩]
[0, 3]))))))
(.seq (.reg [⟨some 2, .mov (.k (.bool true)), none⟩]
[2])
.ret)))⟩
theorem k_proctorref05_Right : chkF Go.Proofs.Try.prog Go.Proofs.Try.f26 c_proctorref05_Right = true := by kernel_rfl
theorem pc_proctorref05_Right {G : Nat → Option AV} {args : List AV} {r : AV} (h : Runs Go.Proofs.Try.prog G c_proctorref05_Right args r) (hk : args.length = c_proctorref05_Right.k := by rfl) : PureC Go.Proofs.Try.prog G n_proctorref05_Right args r := PureC.of_runs (fn := Go.Proofs.Try.f26) (A := c_proctorref05_Right) Go.Proofs.Try.func26 k_proctorref05_Right hk h
def c_proctorref05_Same : AFun := ⟨26, 2, [.t 4],
  (.seq (.reg [⟨some 4, .mov (.k (.bool false)), none⟩]
[0, 1])
(.seq (.seq (.reg [⟨some 6, .mov (.t 0), none⟩,
⟨some 7, .len false (.t 6), none⟩,
⟨some 8, .mov (.t 1), none⟩,
⟨some 9, .len false (.t 8), none⟩,
⟨some 10, .bin .neq (.t 7) (.t 9), none⟩]
[0, 1, 10])
(.cond (.t 10)
(.seq (.reg [⟨some 4, .mov (.k (.bool false)), none⟩]
[4])
.ret)
.skip))
(.seq (.seq (.reg [⟨some 5, .mov (.k (.int .i64 0)), none⟩]
[0, 1, 5])
(.block 0
(.loop [0, 1, 5] [7, 9]
  (.seq (.seq (.reg [⟨some 11, .mov (.t 5), none⟩,
⟨some 12, .mov (.t 0), none⟩,
⟨some 13, .len false (.t 12), none⟩,
⟨some 14, .bin .lss (.t 11) (.t 13), none⟩]
[0, 1, 5, 14])
(.cond (.t 14)
.skip
(.exit 0)))
(.seq (.block 1
(.seq (.dreg [⟨some 17, .mov (.t 0), none⟩,
⟨some 18, .mov (.t 5), none⟩,
⟨some 19, .iaddr 5 (.t 17) (.t 18), none⟩,
⟨some 20, .loadN (.t 19) 5, none⟩,
⟨some 21, .mov (.t 1), none⟩,
⟨some 22, .mov (.t 5), none⟩,
⟨some 23, .iaddr 5 (.t 21) (.t 22), none⟩,
⟨some 24, .loadN (.t 23) 5, none⟩,
⟨some 25, .eqA true [0, 0, 0, 1, 2] (.t 20) (.t 24), none⟩]
[0, 1, 5, 25])
(.cond (.t 25)
(.seq (.reg [⟨some 4, .mov (.k (.bool false)), none⟩]
[4])
.ret)
.skip)))
(.reg [⟨some 15, .mov (.t 5), none⟩,
⟨some 16, .bin .add (.t 15) (.k (.int .i64 1)), none⟩,
⟨some 5, .mov (.t 16), none⟩]
[0, 1, 5]))))))
(.seq (.reg [⟨some 4, .mov (.k (.bool true)), none⟩]
[4])
.ret))))⟩
theorem k_proctorref05_Same : chkF Go.Proofs.Try.prog Go.Proofs.Try.f14 c_proctorref05_Same = true := by kernel_rfl
theorem pc_proctorref05_Same {G : Nat → Option AV} {args : List AV} {r : AV} (h : Runs Go.Proofs.Try.prog G c_proctorref05_Same args r) (hk : args.length = c_proctorref05_Same.k := by rfl) : PureC Go.Proofs.Try.prog G n_proctorref05_Same args r := PureC.of_runs (fn := Go.Proofs.Try.f14) (A := c_proctorref05_Same) Go.Proofs.Try.func14 k_proctorref05_Same hk h
def c_value_Bool : AFun := ⟨5, 1, [.cells 2 4],
  (.seq (.reg [⟨some 2, .alloc t_api_Value 4 (.agg [.int .i64 0, .int .i64 0, .str [], .bool false]), none⟩]
[0, 2])
(.seq (.reg [⟨some 3, .mov (.t 0), none⟩,
⟨some 4, .build [.int .i64 0, .int .i64 0, .str [], .bool false] [(0, 1, .k (.int .i64 3)), (3, 1, .t 3)], none⟩,
⟨none, .store (.t 2) (.t 4) 4, none⟩]
[2])
.ret))⟩
theorem k_value_Bool : chkF Go.Proofs.Try.prog Go.Proofs.Try.f60 c_value_Bool = true := by kernel_rfl
theorem pc_value_Bool {G : Nat → Option AV} {args : List AV} {r : AV} (h : Runs Go.Proofs.Try.prog G c_value_Bool args r) (hk : args.length = c_value_Bool.k := by rfl) : PureC Go.Proofs.Try.prog G n_value_Bool args r := PureC.of_runs (fn := Go.Proofs.Try.f60) (A := c_value_Bool) Go.Proofs.Try.func60 k_value_Bool hk h
def c_value_Int : AFun := ⟨5, 1, [.cells 2 4],
  (.seq (.reg [⟨some 2, .alloc t_api_Value 4 (.agg [.int .i64 0, .int .i64 0, .str [], .bool false]), none⟩]
[0, 2])
(.seq (.reg [⟨some 3, .mov (.t 0), none⟩,
⟨some 4, .build [.int .i64 0, .int .i64 0, .str [], .bool false] [(0, 1, .k (.int .i64 1)), (1, 1, .t 3)], none⟩,
⟨none, .store (.t 2) (.t 4) 4, none⟩]
[2])
.ret))⟩
theorem k_value_Int : chkF Go.Proofs.Try.prog Go.Proofs.Try.f58 c_value_Int = true := by kernel_rfl
theorem pc_value_Int {G : Nat → Option AV} {args : List AV} {r : AV} (h : Runs Go.Proofs.Try.prog G c_value_Int args r) (hk : args.length = c_value_Int.k := by rfl) : PureC Go.Proofs.Try.prog G n_value_Int args r := PureC.of_runs (fn := Go.Proofs.Try.f58) (A := c_value_Int) Go.Proofs.Try.func58 k_value_Int hk h
def c_value_Less : AFun := ⟨41, 2, [.t 4],
  (.seq (.reg [⟨some 2, .box t_api_Value 4 (.t 0), none⟩,
⟨some 3, .box t_api_Value 4 (.t 1), none⟩,
⟨some 4, .mov (.k (.bool false)), none⟩]
[2, 3])
(.seq (.block 0
(.seq (.reg [⟨some 6, .faddr (.t 2) 0, none⟩,
⟨some 7, .load (.t 6), none⟩,
⟨some 8, .faddr (.t 3) 0, none⟩,
⟨some 9, .load (.t 8), none⟩,
⟨some 10, .bin .neq (.t 7) (.t 9), none⟩,
⟨some 5, .mov (.t 10), none⟩]
[2, 3, 5])
(.cond (.t 5)
(.seq (.reg [⟨some 11, .faddr (.t 2) 0, none⟩,
⟨some 12, .load (.t 11), none⟩,
⟨some 13, .faddr (.t 3) 0, none⟩,
⟨some 14, .load (.t 13), none⟩,
⟨some 15, .bin .lss (.t 12) (.t 14), none⟩,
⟨some 4, .mov (.t 15), none⟩]
[4])
.ret)
(.seq (.reg [⟨some 17, .faddr (.t 2) 0, none⟩,
⟨some 18, .load (.t 17), none⟩,
⟨some 19, .bin .eql (.t 18) (.k (.int .i64 1)), none⟩,
⟨some 16, .mov (.t 19), none⟩]
[2, 3, 16])
(.cond (.t 16)
(.seq (.reg [⟨some 20, .faddr (.t 2) 1, none⟩,
⟨some 21, .load (.t 20), none⟩,
⟨some 22, .faddr (.t 3) 1, none⟩,
⟨some 23, .load (.t 22), none⟩,
⟨some 24, .bin .lss (.t 21) (.t 23), none⟩,
⟨some 4, .mov (.t 24), none⟩]
[4])
.ret)
(.seq (.reg [⟨some 26, .faddr (.t 2) 0, none⟩,
⟨some 27, .load (.t 26), none⟩,
⟨some 28, .bin .eql (.t 27) (.k (.int .i64 2)), none⟩,
⟨some 25, .mov (.t 28), none⟩]
[2, 3, 25])
(.cond (.t 25)
(.seq (.reg [⟨some 29, .faddr (.t 2) 2, none⟩,
⟨some 30, .load (.t 29), none⟩,
⟨some 31, .faddr (.t 3) 2, none⟩,
⟨some 32, .load (.t 31), none⟩,
⟨some 33, .bin .lss (.t 30) (.t 32), none⟩,
⟨some 4, .mov (.t 33), none⟩]
[4])
.ret)
.skip)))))))
(.seq (.reg [⟨some 34, .faddr (.t 2) 3, none⟩,
⟨some 35, .load (.t 34), none⟩,
⟨some 36, .un .not (.t 35), none⟩,
⟨some 37, .mov (.t 36), none⟩,
⟨some 38, .faddr (.t 3) 3, (some (37, true))⟩,
⟨some 39, .load (.t 38), (some (37, true))⟩,
⟨some 40, .pick (.t 37) (.t 39) (.k (.bool false)), none⟩,
⟨some 4, .mov (.t 40), none⟩]
[4])
.ret)))⟩
theorem k_value_Less : chkF Go.Proofs.Try.prog Go.Proofs.Try.f33 c_value_Less = true := by kernel_rfl
theorem pc_value_Less {G : Nat → Option AV} {args : List AV} {r : AV} (h : Runs Go.Proofs.Try.prog G c_value_Less args r) (hk : args.length = c_value_Less.k := by rfl) : PureC Go.Proofs.Try.prog G n_value_Less args r := PureC.of_runs (fn := Go.Proofs.Try.f33) (A := c_value_Less) Go.Proofs.Try.func33 k_value_Less hk h
def c_value_Right : AFun := ⟨32, 1, [.t 2],
  (.seq (.reg [⟨some 1, .box t_api_Value 4 (.t 0), none⟩,
⟨some 2, .mov (.k (.bool false)), none⟩]
[1])
(.seq (.seq (.reg [⟨some 3, .faddr (.t 1) 0, none⟩,
⟨some 4, .load (.t 3), none⟩]
[1, 4])
(.block 0
(.seq (.reg [⟨some 6, .bin .eql (.t 4) (.k (.int .i64 1)), none⟩,
⟨some 5, .mov (.t 6), none⟩]
[1, 4, 5])
(.cond (.t 5)
(.seq (.dreg [⟨some 7, .loadN (.t 1) 4, none⟩,
⟨some 8, .faddr (.t 1) 1, none⟩,
⟨some 9, .load (.t 8), none⟩,
⟨some 10, .call n_value_Int [.t 9], none⟩,
⟨some 11, .eqA false [0, 0, 1, 2] (.t 7) (.t 10), none⟩,
⟨some 2, .mov (.t 11), none⟩]
[2])
.ret)
(.seq (.reg [⟨some 13, .bin .eql (.t 4) (.k (.int .i64 2)), none⟩,
⟨some 12, .mov (.t 13), none⟩]
[1, 4, 12])
(.cond (.t 12)
(.seq (.dreg [⟨some 14, .loadN (.t 1) 4, none⟩,
⟨some 15, .faddr (.t 1) 2, none⟩,
⟨some 16, .load (.t 15), none⟩,
⟨some 17, .call n_value_Str [.t 16], none⟩,
⟨some 18, .eqA false [0, 0, 1, 2] (.t 14) (.t 17), none⟩,
⟨some 19, .mov (.t 18), none⟩,
⟨some 20, .faddr (.t 1) 2, (some (19, true))⟩,
⟨some 21, .load (.t 20), (some (19, true))⟩,
⟨some 22, .len true (.t 21), (some (19, true))⟩,
⟨some 23, .bin .leq (.t 22) (.k (.int .i64 4096)), (some (19, true))⟩,
⟨some 24, .pick (.t 19) (.t 23) (.k (.bool false)), none⟩,
⟨some 2, .mov (.t 24), none⟩]
[2])
.ret)
(.seq (.reg [⟨some 26, .bin .eql (.t 4) (.k (.int .i64 3)), none⟩,
⟨some 25, .mov (.t 26), none⟩]
[1, 25])
(.cond (.t 25)
(.seq (.dreg [⟨some 27, .loadN (.t 1) 4, none⟩,
⟨some 28, .faddr (.t 1) 3, none⟩,
⟨some 29, .load (.t 28), none⟩,
⟨some 30, .call n_value_Bool [.t 29], none⟩,
⟨some 31, .eqA false [0, 0, 1, 2] (.t 27) (.t 30), none⟩,
⟨some 2, .mov (.t 31), none⟩]
[2])
.ret)
.skip))))))))
(.seq (.reg [⟨some 2, .mov (.k (.bool false)), none⟩]
[2])
.ret)))⟩
theorem k_value_Right : chkF Go.Proofs.Try.prog Go.Proofs.Try.f45 c_value_Right = true := by kernel_rfl
theorem pc_value_Right {G : Nat → Option AV} {args : List AV} {r : AV} (h : Runs Go.Proofs.Try.prog G c_value_Right args r) (hk : args.length = c_value_Right.k := by rfl) : PureC Go.Proofs.Try.prog G n_value_Right args r := PureC.of_runs (fn := Go.Proofs.Try.f45) (A := c_value_Right) Go.Proofs.Try.func45 k_value_Right hk h
def c_value_Str : AFun := ⟨5, 1, [.cells 2 4],
  (.seq (.reg [⟨some 2, .alloc t_api_Value 4 (.agg [.int .i64 0, .int .i64 0, .str [], .bool false]), none⟩]
[0, 2])
(.seq (.reg [⟨some 3, .mov (.t 0), none⟩,
⟨some 4, .build [.int .i64 0, .int .i64 0, .str [], .bool false] [(0, 1, .k (.int .i64 2)), (2, 1, .t 3)], none⟩,
⟨none, .store (.t 2) (.t 4) 4, none⟩]
[2])
.ret))⟩
theorem k_value_Str : chkF Go.Proofs.Try.prog Go.Proofs.Try.f59 c_value_Str = true := by kernel_rfl
theorem pc_value_Str {G : Nat → Option AV} {args : List AV} {r : AV} (h : Runs Go.Proofs.Try.prog G c_value_Str args r) (hk : args.length = c_value_Str.k := by rfl) : PureC Go.Proofs.Try.prog G n_value_Str args r := PureC.of_runs (fn := Go.Proofs.Try.f59) (A := c_value_Str) Go.Proofs.Try.func59 k_value_Str hk h
def c_slices_BinarySearchFunc_api_Slot_api_Slot_int : AFun := ⟨49, 3, [.t 6, .t 7],
  (.seq (.reg [⟨some 6, .mov (.k (.int .i64 0)), none⟩,
⟨some 7, .mov (.k (.bool false)), none⟩]
[0, 1, 2])
(.seq (.reg [⟨some 12, .mov (.t 0), none⟩,
⟨some 13, .len false (.t 12), none⟩,
⟨some 8, .mov (.t 13), none⟩]
[0, 1, 2, 8])
(.seq (.reg [⟨some 14, .mov (.t 8), none⟩,
⟨some 9, .mov (.k (.int .i64 0)), none⟩,
⟨some 10, .mov (.t 14), none⟩]
[0, 1, 2, 8, 9, 10])
(.seq (.block 0
(.loop [0, 1, 2, 8, 9, 10] [13]
  (.seq (.seq (.reg [⟨some 15, .mov (.t 9), none⟩,
⟨some 16, .mov (.t 10), none⟩,
⟨some 17, .bin .lss (.t 15) (.t 16), none⟩]
[0, 1, 2, 8, 9, 10, 17])
(.cond (.t 17)
.skip
(.exit 0)))
(.block 1
(.seq (.reg [⟨some 18, .mov (.t 9), none⟩,
⟨some 19, .mov (.t 10), none⟩,
⟨some 20, .bin .add (.t 18) (.t 19), none⟩,
⟨some 21, .conv .u64 (.t 20), none⟩,
⟨some 22, .bin .shr (.t 21) (.k (.int .u64 1)), none⟩,
⟨some 23, .conv .i64 (.t 22), none⟩,
⟨some 11, .mov (.t 23), none⟩]
[0, 1, 2, 8, 9, 10, 11])
(.seq (.reg [⟨some 24, .mov (.t 2), none⟩,
⟨some 25, .mov (.t 0), none⟩,
⟨some 26, .mov (.t 11), none⟩,
⟨some 27, .iaddr 5 (.t 25) (.t 26), none⟩,
⟨some 28, .loadN (.t 27) 5, none⟩,
⟨some 29, .mov (.t 1), none⟩,
⟨some 30, .callv (.t 24) [.t 28, .t 29], none⟩,
⟨some 31, .bin .lss (.t 30) (.k (.int .i64 0)), none⟩]
[0, 1, 2, 8, 9, 10, 11, 31])
(.cond (.t 31)
(.reg [⟨some 32, .mov (.t 11), none⟩,
⟨some 33, .bin .add (.t 32) (.k (.int .i64 1)), none⟩,
⟨some 9, .mov (.t 33), none⟩]
[0, 1, 2, 8, 9, 10])
(.reg [⟨some 34, .mov (.t 11), none⟩,
⟨some 10, .mov (.t 34), none⟩]
[0, 1, 2, 8, 9, 10]))))))))
(.seq (.reg [⟨some 35, .mov (.t 9), none⟩,
⟨some 36, .mov (.t 9), none⟩,
⟨some 37, .mov (.t 8), none⟩,
⟨some 38, .bin .lss (.t 36) (.t 37), none⟩,
⟨some 39, .mov (.t 38), none⟩,
⟨some 40, .mov (.t 2), (some (39, true))⟩,
⟨some 41, .mov (.t 0), (some (39, true))⟩,
⟨some 42, .mov (.t 9), (some (39, true))⟩,
⟨some 43, .iaddr 5 (.t 41) (.t 42), (some (39, true))⟩,
⟨some 44, .loadN (.t 43) 5, (some (39, true))⟩,
⟨some 45, .mov (.t 1), (some (39, true))⟩,
⟨some 46, .callv (.t 40) [.t 44, .t 45], (some (39, true))⟩,
⟨some 47, .bin .eql (.t 46) (.k (.int .i64 0)), (some (39, true))⟩,
⟨some 48, .pick (.t 39) (.t 47) (.k (.bool false)), none⟩,
⟨some 6, .mov (.t 35), none⟩,
⟨some 7, .mov (.t 48), none⟩]
[6, 7])
.ret)))))⟩
theorem k_slices_BinarySearchFunc_api_Slot_api_Slot_int : chkF Go.Proofs.Try.prog Go.Proofs.Try.f61 c_slices_BinarySearchFunc_api_Slot_api_Slot_int = true := by kernel_rfl
theorem pc_slices_BinarySearchFunc_api_Slot_api_Slot_int {G : Nat → Option AV} {args : List AV} {r : AV} (h : Runs Go.Proofs.Try.prog G c_slices_BinarySearchFunc_api_Slot_api_Slot_int args r) (hk : args.length = c_slices_BinarySearchFunc_api_Slot_api_Slot_int.k := by rfl) : PureC Go.Proofs.Try.prog G n_slices_BinarySearchFunc_api_Slot_api_Slot_int args r := PureC.of_runs (fn := Go.Proofs.Try.f61) (A := c_slices_BinarySearchFunc_api_Slot_api_Slot_int) Go.Proofs.Try.func61 k_slices_BinarySearchFunc_api_Slot_api_Slot_int hk h
def c_slices_CompactFunc_api_Slot_api_Slot : AFun := ⟨66, 2, [.t 4],
  (.seq (.reg [⟨some 4, .nilrow t_Sapi_Slot 1, none⟩]
[0, 1])
(.seq (.seq (.reg [⟨some 8, .mov (.t 0), none⟩,
⟨some 9, .len false (.t 8), none⟩,
⟨some 10, .bin .lss (.t 9) (.k (.int .i64 2)), none⟩]
[0, 1, 10])
(.cond (.t 10)
(.seq (.reg [⟨some 11, .mov (.t 0), none⟩,
⟨some 4, .mov (.t 11), none⟩]
[4])
.ret)
.skip))
(.seq (.seq (.reg [⟨some 5, .mov (.k (.int .i64 1)), none⟩]
[0, 1, 5])
(.block 0
(.loop [0, 1, 5] [4, 9]
  (.seq (.seq (.reg [⟨some 12, .mov (.t 5), none⟩,
⟨some 13, .mov (.t 0), none⟩,
⟨some 14, .len false (.t 13), none⟩,
⟨some 15, .bin .lss (.t 12) (.t 14), none⟩]
[0, 1, 5, 15])
(.cond (.t 15)
.skip
(.exit 0)))
(.seq (.block 1
(.seq (.dreg [⟨some 18, .mov (.t 1), none⟩,
⟨some 19, .mov (.t 0), none⟩,
⟨some 20, .mov (.t 5), none⟩,
⟨some 21, .iaddr 1 (.t 19) (.t 20), none⟩,
⟨some 22, .load (.t 21), none⟩,
⟨some 23, .mov (.t 0), none⟩,
⟨some 24, .mov (.t 5), none⟩,
⟨some 25, .bin .sub (.t 24) (.k (.int .i64 1)), none⟩,
⟨some 26, .iaddr 1 (.t 23) (.t 25), none⟩,
⟨some 27, .load (.t 26), none⟩,
⟨some 28, .callv (.t 18) [.t 22, .t 27], none⟩]
[0, 1, 5, 28])
(.cond (.t 28)
(.seq (.reg [⟨some 29, .mov (.t 0), none⟩,
⟨some 30, .mov (.t 5), none⟩,
⟨some 31, .slc 1 (.t 29) (some (.t 30)) none, none⟩,
⟨some 6, .mov (.t 31), none⟩]
[0, 1, 5, 6])
(.seq (.seq (.reg [⟨some 7, .mov (.k (.int .i64 1)), none⟩]
[0, 1, 5, 6, 7])
(.block 2
(.loop [0, 1, 5, 6, 7] [4, 9, 14, 28]
  (.seq (.seq (.reg [⟨some 32, .mov (.t 7), none⟩,
⟨some 33, .mov (.t 6), none⟩,
⟨some 34, .len false (.t 33), none⟩,
⟨some 35, .bin .lss (.t 32) (.t 34), none⟩]
[0, 1, 5, 6, 7, 35])
(.cond (.t 35)
.skip
(.exit 2)))
(.seq (.block 3
(.seq (.dreg [⟨some 38, .mov (.t 1), none⟩,
⟨some 39, .mov (.t 6), none⟩,
⟨some 40, .mov (.t 7), none⟩,
⟨some 41, .iaddr 1 (.t 39) (.t 40), none⟩,
⟨some 42, .load (.t 41), none⟩,
⟨some 43, .mov (.t 6), none⟩,
⟨some 44, .mov (.t 7), none⟩,
⟨some 45, .bin .sub (.t 44) (.k (.int .i64 1)), none⟩,
⟨some 46, .iaddr 1 (.t 43) (.t 45), none⟩,
⟨some 47, .load (.t 46), none⟩,
⟨some 48, .callv (.t 38) [.t 42, .t 47], none⟩,
⟨some 49, .un .not (.t 48), none⟩]
[0, 1, 5, 6, 7, 49])
(.cond (.t 49)
(.seq (.reg [⟨some 50, .mov (.t 0), none⟩,
⟨some 51, .mov (.t 5), none⟩,
⟨some 52, .mov (.t 6), none⟩,
⟨some 53, .mov (.t 7), none⟩,
⟨some 54, .iaddr 1 (.t 52) (.t 53), none⟩,
⟨some 55, .load (.t 54), none⟩,
⟨some 56, .iaddr 1 (.t 50) (.t 51), none⟩,
⟨none, .store (.t 56) (.t 55) 1, none⟩]
[0, 1, 5, 6, 7])
(.reg [⟨some 57, .mov (.t 5), none⟩,
⟨some 58, .bin .add (.t 57) (.k (.int .i64 1)), none⟩,
⟨some 5, .mov (.t 58), none⟩]
[0, 1, 5, 6, 7]))
.skip)))
(.reg [⟨some 36, .mov (.t 7), none⟩,
⟨some 37, .bin .add (.t 36) (.k (.int .i64 1)), none⟩,
⟨some 7, .mov (.t 37), none⟩]
[0, 1, 5, 6, 7]))))))
(.seq (.reg [⟨some 59, .mov (.t 0), none⟩,
⟨some 60, .mov (.t 5), none⟩,
⟨some 61, .slc 1 (.t 59) (some (.t 60)) none, none⟩,
⟨none, .clr 1 (.nils) (.t 61), none⟩]
[0, 5])
(.seq (.reg [⟨some 62, .mov (.t 0), none⟩,
⟨some 63, .mov (.t 5), none⟩,
⟨some 64, .slc 1 (.t 62) none (some (.t 63)), none⟩,
⟨some 4, .mov (.t 64), none⟩]
[4])
.ret))))
.skip)))
(.reg [⟨some 16, .mov (.t 5), none⟩,
⟨some 17, .bin .add (.t 16) (.k (.int .i64 1)), none⟩,
⟨some 5, .mov (.t 17), none⟩]
[0, 1, 5]))))))
(.seq (.reg [⟨some 65, .mov (.t 0), none⟩,
⟨some 4, .mov (.t 65), none⟩]
[4])
.ret))))⟩
theorem k_slices_CompactFunc_api_Slot_api_Slot : chkF Go.Proofs.Try.prog Go.Proofs.Try.f56 c_slices_CompactFunc_api_Slot_api_Slot = true := by kernel_rfl
theorem hc_slices_CompactFunc_api_Slot_api_Slot {G : Nat → Option AV} {args : List AV} {r : AV} {H H1 : List (Nat × Box)} (h : RunsH Go.Proofs.Try.prog G c_slices_CompactFunc_api_Slot_api_Slot args H r H1) (hk : args.length = c_slices_CompactFunc_api_Slot_api_Slot.k := by rfl) (hh : highB c_slices_CompactFunc_api_Slot_api_Slot.N H = true := by rfl) : HeapC Go.Proofs.Try.prog G n_slices_CompactFunc_api_Slot_api_Slot args H r H1 := HeapC.of_runs (fn := Go.Proofs.Try.f56) (A := c_slices_CompactFunc_api_Slot_api_Slot) Go.Proofs.Try.func56 k_slices_CompactFunc_api_Slot_api_Slot hk hh h
def c_slices_Concat_api_Slot_api_Slot : AFun := ⟨36, 1, [.t 2],
  (.seq (.reg [⟨some 2, .nilrow t_api_Slot 5, none⟩]
[0])
(.seq (.reg [⟨some 3, .mov (.k (.int .i64 0)), none⟩]
[0, 3])
(.seq (.seq (.reg [⟨some 9, .mov (.t 0), none⟩,
⟨some 10, .len false (.t 9), none⟩,
⟨some 11, .mov (.k (.int .i64 0)), none⟩]
[0, 3, 9, 10, 11])
(.block 0
(.loop [0, 3, 9, 10, 11] [2, 10]
  (.seq (.reg [⟨some 12, .bin .lss (.t 11) (.t 10), none⟩]
[0, 3, 9, 10, 11, 12])
(.seq (.cond (.t 12)
.skip
(.exit 0))
(.seq (.block 1
(.seq (.reg [⟨some 13, .iaddr 1 (.t 9) (.t 11), none⟩,
⟨some 14, .load (.t 13), none⟩,
⟨some 5, .mov (.t 14), none⟩]
[0, 3, 5, 9, 10, 11])
(.seq (.reg [⟨some 15, .mov (.t 3), none⟩,
⟨some 16, .mov (.t 5), none⟩,
⟨some 17, .len false (.t 16), none⟩,
⟨some 18, .bin .add (.t 15) (.t 17), none⟩,
⟨some 3, .mov (.t 18), none⟩]
[0, 3, 9, 10, 11])
(.seq (.reg [⟨some 19, .mov (.t 3), none⟩,
⟨some 20, .bin .lss (.t 19) (.k (.int .i64 0)), none⟩]
[0, 3, 9, 10, 11, 20])
(.cond (.t 20)
(.reg [⟨some 21, .mki t_string (.k (.str [108, 101, 110, 32, 111, 117, 116, 32, 111, 102, 32, 114, 97, 110, 103, 101])), none⟩,
⟨none, .bad, none⟩]
[0, 3, 9, 10, 11])
.skip)))))
(.reg [⟨some 22, .bin .add (.t 11) (.k (.int .i64 1)), none⟩,
⟨some 11, .mov (.t 22), none⟩]
[0, 3, 9, 10, 11])))))))
(.seq (.reg [⟨some 23, .mov (.t 3), none⟩,
⟨some 24, .call n_slices_Grow_api_Slot_api_Slot [.k (.nils), .t 23], none⟩,
⟨some 6, .mov (.t 24), none⟩]
[0, 6])
(.seq (.seq (.reg [⟨some 25, .mov (.t 0), none⟩,
⟨some 26, .len false (.t 25), none⟩,
⟨some 27, .mov (.k (.int .i64 0)), none⟩]
[6, 25, 26, 27])
(.block 2
(.loop [6, 25, 26, 27] [2, 10, 17, 24, 26, 33]
  (.seq (.reg [⟨some 28, .bin .lss (.t 27) (.t 26), none⟩]
[6, 25, 26, 27, 28])
(.seq (.cond (.t 28)
.skip
(.exit 2))
(.seq (.block 3
(.seq (.reg [⟨some 29, .iaddr 1 (.t 25) (.t 27), none⟩,
⟨some 30, .load (.t 29), none⟩,
⟨some 8, .mov (.t 30), none⟩]
[6, 8, 25, 26, 27])
(.reg [⟨some 31, .mov (.t 6), none⟩,
⟨some 32, .mov (.t 8), none⟩,
⟨some 33, .app t_api_Slot 5 48 (.t 31) (.t 32), none⟩,
⟨some 6, .mov (.t 33), none⟩]
[6, 25, 26, 27])))
(.reg [⟨some 34, .bin .add (.t 27) (.k (.int .i64 1)), none⟩,
⟨some 27, .mov (.t 34), none⟩]
[6, 25, 26, 27])))))))
(.seq (.reg [⟨some 35, .mov (.t 6), none⟩,
⟨some 2, .mov (.t 35), none⟩]
[2])
.ret))))))⟩
theorem k_slices_Concat_api_Slot_api_Slot : chkF Go.Proofs.Try.prog Go.Proofs.Try.f30 c_slices_Concat_api_Slot_api_Slot = true := by kernel_rfl
theorem pc_slices_Concat_api_Slot_api_Slot {G : Nat → Option AV} {args : List AV} {r : AV} (h : Runs Go.Proofs.Try.prog G c_slices_Concat_api_Slot_api_Slot args r) (hk : args.length = c_slices_Concat_api_Slot_api_Slot.k := by rfl) : PureC Go.Proofs.Try.prog G n_slices_Concat_api_Slot_api_Slot args r := PureC.of_runs (fn := Go.Proofs.Try.f30) (A := c_slices_Concat_api_Slot_api_Slot) Go.Proofs.Try.func30 k_slices_Concat_api_Slot_api_Slot hk h
def c_slices_Contains_int_int : AFun := ⟨9, 2, [.t 4],
  (.seq (.reg [⟨some 4, .mov (.k (.bool false)), none⟩]
[0, 1])
(.seq (.reg [⟨some 5, .mov (.t 0), none⟩,
⟨some 6, .mov (.t 1), none⟩,
⟨some 7, .call n_slices_Index_int_int [.t 5, .t 6], none⟩,
⟨some 8, .bin .geq (.t 7) (.k (.int .i64 0)), none⟩,
⟨some 4, .mov (.t 8), none⟩]
[4])
.ret))⟩
theorem k_slices_Contains_int_int : chkF Go.Proofs.Try.prog Go.Proofs.Try.f42 c_slices_Contains_int_int = true := by kernel_rfl
theorem pc_slices_Contains_int_int {G : Nat → Option AV} {args : List AV} {r : AV} (h : Runs Go.Proofs.Try.prog G c_slices_Contains_int_int args r) (hk : args.length = c_slices_Contains_int_int.k := by rfl) : PureC Go.Proofs.Try.prog G n_slices_Contains_int_int args r := PureC.of_runs (fn := Go.Proofs.Try.f42) (A := c_slices_Contains_int_int) Go.Proofs.Try.func42 k_slices_Contains_int_int hk h
def c_slices_Equal_api_Slot_api_Slot : AFun := ⟨26, 2, [.t 4],
  (.seq (.reg [⟨some 4, .mov (.k (.bool false)), none⟩]
[0, 1])
(.seq (.seq (.reg [⟨some 6, .mov (.t 0), none⟩,
⟨some 7, .len false (.t 6), none⟩,
⟨some 8, .mov (.t 1), none⟩,
⟨some 9, .len false (.t 8), none⟩,
⟨some 10, .bin .neq (.t 7) (.t 9), none⟩]
[0, 1, 10])
(.cond (.t 10)
(.seq (.reg [⟨some 4, .mov (.k (.bool false)), none⟩]
[4])
.ret)
.skip))
(.seq (.seq (.reg [⟨some 11, .mov (.t 0), none⟩,
⟨some 12, .len false (.t 11), none⟩,
⟨some 13, .mov (.k (.int .i64 0)), none⟩]
[0, 1, 12, 13])
(.block 0
(.loop [0, 1, 12, 13] [7, 9, 12]
  (.seq (.reg [⟨some 14, .bin .lss (.t 13) (.t 12), none⟩]
[0, 1, 12, 13, 14])
(.seq (.cond (.t 14)
.skip
(.exit 0))
(.seq (.block 1
(.seq (.reg [⟨some 15, .mov (.t 13), none⟩,
⟨some 5, .mov (.t 15), none⟩]
[0, 1, 5, 12, 13])
(.seq (.dreg [⟨some 16, .mov (.t 0), none⟩,
⟨some 17, .mov (.t 5), none⟩,
⟨some 18, .iaddr 5 (.t 16) (.t 17), none⟩,
⟨some 19, .loadN (.t 18) 5, none⟩,
⟨some 20, .mov (.t 1), none⟩,
⟨some 21, .mov (.t 5), none⟩,
⟨some 22, .iaddr 5 (.t 20) (.t 21), none⟩,
⟨some 23, .loadN (.t 22) 5, none⟩,
⟨some 24, .eqA true [0, 0, 0, 1, 2] (.t 19) (.t 23), none⟩]
[0, 1, 12, 13, 24])
(.cond (.t 24)
(.seq (.reg [⟨some 4, .mov (.k (.bool false)), none⟩]
[4])
.ret)
.skip))))
(.reg [⟨some 25, .bin .add (.t 13) (.k (.int .i64 1)), none⟩,
⟨some 13, .mov (.t 25), none⟩]
[0, 1, 12, 13])))))))
(.seq (.reg [⟨some 4, .mov (.k (.bool true)), none⟩]
[4])
.ret))))⟩
theorem k_slices_Equal_api_Slot_api_Slot : chkF Go.Proofs.Try.prog Go.Proofs.Try.f32 c_slices_Equal_api_Slot_api_Slot = true := by kernel_rfl
theorem pc_slices_Equal_api_Slot_api_Slot {G : Nat → Option AV} {args : List AV} {r : AV} (h : Runs Go.Proofs.Try.prog G c_slices_Equal_api_Slot_api_Slot args r) (hk : args.length = c_slices_Equal_api_Slot_api_Slot.k := by rfl) : PureC Go.Proofs.Try.prog G n_slices_Equal_api_Slot_api_Slot args r := PureC.of_runs (fn := Go.Proofs.Try.f32) (A := c_slices_Equal_api_Slot_api_Slot) Go.Proofs.Try.func32 k_slices_Equal_api_Slot_api_Slot hk h
def c_slices_Index_int_int : AFun := ⟨19, 2, [.t 4],
  (.seq (.reg [⟨some 4, .mov (.k (.int .i64 0)), none⟩]
[0, 1])
(.seq (.seq (.reg [⟨some 6, .mov (.t 0), none⟩,
⟨some 7, .len false (.t 6), none⟩,
⟨some 8, .mov (.k (.int .i64 0)), none⟩]
[0, 1, 7, 8])
(.block 0
(.loop [0, 1, 7, 8] [7]
  (.seq (.reg [⟨some 9, .bin .lss (.t 8) (.t 7), none⟩]
[0, 1, 7, 8, 9])
(.seq (.cond (.t 9)
.skip
(.exit 0))
(.seq (.block 1
(.seq (.reg [⟨some 10, .mov (.t 8), none⟩,
⟨some 5, .mov (.t 10), none⟩]
[0, 1, 5, 7, 8])
(.seq (.reg [⟨some 11, .mov (.t 1), none⟩,
⟨some 12, .mov (.t 0), none⟩,
⟨some 13, .mov (.t 5), none⟩,
⟨some 14, .iaddr 1 (.t 12) (.t 13), none⟩,
⟨some 15, .load (.t 14), none⟩,
⟨some 16, .bin .eql (.t 11) (.t 15), none⟩]
[0, 1, 5, 7, 8, 16])
(.cond (.t 16)
(.seq (.reg [⟨some 17, .mov (.t 5), none⟩,
⟨some 4, .mov (.t 17), none⟩]
[4])
.ret)
.skip))))
(.reg [⟨some 18, .bin .add (.t 8) (.k (.int .i64 1)), none⟩,
⟨some 8, .mov (.t 18), none⟩]
[0, 1, 7, 8])))))))
(.seq (.reg [⟨some 4, .mov (.k (.int .i64 (-1))), none⟩]
[4])
.ret)))⟩
theorem k_slices_Index_int_int : chkF Go.Proofs.Try.prog Go.Proofs.Try.f57 c_slices_Index_int_int = true := by kernel_rfl
theorem pc_slices_Index_int_int {G : Nat → Option AV} {args : List AV} {r : AV} (h : Runs Go.Proofs.Try.prog G c_slices_Index_int_int args r) (hk : args.length = c_slices_Index_int_int.k := by rfl) : PureC Go.Proofs.Try.prog G n_slices_Index_int_int args r := PureC.of_runs (fn := Go.Proofs.Try.f57) (A := c_slices_Index_int_int) Go.Proofs.Try.func57 k_slices_Index_int_int hk h
end Go.Proofs.Ytjkdpahaingjjaa.Ab
