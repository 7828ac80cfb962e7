/-
  The functions' abstract code, by program (acgen.py), and that the model's code is it, reckoned by the kernel.
-/
import Derived.Test.YtdfdiglnpekcpaaDoorAbRun
import Derived.Test.YtdfdiglnpekcpaaDoorProg
namespace Go.Proofs.YtdfdiglnpekcpaaDoor.Ab
open Go

abbrev t_int : Nat := 3
abbrev t_string : Nat := 9
abbrev t_driver_Outcome : Nat := 27
abbrev t_report_Count : Nat := 31
abbrev t_proctorref42_Count : Nat := 33
abbrev n_proctorlaw42_ReportTexts : Nat := 3
abbrev n_proctorref32_Right : Nat := 5
abbrev n_proctorlaw42_awake : Nat := 6
abbrev n_report_Of : Nat := 7
abbrev n_proctorref42_Of : Nat := 8
abbrev n_report_Text : Nat := 9
abbrev n_proctorref42_Text : Nat := 10
abbrev n_report_Worst : Nat := 16
abbrev n_verdict_IsTrue : Nat := 17
abbrev n_verdict_IsSure : Nat := 18
abbrev n_verdict_Name : Nat := 22
abbrev n_proctorref42_text : Nat := 23
abbrev n_proctorref32_Name : Nat := 24
abbrev n_report_Best_driver_Outcome : Nat := 39
abbrev n_report_Worst_1 : Nat := 40
abbrev n_num_Text : Nat := 42
abbrev n_proctorref01_Text : Nat := 43
abbrev n_strconv_FormatInt : Nat := 56

def c_verdict_IsTrue : AFun := ⟨9, 1, [.t 2],
  (.seq (.reg [⟨some 2, .mov (.k (.bool false)), none⟩]
[0])
(.seq (.reg [⟨some 3, .mov (.t 0), none⟩,
⟨some 4, .bin .eql (.t 3) (.k (.int .i64 1)), none⟩,
⟨some 5, .mov (.t 4), none⟩,
⟨some 6, .mov (.t 0), (some (5, false))⟩,
⟨some 7, .bin .eql (.t 6) (.k (.int .i64 2)), (some (5, false))⟩,
⟨some 8, .pick (.t 5) (.k (.bool true)) (.t 7), none⟩,
⟨some 2, .mov (.t 8), none⟩]
[2])
.ret))⟩
theorem k_verdict_IsTrue : chkF Go.Proofs.Tryd.prog Go.Proofs.Tryd.f17 c_verdict_IsTrue = true := by kernel_rfl
theorem pc_verdict_IsTrue {G : Nat → Option AV} {args : List AV} {r : AV} (h : Runs Go.Proofs.Tryd.prog G c_verdict_IsTrue args r) (hk : args.length = c_verdict_IsTrue.k := by rfl) : PureC Go.Proofs.Tryd.prog G n_verdict_IsTrue args r := PureC.of_runs Go.Proofs.Tryd.func17 k_verdict_IsTrue hk h

def c_verdict_IsSure : AFun := ⟨9, 1, [.t 2],
  (.seq (.reg [⟨some 2, .mov (.k (.bool false)), none⟩]
[0])
(.seq (.reg [⟨some 3, .mov (.t 0), none⟩,
⟨some 4, .bin .eql (.t 3) (.k (.int .i64 1)), none⟩,
⟨some 5, .mov (.t 4), none⟩,
⟨some 6, .mov (.t 0), (some (5, false))⟩,
⟨some 7, .bin .eql (.t 6) (.k (.int .i64 4)), (some (5, false))⟩,
⟨some 8, .pick (.t 5) (.k (.bool true)) (.t 7), none⟩,
⟨some 2, .mov (.t 8), none⟩]
[2])
.ret))⟩
theorem k_verdict_IsSure : chkF Go.Proofs.Tryd.prog Go.Proofs.Tryd.f18 c_verdict_IsSure = true := by kernel_rfl
theorem pc_verdict_IsSure {G : Nat → Option AV} {args : List AV} {r : AV} (h : Runs Go.Proofs.Tryd.prog G c_verdict_IsSure args r) (hk : args.length = c_verdict_IsSure.k := by rfl) : PureC Go.Proofs.Tryd.prog G n_verdict_IsSure args r := PureC.of_runs Go.Proofs.Tryd.func18 k_verdict_IsSure hk h

def c_report_Of : AFun := ⟨53, 1, [.cells 2 5],
  (.seq (.reg [⟨some 2, .alloc t_report_Count 5 (.agg [.int .i64 0, .int .i64 0, .int .i64 0, .int .i64 0, .int .i64 0]), none⟩]
[0, 2])
(.seq (.reg [⟨some 6, .mov (.t 0), none⟩,
⟨some 7, .len false (.t 6), none⟩,
⟨some 8, .build [.int .i64 0, .int .i64 0, .int .i64 0, .int .i64 0, .int .i64 0] [(0, 1, .t 7)], none⟩,
⟨some 3, .alloc t_report_Count 5 (.agg [.int .i64 0, .int .i64 0, .int .i64 0, .int .i64 0, .int .i64 0]), none⟩,
⟨none, .store (.t 3) (.t 8) 5, none⟩]
[0, 2, 3])
(.seq (.seq (.reg [⟨some 9, .mov (.t 0), none⟩,
⟨some 10, .len false (.t 9), none⟩,
⟨some 11, .mov (.k (.int .i64 0)), none⟩]
[0, 2, 3, 9, 10, 11])
(.block 0
(.loop [0, 2, 3, 9, 10, 11] [2, 7, 3, 10]
  (.seq (.reg [⟨some 12, .bin .lss (.t 11) (.t 10), none⟩]
[0, 2, 3, 9, 10, 11, 12])
(.seq (.cond (.t 12)
.skip
(.exit 0))
(.seq (.block 1
(.seq (.reg [⟨some 13, .mov (.t 11), none⟩,
⟨some 14, .iaddr 1 (.t 9) (.t 11), none⟩,
⟨some 15, .load (.t 14), none⟩,
⟨some 4, .mov (.t 13), none⟩,
⟨some 5, .mov (.t 15), none⟩]
[0, 2, 3, 4, 5, 9, 10, 11])
(.seq (.seq (.reg [⟨some 16, .mov (.t 5), none⟩,
⟨some 17, .call n_verdict_IsTrue [.t 16], none⟩]
[0, 2, 3, 4, 5, 9, 10, 11, 17])
(.cond (.t 17)
(.reg [⟨some 18, .faddr (.t 3) 1, none⟩,
⟨some 19, .load (.t 18), none⟩,
⟨some 20, .bin .add (.t 19) (.k (.int .i64 1)), none⟩,
⟨some 21, .faddr (.t 3) 1, none⟩,
⟨none, .store (.t 21) (.t 20) 1, none⟩]
[0, 2, 3, 4, 5, 9, 10, 11])
.skip))
(.seq (.seq (.dreg [⟨some 22, .mov (.t 4), none⟩,
⟨some 23, .bin .gtr (.t 22) (.k (.int .i64 0)), none⟩,
⟨some 24, .mov (.t 23), none⟩,
⟨some 25, .mov (.t 5), (some (24, true))⟩,
⟨some 26, .call n_verdict_IsTrue [.t 25], (some (24, true))⟩,
⟨some 27, .mov (.t 0), (some (24, true))⟩,
⟨some 28, .mov (.t 4), (some (24, true))⟩,
⟨some 29, .bin .sub (.t 28) (.k (.int .i64 1)), (some (24, true))⟩,
⟨some 30, .iaddr 1 (.t 27) (.t 29), (some (24, true))⟩,
⟨some 31, .load (.t 30), (some (24, true))⟩,
⟨some 32, .call n_verdict_IsTrue [.t 31], (some (24, true))⟩,
⟨some 33, .eqB true (.t 26) (.t 32), (some (24, true))⟩,
⟨some 34, .pick (.t 24) (.t 33) (.k (.bool false)), none⟩]
[0, 2, 3, 4, 5, 9, 10, 11, 34])
(.cond (.t 34)
(.reg [⟨some 35, .faddr (.t 3) 2, none⟩,
⟨some 36, .load (.t 35), none⟩,
⟨some 37, .bin .add (.t 36) (.k (.int .i64 1)), none⟩,
⟨some 38, .faddr (.t 3) 2, none⟩,
⟨none, .store (.t 38) (.t 37) 1, none⟩]
[0, 2, 3, 4, 5, 9, 10, 11])
.skip))
(.seq (.seq (.reg [⟨some 39, .faddr (.t 3) 3, none⟩,
⟨some 40, .load (.t 39), none⟩,
⟨some 41, .bin .eql (.t 40) (.k (.int .i64 0)), none⟩,
⟨some 42, .mov (.t 41), none⟩,
⟨some 43, .mov (.t 5), (some (42, true))⟩,
⟨some 44, .call n_verdict_IsSure [.t 43], (some (42, true))⟩,
⟨some 45, .pick (.t 42) (.t 44) (.k (.bool false)), none⟩]
[0, 2, 3, 4, 5, 9, 10, 11, 45])
(.cond (.t 45)
(.reg [⟨some 46, .mov (.t 4), none⟩,
⟨some 47, .bin .add (.t 46) (.k (.int .i64 1)), none⟩,
⟨some 48, .faddr (.t 3) 3, none⟩,
⟨none, .store (.t 48) (.t 47) 1, none⟩]
[0, 2, 3, 5, 9, 10, 11])
.skip))
(.reg [⟨some 49, .mov (.t 5), none⟩,
⟨some 50, .faddr (.t 3) 4, none⟩,
⟨none, .store (.t 50) (.t 49) 1, none⟩]
[0, 2, 3, 9, 10, 11]))))))
(.reg [⟨some 51, .bin .add (.t 11) (.k (.int .i64 1)), none⟩,
⟨some 11, .mov (.t 51), none⟩]
[0, 2, 3, 9, 10, 11])))))))
(.seq (.reg [⟨some 52, .loadN (.t 3) 5, none⟩,
⟨none, .store (.t 2) (.t 52) 5, none⟩]
[2])
.ret))))⟩
theorem k_report_Of : chkF Go.Proofs.Tryd.prog Go.Proofs.Tryd.f7 c_report_Of = true := by kernel_rfl
theorem pc_report_Of {G : Nat → Option AV} {args : List AV} {r : AV} (h : Runs Go.Proofs.Tryd.prog G c_report_Of args r) (hk : args.length = c_report_Of.k := by rfl) : PureC Go.Proofs.Tryd.prog G n_report_Of args r := PureC.of_runs Go.Proofs.Tryd.func7 k_report_Of hk h

def c_report_Best_driver_Outcome : AFun := ⟨29, 2, [.t 4],
  (.seq (.reg [⟨some 4, .mov (.k (.int .i64 0)), none⟩]
[0, 1])
(.seq (.reg [⟨some 5, .mov (.k (.int .i64 (-1))), none⟩]
[0, 1, 5])
(.seq (.seq (.reg [⟨some 8, .mov (.t 0), none⟩,
⟨some 9, .len false (.t 8), none⟩,
⟨some 10, .mov (.k (.int .i64 0)), none⟩]
[0, 1, 5, 8, 9, 10])
(.block 0
(.loop [0, 1, 5, 8, 9, 10] [9]
  (.seq (.reg [⟨some 11, .bin .lss (.t 10) (.t 9), none⟩]
[0, 1, 5, 8, 9, 10, 11])
(.seq (.cond (.t 11)
.skip
(.exit 0))
(.seq (.block 1
(.seq (.reg [⟨some 12, .mov (.t 10), none⟩,
⟨some 13, .iaddr 5 (.t 8) (.t 10), none⟩,
⟨some 14, .loadN (.t 13) 5, none⟩,
⟨some 7, .alloc t_driver_Outcome 5 (.agg [.nils, .int .i64 0, .int .i64 0, .int .i64 0, .int .i64 0]), none⟩,
⟨some 6, .mov (.t 12), none⟩,
⟨none, .store (.t 7) (.t 14) 5, none⟩]
[0, 1, 5, 6, 7, 8, 9, 10])
(.seq (.dreg [⟨some 15, .mov (.t 5), none⟩,
⟨some 16, .bin .lss (.t 15) (.k (.int .i64 0)), none⟩,
⟨some 17, .mov (.t 16), none⟩,
⟨some 18, .mov (.t 1), (some (17, false))⟩,
⟨some 19, .loadN (.t 7) 5, (some (17, false))⟩,
⟨some 20, .mov (.t 0), (some (17, false))⟩,
⟨some 21, .mov (.t 5), (some (17, false))⟩,
⟨some 22, .iaddr 5 (.t 20) (.t 21), (some (17, false))⟩,
⟨some 23, .loadN (.t 22) 5, (some (17, false))⟩,
⟨some 24, .callv (.t 18) [.t 19, .t 23], (some (17, false))⟩,
⟨some 25, .pick (.t 17) (.k (.bool true)) (.t 24), none⟩]
[0, 1, 5, 6, 8, 9, 10, 25])
(.cond (.t 25)
(.reg [⟨some 26, .mov (.t 6), none⟩,
⟨some 5, .mov (.t 26), none⟩]
[0, 1, 5, 8, 9, 10])
.skip))))
(.reg [⟨some 27, .bin .add (.t 10) (.k (.int .i64 1)), none⟩,
⟨some 10, .mov (.t 27), none⟩]
[0, 1, 5, 8, 9, 10])))))))
(.seq (.reg [⟨some 28, .mov (.t 5), none⟩,
⟨some 4, .mov (.t 28), none⟩]
[4])
.ret))))⟩
theorem k_report_Best_driver_Outcome : chkF Go.Proofs.Tryd.prog Go.Proofs.Tryd.f39 c_report_Best_driver_Outcome = true := by kernel_rfl
theorem pc_report_Best_driver_Outcome {G : Nat → Option AV} {args : List AV} {r : AV} (h : Runs Go.Proofs.Tryd.prog G c_report_Best_driver_Outcome args r) (hk : args.length = c_report_Best_driver_Outcome.k := by rfl) : PureC Go.Proofs.Tryd.prog G n_report_Best_driver_Outcome args r := PureC.of_runs Go.Proofs.Tryd.func39 k_report_Best_driver_Outcome hk h

def c_report_Worst_1 : AFun := ⟨14, 2, [.t 4],
  (.seq (.reg [⟨some 2, .box t_driver_Outcome 5 (.t 0), none⟩,
⟨some 3, .box t_driver_Outcome 5 (.t 1), none⟩,
⟨some 4, .mov (.k (.bool false)), none⟩]
[2, 3])
(.seq (.dreg [⟨some 5, .faddr (.t 2) 0, none⟩,
⟨some 6, .load (.t 5), none⟩,
⟨some 7, .call n_report_Of [.t 6], none⟩,
⟨some 8, .fld (.t 7) 4, none⟩,
⟨some 9, .faddr (.t 3) 0, none⟩,
⟨some 10, .load (.t 9), none⟩,
⟨some 11, .call n_report_Of [.t 10], none⟩,
⟨some 12, .fld (.t 11) 4, none⟩,
⟨some 13, .bin .gtr (.t 8) (.t 12), none⟩,
⟨some 4, .mov (.t 13), none⟩]
[4])
.ret))⟩
theorem k_report_Worst_1 : chkF Go.Proofs.Tryd.prog Go.Proofs.Tryd.f40 c_report_Worst_1 = true := by kernel_rfl
theorem pc_report_Worst_1 {G : Nat → Option AV} {args : List AV} {r : AV} (h : Runs Go.Proofs.Tryd.prog G c_report_Worst_1 args r) (hk : args.length = c_report_Worst_1.k := by rfl) : PureC Go.Proofs.Tryd.prog G n_report_Worst_1 args r := PureC.of_runs Go.Proofs.Tryd.func40 k_report_Worst_1 hk h

def c_report_Worst : AFun := ⟨5, 1, [.t 2],
  (.seq (.reg [⟨some 2, .mov (.k (.int .i64 0)), none⟩]
[0])
(.seq (.reg [⟨some 3, .mov (.t 0), none⟩,
⟨some 4, .call n_report_Best_driver_Outcome [.t 3, .f n_report_Worst_1], none⟩,
⟨some 2, .mov (.t 4), none⟩]
[2])
.ret))⟩
theorem k_report_Worst : chkF Go.Proofs.Tryd.prog Go.Proofs.Tryd.f16 c_report_Worst = true := by kernel_rfl
theorem pc_report_Worst {G : Nat → Option AV} {args : List AV} {r : AV} (h : Runs Go.Proofs.Tryd.prog G c_report_Worst args r) (hk : args.length = c_report_Worst.k := by rfl) : PureC Go.Proofs.Tryd.prog G n_report_Worst args r := PureC.of_runs Go.Proofs.Tryd.func16 k_report_Worst hk h

def c_proctorref32_Right : AFun := ⟨22, 1, [.t 2],
  (.seq (.reg [⟨some 2, .mov (.k (.bool false)), none⟩]
[0])
(.seq (.seq (.reg [⟨some 3, .mov (.k (.int .i64 0)), none⟩]
[0, 3])
(.block 0
(.loop [0, 3] []
  (.seq (.seq (.reg [⟨some 4, .mov (.t 3), none⟩,
⟨some 5, .mov (.t 0), none⟩,
⟨some 6, .len false (.t 5), none⟩,
⟨some 7, .bin .lss (.t 4) (.t 6), none⟩]
[0, 3, 7])
(.cond (.t 7)
.skip
(.exit 0)))
(.seq (.block 1
(.seq (.reg [⟨some 10, .mov (.t 0), none⟩,
⟨some 11, .mov (.t 3), none⟩,
⟨some 12, .iaddr 1 (.t 10) (.t 11), none⟩,
⟨some 13, .load (.t 12), none⟩,
⟨some 14, .bin .lss (.t 13) (.k (.int .i64 1)), none⟩,
⟨some 15, .mov (.t 14), none⟩,
⟨some 16, .mov (.t 0), (some (15, false))⟩,
⟨some 17, .mov (.t 3), (some (15, false))⟩,
⟨some 18, .iaddr 1 (.t 16) (.t 17), (some (15, false))⟩,
⟨some 19, .load (.t 18), (some (15, false))⟩,
⟨some 20, .bin .gtr (.t 19) (.k (.int .i64 4)), (some (15, false))⟩,
⟨some 21, .pick (.t 15) (.k (.bool true)) (.t 20), none⟩]
[0, 3, 21])
(.cond (.t 21)
(.seq (.reg [⟨some 2, .mov (.k (.bool false)), none⟩]
[2])
.ret)
.skip)))
(.reg [⟨some 8, .mov (.t 3), none⟩,
⟨some 9, .bin .add (.t 8) (.k (.int .i64 1)), none⟩,
⟨some 3, .mov (.t 9), none⟩]
[0, 3]))))))
(.seq (.reg [⟨some 2, .mov (.k (.bool true)), none⟩]
[2])
.ret)))⟩
theorem k_proctorref32_Right : chkF Go.Proofs.Tryd.prog Go.Proofs.Tryd.f5 c_proctorref32_Right = true := by kernel_rfl
theorem pc_proctorref32_Right {G : Nat → Option AV} {args : List AV} {r : AV} (h : Runs Go.Proofs.Tryd.prog G c_proctorref32_Right args r) (hk : args.length = c_proctorref32_Right.k := by rfl) : PureC Go.Proofs.Tryd.prog G n_proctorref32_Right args r := PureC.of_runs Go.Proofs.Tryd.func5 k_proctorref32_Right hk h

def c_proctorlaw42_awake : AFun := ⟨11, 0, [.t 0],
  (.seq (.reg [⟨some 0, .mov (.k (.bool false)), none⟩]
[])
(.seq (.reg [⟨some 2, .mkrow t_int 1 2 (.int .i64 0) [(0, .k (.int .i64 2)), (1, .k (.int .i64 4))], none⟩,
⟨some 3, .call n_report_Of [.t 2], none⟩,
⟨some 1, .alloc t_report_Count 5 (.agg [.int .i64 0, .int .i64 0, .int .i64 0, .int .i64 0, .int .i64 0]), none⟩,
⟨none, .store (.t 1) (.t 3) 5, none⟩]
[1])
(.seq (.reg [⟨some 4, .loadN (.t 1) 5, none⟩,
⟨some 5, .build [.int .i64 0, .int .i64 0, .int .i64 0, .int .i64 0, .int .i64 0] [(0, 1, .k (.int .i64 2)), (1, 1, .k (.int .i64 1)), (2, 1, .k (.int .i64 1)), (3, 1, .k (.int .i64 2)), (4, 1, .k (.int .i64 4))], none⟩,
⟨some 6, .eqA false [0, 0, 0, 0, 0] (.t 4) (.t 5), none⟩,
⟨some 7, .mov (.t 6), none⟩,
⟨some 8, .call n_report_Worst [.k (.nils)], (some (7, true))⟩,
⟨some 9, .bin .eql (.t 8) (.k (.int .i64 (-1))), (some (7, true))⟩,
⟨some 10, .pick (.t 7) (.t 9) (.k (.bool false)), none⟩,
⟨some 0, .mov (.t 10), none⟩]
[0])
.ret)))⟩
theorem k_proctorlaw42_awake : chkF Go.Proofs.Tryd.prog Go.Proofs.Tryd.f6 c_proctorlaw42_awake = true := by kernel_rfl
theorem pc_proctorlaw42_awake {G : Nat → Option AV} {args : List AV} {r : AV} (h : Runs Go.Proofs.Tryd.prog G c_proctorlaw42_awake args r) (hk : args.length = c_proctorlaw42_awake.k := by rfl) : PureC Go.Proofs.Tryd.prog G n_proctorlaw42_awake args r := PureC.of_runs Go.Proofs.Tryd.func6 k_proctorlaw42_awake hk h

def c_proctorlaw42_ReportTexts : AFun := ⟨75, 1, [.t 2],
  (.seq (.reg [⟨some 1, .box t_driver_Outcome 5 (.t 0), none⟩,
⟨some 2, .mov (.k (.bool false)), none⟩]
[1])
(.seq (.seq (.reg [⟨some 5, .faddr (.t 1) 0, none⟩,
⟨some 6, .load (.t 5), none⟩,
⟨some 7, .len false (.t 6), none⟩,
⟨some 8, .bin .gtr (.t 7) (.k (.int .i64 200)), none⟩,
⟨some 9, .mov (.t 8), none⟩,
⟨some 10, .faddr (.t 1) 0, (some (9, false))⟩,
⟨some 11, .load (.t 10), (some (9, false))⟩,
⟨some 12, .call n_proctorref32_Right [.t 11], (some (9, false))⟩,
⟨some 13, .un .not (.t 12), (some (9, false))⟩,
⟨some 14, .pick (.t 9) (.k (.bool true)) (.t 13), none⟩]
[1, 14])
(.cond (.t 14)
(.seq (.reg [⟨some 15, .call n_proctorlaw42_awake [], none⟩,
⟨some 2, .mov (.t 15), none⟩]
[2])
.ret)
.skip))
(.seq (.reg [⟨some 16, .faddr (.t 1) 0, none⟩,
⟨some 17, .load (.t 16), none⟩,
⟨some 18, .call n_report_Of [.t 17], none⟩,
⟨some 3, .alloc t_report_Count 5 (.agg [.int .i64 0, .int .i64 0, .int .i64 0, .int .i64 0, .int .i64 0]), none⟩,
⟨none, .store (.t 3) (.t 18) 5, none⟩]
[1, 3])
(.seq (.reg [⟨some 19, .faddr (.t 1) 0, none⟩,
⟨some 20, .load (.t 19), none⟩,
⟨some 21, .call n_proctorref42_Of [.t 20], none⟩,
⟨some 4, .alloc t_proctorref42_Count 5 (.agg [.int .i64 0, .int .i64 0, .int .i64 0, .int .i64 0, .int .i64 0]), none⟩,
⟨none, .store (.t 4) (.t 21) 5, none⟩]
[1, 3, 4])
(.seq (.seq (.reg [⟨some 22, .faddr (.t 3) 0, none⟩,
⟨some 23, .load (.t 22), none⟩,
⟨some 24, .faddr (.t 4) 0, none⟩,
⟨some 25, .load (.t 24), none⟩,
⟨some 26, .bin .neq (.t 23) (.t 25), none⟩,
⟨some 27, .mov (.t 26), none⟩,
⟨some 28, .faddr (.t 3) 1, (some (27, false))⟩,
⟨some 29, .load (.t 28), (some (27, false))⟩,
⟨some 30, .faddr (.t 4) 1, (some (27, false))⟩,
⟨some 31, .load (.t 30), (some (27, false))⟩,
⟨some 32, .bin .neq (.t 29) (.t 31), (some (27, false))⟩,
⟨some 33, .pick (.t 27) (.k (.bool true)) (.t 32), none⟩,
⟨some 34, .mov (.t 33), none⟩,
⟨some 35, .faddr (.t 3) 2, (some (34, false))⟩,
⟨some 36, .load (.t 35), (some (34, false))⟩,
⟨some 37, .faddr (.t 4) 2, (some (34, false))⟩,
⟨some 38, .load (.t 37), (some (34, false))⟩,
⟨some 39, .bin .neq (.t 36) (.t 38), (some (34, false))⟩,
⟨some 40, .pick (.t 34) (.k (.bool true)) (.t 39), none⟩,
⟨some 41, .mov (.t 40), none⟩,
⟨some 42, .faddr (.t 3) 3, (some (41, false))⟩,
⟨some 43, .load (.t 42), (some (41, false))⟩,
⟨some 44, .faddr (.t 4) 3, (some (41, false))⟩,
⟨some 45, .load (.t 44), (some (41, false))⟩,
⟨some 46, .bin .neq (.t 43) (.t 45), (some (41, false))⟩,
⟨some 47, .pick (.t 41) (.k (.bool true)) (.t 46), none⟩,
⟨some 48, .mov (.t 47), none⟩,
⟨some 49, .faddr (.t 3) 4, (some (48, false))⟩,
⟨some 50, .load (.t 49), (some (48, false))⟩,
⟨some 51, .faddr (.t 4) 4, (some (48, false))⟩,
⟨some 52, .load (.t 51), (some (48, false))⟩,
⟨some 53, .bin .neq (.t 50) (.t 52), (some (48, false))⟩,
⟨some 54, .pick (.t 48) (.k (.bool true)) (.t 53), none⟩]
[1, 54])
(.cond (.t 54)
(.seq (.reg [⟨some 2, .mov (.k (.bool false)), none⟩]
[2])
.ret)
.skip))
(.seq (.dreg [⟨some 55, .loadN (.t 1) 5, none⟩,
⟨some 56, .call n_report_Text [.t 55], none⟩,
⟨some 57, .faddr (.t 1) 0, none⟩,
⟨some 58, .load (.t 57), none⟩,
⟨some 59, .faddr (.t 1) 1, none⟩,
⟨some 60, .load (.t 59), none⟩,
⟨some 61, .faddr (.t 1) 2, none⟩,
⟨some 62, .faddr (.t 61) 0, none⟩,
⟨some 63, .load (.t 62), none⟩,
⟨some 64, .faddr (.t 1) 2, none⟩,
⟨some 65, .faddr (.t 64) 1, none⟩,
⟨some 66, .load (.t 65), none⟩,
⟨some 67, .faddr (.t 1) 2, none⟩,
⟨some 68, .faddr (.t 67) 2, none⟩,
⟨some 69, .load (.t 68), none⟩,
⟨some 70, .call n_proctorref42_Text [.t 58, .t 60, .t 63, .t 66, .t 69], none⟩,
⟨some 71, .bin .eql (.t 56) (.t 70), none⟩,
⟨some 72, .mov (.t 71), none⟩,
⟨some 73, .call n_proctorlaw42_awake [], (some (72, true))⟩,
⟨some 74, .pick (.t 72) (.t 73) (.k (.bool false)), none⟩,
⟨some 2, .mov (.t 74), none⟩]
[2])
.ret))))))⟩
theorem k_proctorlaw42_ReportTexts : chkF Go.Proofs.Tryd.prog Go.Proofs.Tryd.f3 c_proctorlaw42_ReportTexts = true := by kernel_rfl
theorem pc_proctorlaw42_ReportTexts {G : Nat → Option AV} {args : List AV} {r : AV} (h : Runs Go.Proofs.Tryd.prog G c_proctorlaw42_ReportTexts args r) (hk : args.length = c_proctorlaw42_ReportTexts.k := by rfl) : PureC Go.Proofs.Tryd.prog G n_proctorlaw42_ReportTexts args r := PureC.of_runs Go.Proofs.Tryd.func3 k_proctorlaw42_ReportTexts hk h

def c_proctorref42_Of : AFun := ⟨76, 1, [.cells 2 5],
  (.seq (.reg [⟨some 2, .alloc t_proctorref42_Count 5 (.agg [.int .i64 0, .int .i64 0, .int .i64 0, .int .i64 0, .int .i64 0]), none⟩]
[0, 2])
(.seq (.reg [⟨some 3, .alloc t_proctorref42_Count 5 (.agg [.int .i64 0, .int .i64 0, .int .i64 0, .int .i64 0, .int .i64 0]), none⟩]
[0, 2, 3])
(.seq (.reg [⟨some 5, .mov (.t 0), none⟩,
⟨some 6, .len false (.t 5), none⟩,
⟨some 7, .faddr (.t 3) 0, none⟩,
⟨none, .store (.t 7) (.t 6) 1, none⟩]
[0, 2, 3])
(.seq (.seq (.reg [⟨some 4, .mov (.k (.int .i64 0)), none⟩]
[0, 2, 3, 4])
(.block 0
(.loop [0, 2, 3, 4] [2, 3, 6]
  (.seq (.seq (.reg [⟨some 8, .mov (.t 4), none⟩,
⟨some 9, .mov (.t 0), none⟩,
⟨some 10, .len false (.t 9), none⟩,
⟨some 11, .bin .lss (.t 8) (.t 10), none⟩]
[0, 2, 3, 4, 11])
(.cond (.t 11)
.skip
(.exit 0)))
(.seq (.block 1
(.seq (.seq (.reg [⟨some 14, .mov (.t 0), none⟩,
⟨some 15, .mov (.t 4), none⟩,
⟨some 16, .iaddr 1 (.t 14) (.t 15), none⟩,
⟨some 17, .load (.t 16), none⟩,
⟨some 18, .bin .eql (.t 17) (.k (.int .i64 1)), none⟩,
⟨some 19, .mov (.t 18), none⟩,
⟨some 20, .mov (.t 0), (some (19, false))⟩,
⟨some 21, .mov (.t 4), (some (19, false))⟩,
⟨some 22, .iaddr 1 (.t 20) (.t 21), (some (19, false))⟩,
⟨some 23, .load (.t 22), (some (19, false))⟩,
⟨some 24, .bin .eql (.t 23) (.k (.int .i64 2)), (some (19, false))⟩,
⟨some 25, .pick (.t 19) (.k (.bool true)) (.t 24), none⟩]
[0, 2, 3, 4, 25])
(.cond (.t 25)
(.reg [⟨some 26, .faddr (.t 3) 1, none⟩,
⟨some 27, .load (.t 26), none⟩,
⟨some 28, .bin .add (.t 27) (.k (.int .i64 1)), none⟩,
⟨some 29, .faddr (.t 3) 1, none⟩,
⟨none, .store (.t 29) (.t 28) 1, none⟩]
[0, 2, 3, 4])
.skip))
(.seq (.seq (.dreg [⟨some 30, .mov (.t 4), none⟩,
⟨some 31, .bin .gtr (.t 30) (.k (.int .i64 0)), none⟩,
⟨some 32, .mov (.t 31), none⟩,
⟨some 33, .mov (.t 0), (some (32, true))⟩,
⟨some 34, .mov (.t 4), (some (32, true))⟩,
⟨some 35, .iaddr 1 (.t 33) (.t 34), (some (32, true))⟩,
⟨some 36, .load (.t 35), (some (32, true))⟩,
⟨some 37, .bin .leq (.t 36) (.k (.int .i64 2)), (some (32, true))⟩,
⟨some 38, .mov (.t 0), (some (32, true))⟩,
⟨some 39, .mov (.t 4), (some (32, true))⟩,
⟨some 40, .bin .sub (.t 39) (.k (.int .i64 1)), (some (32, true))⟩,
⟨some 41, .iaddr 1 (.t 38) (.t 40), (some (32, true))⟩,
⟨some 42, .load (.t 41), (some (32, true))⟩,
⟨some 43, .bin .leq (.t 42) (.k (.int .i64 2)), (some (32, true))⟩,
⟨some 44, .eqB true (.t 37) (.t 43), (some (32, true))⟩,
⟨some 45, .pick (.t 32) (.t 44) (.k (.bool false)), none⟩]
[0, 2, 3, 4, 45])
(.cond (.t 45)
(.reg [⟨some 46, .faddr (.t 3) 2, none⟩,
⟨some 47, .load (.t 46), none⟩,
⟨some 48, .bin .add (.t 47) (.k (.int .i64 1)), none⟩,
⟨some 49, .faddr (.t 3) 2, none⟩,
⟨none, .store (.t 49) (.t 48) 1, none⟩]
[0, 2, 3, 4])
.skip))
(.seq (.seq (.reg [⟨some 50, .faddr (.t 3) 3, none⟩,
⟨some 51, .load (.t 50), none⟩,
⟨some 52, .bin .eql (.t 51) (.k (.int .i64 0)), none⟩,
⟨some 53, .mov (.t 52), none⟩,
⟨some 54, .mov (.t 0), (some (53, true))⟩,
⟨some 55, .mov (.t 4), (some (53, true))⟩,
⟨some 56, .iaddr 1 (.t 54) (.t 55), (some (53, true))⟩,
⟨some 57, .load (.t 56), (some (53, true))⟩,
⟨some 58, .bin .eql (.t 57) (.k (.int .i64 1)), (some (53, true))⟩,
⟨some 59, .mov (.t 58), (some (53, true))⟩,
⟨some 60, .mov (.t 0), (some (59, false))⟩,
⟨some 61, .mov (.t 4), (some (59, false))⟩,
⟨some 62, .iaddr 1 (.t 60) (.t 61), (some (59, false))⟩,
⟨some 63, .load (.t 62), (some (59, false))⟩,
⟨some 64, .bin .eql (.t 63) (.k (.int .i64 4)), (some (59, false))⟩,
⟨some 65, .pick (.t 59) (.k (.bool true)) (.t 64), (some (53, true))⟩,
⟨some 66, .pick (.t 53) (.t 65) (.k (.bool false)), none⟩]
[0, 2, 3, 4, 66])
(.cond (.t 66)
(.reg [⟨some 67, .mov (.t 4), none⟩,
⟨some 68, .bin .add (.t 67) (.k (.int .i64 1)), none⟩,
⟨some 69, .faddr (.t 3) 3, none⟩,
⟨none, .store (.t 69) (.t 68) 1, none⟩]
[0, 2, 3, 4])
.skip))
(.reg [⟨some 70, .mov (.t 0), none⟩,
⟨some 71, .mov (.t 4), none⟩,
⟨some 72, .iaddr 1 (.t 70) (.t 71), none⟩,
⟨some 73, .load (.t 72), none⟩,
⟨some 74, .faddr (.t 3) 4, none⟩,
⟨none, .store (.t 74) (.t 73) 1, none⟩]
[0, 2, 3, 4])))))
(.reg [⟨some 12, .mov (.t 4), none⟩,
⟨some 13, .bin .add (.t 12) (.k (.int .i64 1)), none⟩,
⟨some 4, .mov (.t 13), none⟩]
[0, 2, 3, 4]))))))
(.seq (.reg [⟨some 75, .loadN (.t 3) 5, none⟩,
⟨none, .store (.t 2) (.t 75) 5, none⟩]
[2])
.ret)))))⟩
theorem k_proctorref42_Of : chkF Go.Proofs.Tryd.prog Go.Proofs.Tryd.f8 c_proctorref42_Of = true := by kernel_rfl
theorem pc_proctorref42_Of {G : Nat → Option AV} {args : List AV} {r : AV} (h : Runs Go.Proofs.Tryd.prog G c_proctorref42_Of args r) (hk : args.length = c_proctorref42_Of.k := by rfl) : PureC Go.Proofs.Tryd.prog G n_proctorref42_Of args r := PureC.of_runs Go.Proofs.Tryd.func8 k_proctorref42_Of hk h

def c_proctorref42_Text : AFun := ⟨77, 5, [.t 10],
  (.seq (.reg [⟨some 10, .mov (.k (.str [])), none⟩]
[0, 1, 2, 3, 4])
(.seq (.reg [⟨some 14, .mov (.t 0), none⟩,
⟨some 15, .call n_proctorref42_Of [.t 14], none⟩,
⟨some 11, .alloc t_proctorref42_Count 5 (.agg [.int .i64 0, .int .i64 0, .int .i64 0, .int .i64 0, .int .i64 0]), none⟩,
⟨none, .store (.t 11) (.t 15) 5, none⟩]
[1, 2, 3, 4, 11])
(.seq (.dreg [⟨some 16, .faddr (.t 11) 0, none⟩,
⟨some 17, .load (.t 16), none⟩,
⟨some 18, .call n_proctorref42_text [.t 17], none⟩,
⟨some 19, .bin .add (.k (.str [101, 118, 101, 110, 116, 115, 32])) (.t 18), none⟩,
⟨some 20, .bin .add (.t 19) (.k (.str [10, 116, 114, 117, 101, 32])), none⟩,
⟨some 21, .faddr (.t 11) 1, none⟩,
⟨some 22, .load (.t 21), none⟩,
⟨some 23, .call n_proctorref42_text [.t 22], none⟩,
⟨some 24, .bin .add (.t 20) (.t 23), none⟩,
⟨some 25, .bin .add (.t 24) (.k (.str [10, 116, 117, 114, 110, 115, 32])), none⟩,
⟨some 26, .faddr (.t 11) 2, none⟩,
⟨some 27, .load (.t 26), none⟩,
⟨some 28, .call n_proctorref42_text [.t 27], none⟩,
⟨some 29, .bin .add (.t 25) (.t 28), none⟩,
⟨some 30, .bin .add (.t 29) (.k (.str [10])), none⟩,
⟨some 12, .mov (.t 30), none⟩]
[1, 2, 3, 4, 11, 12])
(.seq (.seq (.reg [⟨some 31, .faddr (.t 11) 3, none⟩,
⟨some 32, .load (.t 31), none⟩,
⟨some 33, .bin .gtr (.t 32) (.k (.int .i64 0)), none⟩]
[1, 2, 3, 4, 11, 12, 33])
(.cond (.t 33)
(.reg [⟨some 34, .mov (.t 12), none⟩,
⟨some 35, .bin .add (.t 34) (.k (.str [115, 117, 114, 101, 32])), none⟩,
⟨some 36, .faddr (.t 11) 3, none⟩,
⟨some 37, .load (.t 36), none⟩,
⟨some 38, .call n_proctorref42_text [.t 37], none⟩,
⟨some 39, .bin .add (.t 35) (.t 38), none⟩,
⟨some 40, .bin .add (.t 39) (.k (.str [10])), none⟩,
⟨some 12, .mov (.t 40), none⟩]
[1, 2, 3, 4, 11, 12])
.skip))
(.seq (.seq (.reg [⟨some 41, .faddr (.t 11) 0, none⟩,
⟨some 42, .load (.t 41), none⟩,
⟨some 43, .bin .gtr (.t 42) (.k (.int .i64 0)), none⟩]
[1, 2, 3, 4, 11, 12, 43])
(.cond (.t 43)
(.reg [⟨some 44, .mov (.t 12), none⟩,
⟨some 45, .bin .add (.t 44) (.k (.str [108, 97, 115, 116, 32])), none⟩,
⟨some 46, .faddr (.t 11) 4, none⟩,
⟨some 47, .load (.t 46), none⟩,
⟨some 48, .call n_proctorref32_Name [.t 47], none⟩,
⟨some 49, .bin .add (.t 45) (.t 48), none⟩,
⟨some 50, .bin .add (.t 49) (.k (.str [10])), none⟩,
⟨some 12, .mov (.t 50), none⟩]
[1, 2, 3, 4, 12])
.skip))
(.seq (.reg [⟨some 13, .mov (.k (.str [])), none⟩]
[1, 2, 3, 4, 12, 13])
(.seq (.seq (.reg [⟨some 51, .mov (.t 1), none⟩,
⟨some 52, .bin .eql (.t 51) (.k (.int .i64 1)), none⟩]
[1, 2, 3, 4, 12, 13, 52])
(.cond (.t 52)
(.reg [⟨some 13, .mov (.k (.str [116, 101, 120, 116])), none⟩]
[2, 3, 4, 12, 13])
(.seq (.reg [⟨some 53, .mov (.t 1), none⟩,
⟨some 54, .bin .eql (.t 53) (.k (.int .i64 2)), none⟩]
[1, 2, 3, 4, 12, 13, 54])
(.cond (.t 54)
(.reg [⟨some 13, .mov (.k (.str [108, 111, 103])), none⟩]
[2, 3, 4, 12, 13])
(.seq (.reg [⟨some 55, .mov (.t 1), none⟩,
⟨some 56, .bin .eql (.t 55) (.k (.int .i64 3)), none⟩]
[2, 3, 4, 12, 13, 56])
(.cond (.t 56)
(.reg [⟨some 13, .mov (.k (.str [114, 117, 110])), none⟩]
[2, 3, 4, 12, 13])
.skip))))))
(.seq (.seq (.reg [⟨some 57, .mov (.t 13), none⟩,
⟨some 58, .bin .neq (.t 57) (.k (.str [])), none⟩]
[2, 3, 4, 12, 13, 58])
(.cond (.t 58)
(.reg [⟨some 59, .mov (.t 12), none⟩,
⟨some 60, .bin .add (.t 59) (.k (.str [101, 110, 100, 101, 100, 32])), none⟩,
⟨some 61, .mov (.t 13), none⟩,
⟨some 62, .bin .add (.t 60) (.t 61), none⟩,
⟨some 63, .bin .add (.t 62) (.k (.str [32])), none⟩,
⟨some 64, .mov (.t 2), none⟩,
⟨some 65, .call n_proctorref42_text [.t 64], none⟩,
⟨some 66, .bin .add (.t 63) (.t 65), none⟩,
⟨some 67, .bin .add (.t 66) (.k (.str [32])), none⟩,
⟨some 68, .mov (.t 3), none⟩,
⟨some 69, .call n_proctorref42_text [.t 68], none⟩,
⟨some 70, .bin .add (.t 67) (.t 69), none⟩,
⟨some 71, .bin .add (.t 70) (.k (.str [32])), none⟩,
⟨some 72, .mov (.t 4), none⟩,
⟨some 73, .call n_proctorref42_text [.t 72], none⟩,
⟨some 74, .bin .add (.t 71) (.t 73), none⟩,
⟨some 75, .bin .add (.t 74) (.k (.str [10])), none⟩,
⟨some 12, .mov (.t 75), none⟩]
[12])
.skip))
(.seq (.reg [⟨some 76, .mov (.t 12), none⟩,
⟨some 10, .mov (.t 76), none⟩]
[10])
.ret)))))))))⟩
theorem k_proctorref42_Text : chkF Go.Proofs.Tryd.prog Go.Proofs.Tryd.f10 c_proctorref42_Text = true := by kernel_rfl
theorem pc_proctorref42_Text {G : Nat → Option AV} {args : List AV} {r : AV} (h : Runs Go.Proofs.Tryd.prog G c_proctorref42_Text args r) (hk : args.length = c_proctorref42_Text.k := by rfl) : PureC Go.Proofs.Tryd.prog G n_proctorref42_Text args r := PureC.of_runs Go.Proofs.Tryd.func10 k_proctorref42_Text hk h

def c_verdict_Name : AFun := ⟨13, 1, [.t 2],
  (.seq (.reg [⟨some 2, .mov (.k (.str [])), none⟩]
[0])
(.seq (.seq (.reg [⟨some 3, .mov (.t 0), none⟩,
⟨some 4, .bin .lss (.t 3) (.k (.int .i64 1)), none⟩,
⟨some 5, .mov (.t 4), none⟩,
⟨some 6, .mov (.t 0), (some (5, false))⟩,
⟨some 7, .bin .gtr (.t 6) (.k (.int .i64 4)), (some (5, false))⟩,
⟨some 8, .pick (.t 5) (.k (.bool true)) (.t 7), none⟩]
[0, 8])
(.cond (.t 8)
(.seq (.reg [⟨some 2, .mov (.k (.str [])), none⟩]
[2])
.ret)
.skip))
(.seq (.reg [⟨some 9, .mov (.t 0), none⟩,
⟨some 10, .bin .sub (.t 9) (.k (.int .i64 1)), none⟩,
⟨some 11, .iaddrA 1 4 (.g 1) (.t 10), none⟩,
⟨some 12, .load (.t 11), none⟩,
⟨some 2, .mov (.t 12), none⟩]
[2])
.ret)))⟩
theorem k_verdict_Name : chkF Go.Proofs.Tryd.prog Go.Proofs.Tryd.f22 c_verdict_Name = true := by kernel_rfl
theorem pc_verdict_Name {G : Nat → Option AV} {args : List AV} {r : AV} (h : Runs Go.Proofs.Tryd.prog G c_verdict_Name args r) (hk : args.length = c_verdict_Name.k := by rfl) : PureC Go.Proofs.Tryd.prog G n_verdict_Name args r := PureC.of_runs Go.Proofs.Tryd.func22 k_verdict_Name hk h

def c_proctorref42_text : AFun := ⟨5, 1, [.t 2],
  (.seq (.reg [⟨some 2, .mov (.k (.str [])), none⟩]
[0])
(.seq (.reg [⟨some 3, .mov (.t 0), none⟩,
⟨some 4, .call n_proctorref01_Text [.t 3], none⟩,
⟨some 2, .mov (.t 4), none⟩]
[2])
.ret))⟩
theorem k_proctorref42_text : chkF Go.Proofs.Tryd.prog Go.Proofs.Tryd.f23 c_proctorref42_text = true := by kernel_rfl
theorem pc_proctorref42_text {G : Nat → Option AV} {args : List AV} {r : AV} (h : Runs Go.Proofs.Tryd.prog G c_proctorref42_text args r) (hk : args.length = c_proctorref42_text.k := by rfl) : PureC Go.Proofs.Tryd.prog G n_proctorref42_text args r := PureC.of_runs Go.Proofs.Tryd.func23 k_proctorref42_text hk h

def c_proctorref32_Name : AFun := ⟨15, 1, [.t 2],
  (.seq (.reg [⟨some 2, .mov (.k (.str [])), none⟩]
[0])
(.seq (.reg [⟨some 4, .mkrow t_string 1 5 (.str []) [(0, .k (.str [])), (1, .k (.str [115, 117, 114, 101, 45, 116, 114, 117, 101])), (2, .k (.str [110, 111, 119, 45, 116, 114, 117, 101])), (3, .k (.str [110, 111, 119, 45, 102, 97, 108, 115, 101])), (4, .k (.str [115, 117, 114, 101, 45, 102, 97, 108, 115, 101]))], none⟩,
⟨some 3, .mov (.t 4), none⟩]
[0, 3])
(.seq (.seq (.reg [⟨some 5, .mov (.t 0), none⟩,
⟨some 6, .bin .lss (.t 5) (.k (.int .i64 1)), none⟩,
⟨some 7, .mov (.t 6), none⟩,
⟨some 8, .mov (.t 0), (some (7, false))⟩,
⟨some 9, .bin .gtr (.t 8) (.k (.int .i64 4)), (some (7, false))⟩,
⟨some 10, .pick (.t 7) (.k (.bool true)) (.t 9), none⟩]
[0, 3, 10])
(.cond (.t 10)
(.seq (.reg [⟨some 2, .mov (.k (.str [])), none⟩]
[2])
.ret)
.skip))
(.seq (.reg [⟨some 11, .mov (.t 3), none⟩,
⟨some 12, .mov (.t 0), none⟩,
⟨some 13, .iaddr 1 (.t 11) (.t 12), none⟩,
⟨some 14, .load (.t 13), none⟩,
⟨some 2, .mov (.t 14), none⟩]
[2])
.ret))))⟩
theorem k_proctorref32_Name : chkF Go.Proofs.Tryd.prog Go.Proofs.Tryd.f24 c_proctorref32_Name = true := by kernel_rfl
theorem pc_proctorref32_Name {G : Nat → Option AV} {args : List AV} {r : AV} (h : Runs Go.Proofs.Tryd.prog G c_proctorref32_Name args r) (hk : args.length = c_proctorref32_Name.k := by rfl) : PureC Go.Proofs.Tryd.prog G n_proctorref32_Name args r := PureC.of_runs Go.Proofs.Tryd.func24 k_proctorref32_Name hk h

def c_num_Text : AFun := ⟨5, 1, [.t 2],
  (.seq (.reg [⟨some 2, .mov (.k (.str [])), none⟩]
[0])
(.seq (.reg [⟨some 3, .mov (.t 0), none⟩,
⟨some 4, .call n_strconv_FormatInt [.t 3, .k (.int .i64 10)], none⟩,
⟨some 2, .mov (.t 4), none⟩]
[2])
.ret))⟩
theorem k_num_Text : chkF Go.Proofs.Tryd.prog Go.Proofs.Tryd.f42 c_num_Text = true := by kernel_rfl
theorem pc_num_Text {G : Nat → Option AV} {args : List AV} {r : AV} (h : Runs Go.Proofs.Tryd.prog G c_num_Text args r) (hk : args.length = c_num_Text.k := by rfl) : PureC Go.Proofs.Tryd.prog G n_num_Text args r := PureC.of_runs Go.Proofs.Tryd.func42 k_num_Text hk h

def c_proctorref01_Text : AFun := ⟨51, 1, [.t 2],
  (.seq (.reg [⟨some 2, .mov (.k (.str [])), none⟩]
[0])
(.seq (.reg [⟨some 3, .mov (.k (.str [48, 49, 50, 51, 52, 53, 54, 55, 56, 57])), none⟩]
[0, 3])
(.seq (.seq (.reg [⟨some 5, .mov (.t 0), none⟩,
⟨some 6, .bin .geq (.t 5) (.k (.int .i64 0)), none⟩,
⟨some 7, .mov (.t 6), none⟩,
⟨some 8, .mov (.t 0), (some (7, true))⟩,
⟨some 9, .bin .lss (.t 8) (.k (.int .i64 10)), (some (7, true))⟩,
⟨some 10, .pick (.t 7) (.t 9) (.k (.bool false)), none⟩]
[0, 3, 10])
(.cond (.t 10)
(.seq (.reg [⟨some 11, .mov (.t 3), none⟩,
⟨some 12, .mov (.t 0), none⟩,
⟨some 13, .mov (.t 0), none⟩,
⟨some 14, .bin .add (.t 13) (.k (.int .i64 1)), none⟩,
⟨some 15, .slc 0 (.t 11) (some (.t 12)) (some (.t 14)), none⟩,
⟨some 2, .mov (.t 15), none⟩]
[2])
.ret)
.skip))
(.seq (.seq (.reg [⟨some 16, .mov (.t 0), none⟩,
⟨some 17, .bin .geq (.t 16) (.k (.int .i64 10)), none⟩]
[0, 3, 17])
(.cond (.t 17)
(.seq (.dreg [⟨some 18, .mov (.t 0), none⟩,
⟨some 19, .bin .quo (.t 18) (.k (.int .i64 10)), none⟩,
⟨some 20, .call n_proctorref01_Text [.t 19], none⟩,
⟨some 21, .mov (.t 3), none⟩,
⟨some 22, .mov (.t 0), none⟩,
⟨some 23, .bin .rem (.t 22) (.k (.int .i64 10)), none⟩,
⟨some 24, .mov (.t 0), none⟩,
⟨some 25, .bin .rem (.t 24) (.k (.int .i64 10)), none⟩,
⟨some 26, .bin .add (.t 25) (.k (.int .i64 1)), none⟩,
⟨some 27, .slc 0 (.t 21) (some (.t 23)) (some (.t 26)), none⟩,
⟨some 28, .bin .add (.t 20) (.t 27), none⟩,
⟨some 2, .mov (.t 28), none⟩]
[2])
.ret)
.skip))
(.seq (.seq (.reg [⟨some 29, .mov (.t 0), none⟩,
⟨some 30, .bin .gtr (.t 29) (.k (.int .i64 (-10))), none⟩]
[0, 3, 30])
(.cond (.t 30)
(.seq (.reg [⟨some 31, .mov (.t 3), none⟩,
⟨some 32, .mov (.t 0), none⟩,
⟨some 33, .un .neg (.t 32), none⟩,
⟨some 34, .mov (.t 0), none⟩,
⟨some 35, .un .neg (.t 34), none⟩,
⟨some 36, .bin .add (.t 35) (.k (.int .i64 1)), none⟩,
⟨some 37, .slc 0 (.t 31) (some (.t 33)) (some (.t 36)), none⟩,
⟨some 38, .bin .add (.k (.str [45])) (.t 37), none⟩,
⟨some 2, .mov (.t 38), none⟩]
[2])
.ret)
.skip))
(.seq (.reg [⟨some 39, .mov (.t 0), none⟩,
⟨some 40, .bin .rem (.t 39) (.k (.int .i64 10)), none⟩,
⟨some 41, .un .neg (.t 40), none⟩,
⟨some 4, .mov (.t 41), none⟩]
[0, 3, 4])
(.seq (.dreg [⟨some 42, .mov (.t 0), none⟩,
⟨some 43, .bin .quo (.t 42) (.k (.int .i64 10)), none⟩,
⟨some 44, .call n_proctorref01_Text [.t 43], none⟩,
⟨some 45, .mov (.t 3), none⟩,
⟨some 46, .mov (.t 4), none⟩,
⟨some 47, .mov (.t 4), none⟩,
⟨some 48, .bin .add (.t 47) (.k (.int .i64 1)), none⟩,
⟨some 49, .slc 0 (.t 45) (some (.t 46)) (some (.t 48)), none⟩,
⟨some 50, .bin .add (.t 44) (.t 49), none⟩,
⟨some 2, .mov (.t 50), none⟩]
[2])
.ret)))))))⟩
theorem k_proctorref01_Text : chkF Go.Proofs.Tryd.prog Go.Proofs.Tryd.f43 c_proctorref01_Text = true := by kernel_rfl
theorem pc_proctorref01_Text {G : Nat → Option AV} {args : List AV} {r : AV} (h : Runs Go.Proofs.Tryd.prog G c_proctorref01_Text args r) (hk : args.length = c_proctorref01_Text.k := by rfl) : PureC Go.Proofs.Tryd.prog G n_proctorref01_Text args r := PureC.of_runs Go.Proofs.Tryd.func43 k_proctorref01_Text hk h


end Go.Proofs.YtdfdiglnpekcpaaDoor.Ab
