/-
  The functions' abstract code, by program (acgen.py), and that the model's code is it, reckoned by the kernel.
-/
import Derived.Test.YtdfdiglnpekcpaaAbRun
import Derived.Test.YtdfdiglnpekcpaaProg
namespace Go.Proofs.Ytdfdiglnpekcpaa.Ab
open Go

abbrev t_int : Nat := 3
abbrev t_engine_Options : Nat := 23
abbrev t_driver_Outcome : Nat := 33
abbrev t_report_Count : Nat := 54
abbrev n_proctorlaw43_EightOptions : Nat := 3
abbrev n_proctorlaw42_ReportBest : Nat := 4
abbrev n_eight_Options : Nat := 7
abbrev n_proctorlaw43_awake : Nat := 8
abbrev n_proctorlaw42_awake : Nat := 9
abbrev n_proctorref32_Right : Nat := 10
abbrev n_report_Best_int : Nat := 11
abbrev n_proctorlaw42_less : Nat := 12
abbrev n_report_Worst : Nat := 13
abbrev n_report_Of : Nat := 32
abbrev n_report_Best_driver_Outcome : Nat := 33
abbrev n_report_Worst_1 : Nat := 34
abbrev n_verdict_IsTrue : Nat := 45
abbrev n_verdict_IsSure : Nat := 46

def c_eight_Options : AFun := ⟨20, 2, [.cells 4 4],
  (.seq (.reg [⟨some 4, .alloc t_engine_Options 4 (.agg [.bool false, .bool false, .bool false, .int .i64 0]), none⟩]
    [0, 1, 4])
  (.seq (.reg [⟨some 5, .mov (.t 0), none⟩,
    ⟨some 6, .bin .rem (.t 5) (.k (.int .i64 8)), none⟩,
    ⟨some 7, .bin .add (.t 6) (.k (.int .i64 8)), none⟩,
    ⟨some 8, .bin .rem (.t 7) (.k (.int .i64 8)), none⟩,
    ⟨some 0, .mov (.t 8), none⟩]
    [0, 1, 4])
  (.seq (.reg [⟨some 9, .mov (.t 0), none⟩,
    ⟨some 10, .bin .and (.t 9) (.k (.int .i64 1)), none⟩,
    ⟨some 11, .bin .gtr (.t 10) (.k (.int .i64 0)), none⟩,
    ⟨some 12, .mov (.t 0), none⟩,
    ⟨some 13, .bin .and (.t 12) (.k (.int .i64 2)), none⟩,
    ⟨some 14, .bin .gtr (.t 13) (.k (.int .i64 0)), none⟩,
    ⟨some 15, .mov (.t 0), none⟩,
    ⟨some 16, .bin .and (.t 15) (.k (.int .i64 4)), none⟩,
    ⟨some 17, .bin .gtr (.t 16) (.k (.int .i64 0)), none⟩,
    ⟨some 18, .mov (.t 1), none⟩,
    ⟨some 19, .build [.bool false, .bool false, .bool false, .int .i64 0] [(0, 1, .t 11), (1, 1, .t 14), (2, 1, .t 17), (3, 1, .t 18)], none⟩,
    ⟨none, .store (.t 4) (.t 19) 4, none⟩]
    [4])
  .ret)))⟩
theorem k_eight_Options : chkF Go.Proofs.Try.prog Go.Proofs.Try.f7 c_eight_Options = true := by kernel_rfl
theorem pc_eight_Options {G : Nat → Option AV} {args : List AV} {r : AV} (h : Runs Go.Proofs.Try.prog G c_eight_Options args r) (hk : args.length = c_eight_Options.k := by rfl) : PureC Go.Proofs.Try.prog G n_eight_Options args r := PureC.of_runs Go.Proofs.Try.func7 k_eight_Options hk h

def c_proctorlaw43_awake : AFun := ⟨8, 0, [.t 0],
  (.seq (.reg [⟨some 0, .mov (.k (.bool false)), none⟩]
    [])
  (.seq (.reg [⟨some 1, .call n_eight_Options [.k (.int .i64 6), .k (.int .i64 3)], none⟩,
    ⟨some 2, .build [.bool false, .bool false, .bool false, .int .i64 0] [(1, 1, .k (.bool true)), (2, 1, .k (.bool true)), (3, 1, .k (.int .i64 3))], none⟩,
    ⟨some 3, .eqA false [2, 2, 2, 0] (.t 1) (.t 2), none⟩,
    ⟨some 4, .mov (.t 3), none⟩,
    ⟨some 5, .call n_eight_Options [.k (.int .i64 (-1)), .k (.int .i64 0)], (some (4, true))⟩,
    ⟨some 6, .fld (.t 5) 0, (some (4, true))⟩,
    ⟨some 7, .pick (.t 4) (.t 6) (.k (.bool false)), none⟩,
    ⟨some 0, .mov (.t 7), none⟩]
    [0])
  .ret))⟩
theorem k_proctorlaw43_awake : chkF Go.Proofs.Try.prog Go.Proofs.Try.f8 c_proctorlaw43_awake = true := by kernel_rfl
theorem pc_proctorlaw43_awake {G : Nat → Option AV} {args : List AV} {r : AV} (h : Runs Go.Proofs.Try.prog G c_proctorlaw43_awake args r) (hk : args.length = c_proctorlaw43_awake.k := by rfl) : PureC Go.Proofs.Try.prog G n_proctorlaw43_awake args r := PureC.of_runs Go.Proofs.Try.func8 k_proctorlaw43_awake hk h

def c_proctorlaw43_EightOptions : AFun := ⟨47, 2, [.t 4],
  (.seq (.reg [⟨some 4, .mov (.k (.bool false)), none⟩]
    [0, 1])
  (.seq (.reg [⟨some 7, .mov (.t 0), none⟩,
    ⟨some 8, .bin .rem (.t 7) (.k (.int .i64 8)), none⟩,
    ⟨some 5, .mov (.t 8), none⟩]
    [0, 1, 5])
  (.seq (.seq (.reg [⟨some 9, .mov (.t 5), none⟩,
    ⟨some 10, .bin .lss (.t 9) (.k (.int .i64 0)), none⟩]
    [0, 1, 5, 10])
  (.cond (.t 10)
    (.reg [⟨some 11, .mov (.t 5), none⟩,
      ⟨some 12, .bin .add (.t 11) (.k (.int .i64 8)), none⟩,
      ⟨some 5, .mov (.t 12), none⟩]
      [0, 1, 5])
    .skip))
  (.seq (.reg [⟨some 13, .mov (.t 0), none⟩,
    ⟨some 14, .mov (.t 1), none⟩,
    ⟨some 15, .call n_eight_Options [.t 13, .t 14], none⟩,
    ⟨some 6, .alloc t_engine_Options 4 (.agg [.bool false, .bool false, .bool false, .int .i64 0]), none⟩,
    ⟨none, .store (.t 6) (.t 15) 4, none⟩]
    [1, 5, 6])
  (.seq (.reg [⟨some 16, .faddr (.t 6) 0, none⟩,
    ⟨some 17, .load (.t 16), none⟩,
    ⟨some 18, .mov (.t 5), none⟩,
    ⟨some 19, .bin .rem (.t 18) (.k (.int .i64 2)), none⟩,
    ⟨some 20, .bin .eql (.t 19) (.k (.int .i64 1)), none⟩,
    ⟨some 21, .eqB false (.t 17) (.t 20), none⟩,
    ⟨some 22, .mov (.t 21), none⟩,
    ⟨some 23, .faddr (.t 6) 1, (some (22, true))⟩,
    ⟨some 24, .load (.t 23), (some (22, true))⟩,
    ⟨some 25, .mov (.t 5), (some (22, true))⟩,
    ⟨some 26, .bin .quo (.t 25) (.k (.int .i64 2)), (some (22, true))⟩,
    ⟨some 27, .bin .rem (.t 26) (.k (.int .i64 2)), (some (22, true))⟩,
    ⟨some 28, .bin .eql (.t 27) (.k (.int .i64 1)), (some (22, true))⟩,
    ⟨some 29, .eqB false (.t 24) (.t 28), (some (22, true))⟩,
    ⟨some 30, .pick (.t 22) (.t 29) (.k (.bool false)), none⟩,
    ⟨some 31, .mov (.t 30), none⟩,
    ⟨some 32, .faddr (.t 6) 2, (some (31, true))⟩,
    ⟨some 33, .load (.t 32), (some (31, true))⟩,
    ⟨some 34, .mov (.t 5), (some (31, true))⟩,
    ⟨some 35, .bin .geq (.t 34) (.k (.int .i64 4)), (some (31, true))⟩,
    ⟨some 36, .eqB false (.t 33) (.t 35), (some (31, true))⟩,
    ⟨some 37, .pick (.t 31) (.t 36) (.k (.bool false)), none⟩,
    ⟨some 38, .mov (.t 37), none⟩,
    ⟨some 39, .faddr (.t 6) 3, (some (38, true))⟩,
    ⟨some 40, .load (.t 39), (some (38, true))⟩,
    ⟨some 41, .mov (.t 1), (some (38, true))⟩,
    ⟨some 42, .bin .eql (.t 40) (.t 41), (some (38, true))⟩,
    ⟨some 43, .pick (.t 38) (.t 42) (.k (.bool false)), none⟩,
    ⟨some 44, .mov (.t 43), none⟩,
    ⟨some 45, .call n_proctorlaw43_awake [], (some (44, true))⟩,
    ⟨some 46, .pick (.t 44) (.t 45) (.k (.bool false)), none⟩,
    ⟨some 4, .mov (.t 46), none⟩]
    [4])
  .ret)))))⟩
theorem k_proctorlaw43_EightOptions : chkF Go.Proofs.Try.prog Go.Proofs.Try.f3 c_proctorlaw43_EightOptions = true := by kernel_rfl
theorem pc_proctorlaw43_EightOptions {G : Nat → Option AV} {args : List AV} {r : AV} (h : Runs Go.Proofs.Try.prog G c_proctorlaw43_EightOptions args r) (hk : args.length = c_proctorlaw43_EightOptions.k := by rfl) : PureC Go.Proofs.Try.prog G n_proctorlaw43_EightOptions args r := PureC.of_runs Go.Proofs.Try.func3 k_proctorlaw43_EightOptions hk h

def c_verdict_IsTrue : AFun := ⟨9, 1, [.t 2],
  (.seq (.reg [⟨some 2, .mov (.k (.bool false)), none⟩]
    [0])
  (.seq (.reg [⟨some 3, .mov (.t 0), none⟩,
    ⟨some 4, .bin .eql (.t 3) (.k (.int .i64 1)), none⟩,
    ⟨some 5, .mov (.t 4), none⟩,
    ⟨some 6, .mov (.t 0), (some (5, false))⟩,
    ⟨some 7, .bin .eql (.t 6) (.k (.int .i64 2)), (some (5, false))⟩,
    ⟨some 8, .pick (.t 5) (.k (.bool true)) (.t 7), none⟩,
    ⟨some 2, .mov (.t 8), none⟩]
    [2])
  .ret))⟩
theorem k_verdict_IsTrue : chkF Go.Proofs.Try.prog Go.Proofs.Try.f45 c_verdict_IsTrue = true := by kernel_rfl
theorem pc_verdict_IsTrue {G : Nat → Option AV} {args : List AV} {r : AV} (h : Runs Go.Proofs.Try.prog G c_verdict_IsTrue args r) (hk : args.length = c_verdict_IsTrue.k := by rfl) : PureC Go.Proofs.Try.prog G n_verdict_IsTrue args r := PureC.of_runs Go.Proofs.Try.func45 k_verdict_IsTrue hk h

def c_verdict_IsSure : AFun := ⟨9, 1, [.t 2],
  (.seq (.reg [⟨some 2, .mov (.k (.bool false)), none⟩]
    [0])
  (.seq (.reg [⟨some 3, .mov (.t 0), none⟩,
    ⟨some 4, .bin .eql (.t 3) (.k (.int .i64 1)), none⟩,
    ⟨some 5, .mov (.t 4), none⟩,
    ⟨some 6, .mov (.t 0), (some (5, false))⟩,
    ⟨some 7, .bin .eql (.t 6) (.k (.int .i64 4)), (some (5, false))⟩,
    ⟨some 8, .pick (.t 5) (.k (.bool true)) (.t 7), none⟩,
    ⟨some 2, .mov (.t 8), none⟩]
    [2])
  .ret))⟩
theorem k_verdict_IsSure : chkF Go.Proofs.Try.prog Go.Proofs.Try.f46 c_verdict_IsSure = true := by kernel_rfl
theorem pc_verdict_IsSure {G : Nat → Option AV} {args : List AV} {r : AV} (h : Runs Go.Proofs.Try.prog G c_verdict_IsSure args r) (hk : args.length = c_verdict_IsSure.k := by rfl) : PureC Go.Proofs.Try.prog G n_verdict_IsSure args r := PureC.of_runs Go.Proofs.Try.func46 k_verdict_IsSure hk h

def c_report_Of : AFun := ⟨53, 1, [.cells 2 5],
  (.seq (.reg [⟨some 2, .alloc t_report_Count 5 (.agg [.int .i64 0, .int .i64 0, .int .i64 0, .int .i64 0, .int .i64 0]), none⟩]
    [0, 2])
  (.seq (.reg [⟨some 6, .mov (.t 0), none⟩,
    ⟨some 7, .len false (.t 6), none⟩,
    ⟨some 8, .build [.int .i64 0, .int .i64 0, .int .i64 0, .int .i64 0, .int .i64 0] [(0, 1, .t 7)], none⟩,
    ⟨some 3, .alloc t_report_Count 5 (.agg [.int .i64 0, .int .i64 0, .int .i64 0, .int .i64 0, .int .i64 0]), none⟩,
    ⟨none, .store (.t 3) (.t 8) 5, none⟩]
    [0, 2, 3])
  (.seq (.seq (.reg [⟨some 9, .mov (.t 0), none⟩,
    ⟨some 10, .len false (.t 9), none⟩,
    ⟨some 11, .mov (.k (.int .i64 0)), none⟩]
    [0, 2, 3, 9, 10, 11])
  (.block 0
    (.loop [0, 2, 3, 9, 10, 11] [2, 3]
      (.seq (.reg [⟨some 12, .bin .lss (.t 11) (.t 10), none⟩]
        [0, 2, 3, 9, 10, 11, 12])
      (.seq (.cond (.t 12)
        .skip
        (.exit 0))
      (.seq (.block 1
        (.seq (.reg [⟨some 13, .mov (.t 11), none⟩,
          ⟨some 14, .iaddr 1 (.t 9) (.t 11), none⟩,
          ⟨some 15, .load (.t 14), none⟩,
          ⟨some 4, .mov (.t 13), none⟩,
          ⟨some 5, .mov (.t 15), none⟩]
          [0, 2, 3, 4, 5, 9, 10, 11])
        (.seq (.seq (.reg [⟨some 16, .mov (.t 5), none⟩,
          ⟨some 17, .call n_verdict_IsTrue [.t 16], none⟩]
          [0, 2, 3, 4, 5, 9, 10, 11, 17])
        (.cond (.t 17)
          (.reg [⟨some 18, .faddr (.t 3) 1, none⟩,
            ⟨some 19, .load (.t 18), none⟩,
            ⟨some 20, .bin .add (.t 19) (.k (.int .i64 1)), none⟩,
            ⟨some 21, .faddr (.t 3) 1, none⟩,
            ⟨none, .store (.t 21) (.t 20) 1, none⟩]
            [0, 2, 3, 4, 5, 9, 10, 11])
          .skip))
        (.seq (.seq (.dreg [⟨some 22, .mov (.t 4), none⟩,
          ⟨some 23, .bin .gtr (.t 22) (.k (.int .i64 0)), none⟩,
          ⟨some 24, .mov (.t 23), none⟩,
          ⟨some 25, .mov (.t 5), (some (24, true))⟩,
          ⟨some 26, .call n_verdict_IsTrue [.t 25], (some (24, true))⟩,
          ⟨some 27, .mov (.t 0), (some (24, true))⟩,
          ⟨some 28, .mov (.t 4), (some (24, true))⟩,
          ⟨some 29, .bin .sub (.t 28) (.k (.int .i64 1)), (some (24, true))⟩,
          ⟨some 30, .iaddr 1 (.t 27) (.t 29), (some (24, true))⟩,
          ⟨some 31, .load (.t 30), (some (24, true))⟩,
          ⟨some 32, .call n_verdict_IsTrue [.t 31], (some (24, true))⟩,
          ⟨some 33, .eqB true (.t 26) (.t 32), (some (24, true))⟩,
          ⟨some 34, .pick (.t 24) (.t 33) (.k (.bool false)), none⟩]
          [0, 2, 3, 4, 5, 9, 10, 11, 34])
        (.cond (.t 34)
          (.reg [⟨some 35, .faddr (.t 3) 2, none⟩,
            ⟨some 36, .load (.t 35), none⟩,
            ⟨some 37, .bin .add (.t 36) (.k (.int .i64 1)), none⟩,
            ⟨some 38, .faddr (.t 3) 2, none⟩,
            ⟨none, .store (.t 38) (.t 37) 1, none⟩]
            [0, 2, 3, 4, 5, 9, 10, 11])
          .skip))
        (.seq (.seq (.reg [⟨some 39, .faddr (.t 3) 3, none⟩,
          ⟨some 40, .load (.t 39), none⟩,
          ⟨some 41, .bin .eql (.t 40) (.k (.int .i64 0)), none⟩,
          ⟨some 42, .mov (.t 41), none⟩,
          ⟨some 43, .mov (.t 5), (some (42, true))⟩,
          ⟨some 44, .call n_verdict_IsSure [.t 43], (some (42, true))⟩,
          ⟨some 45, .pick (.t 42) (.t 44) (.k (.bool false)), none⟩]
          [0, 2, 3, 4, 5, 9, 10, 11, 45])
        (.cond (.t 45)
          (.reg [⟨some 46, .mov (.t 4), none⟩,
            ⟨some 47, .bin .add (.t 46) (.k (.int .i64 1)), none⟩,
            ⟨some 48, .faddr (.t 3) 3, none⟩,
            ⟨none, .store (.t 48) (.t 47) 1, none⟩]
            [0, 2, 3, 5, 9, 10, 11])
          .skip))
        (.reg [⟨some 49, .mov (.t 5), none⟩,
          ⟨some 50, .faddr (.t 3) 4, none⟩,
          ⟨none, .store (.t 50) (.t 49) 1, none⟩]
          [0, 2, 3, 9, 10, 11]))))))
      (.reg [⟨some 51, .bin .add (.t 11) (.k (.int .i64 1)), none⟩,
        ⟨some 11, .mov (.t 51), none⟩]
        [0, 2, 3, 9, 10, 11])))))))
  (.seq (.reg [⟨some 52, .loadN (.t 3) 5, none⟩,
    ⟨none, .store (.t 2) (.t 52) 5, none⟩]
    [2])
  .ret))))⟩
theorem k_report_Of : chkF Go.Proofs.Try.prog Go.Proofs.Try.f32 c_report_Of = true := by kernel_rfl
theorem pc_report_Of {G : Nat → Option AV} {args : List AV} {r : AV} (h : Runs Go.Proofs.Try.prog G c_report_Of args r) (hk : args.length = c_report_Of.k := by rfl) : PureC Go.Proofs.Try.prog G n_report_Of args r := PureC.of_runs Go.Proofs.Try.func32 k_report_Of hk h

def c_proctorlaw42_less : AFun := ⟨8, 2, [.t 4],
  (.seq (.reg [⟨some 4, .mov (.k (.bool false)), none⟩]
    [0, 1])
  (.seq (.reg [⟨some 5, .mov (.t 0), none⟩,
    ⟨some 6, .mov (.t 1), none⟩,
    ⟨some 7, .bin .lss (.t 5) (.t 6), none⟩,
    ⟨some 4, .mov (.t 7), none⟩]
    [4])
  .ret))⟩
theorem k_proctorlaw42_less : chkF Go.Proofs.Try.prog Go.Proofs.Try.f12 c_proctorlaw42_less = true := by kernel_rfl
theorem pc_proctorlaw42_less {G : Nat → Option AV} {args : List AV} {r : AV} (h : Runs Go.Proofs.Try.prog G c_proctorlaw42_less args r) (hk : args.length = c_proctorlaw42_less.k := by rfl) : PureC Go.Proofs.Try.prog G n_proctorlaw42_less args r := PureC.of_runs Go.Proofs.Try.func12 k_proctorlaw42_less hk h

def c_report_Best_int : AFun := ⟨29, 2, [.t 4],
  (.seq (.reg [⟨some 4, .mov (.k (.int .i64 0)), none⟩]
    [0, 1])
  (.seq (.reg [⟨some 5, .mov (.k (.int .i64 (-1))), none⟩]
    [0, 1, 5])
  (.seq (.seq (.reg [⟨some 8, .mov (.t 0), none⟩,
    ⟨some 9, .len false (.t 8), none⟩,
    ⟨some 10, .mov (.k (.int .i64 0)), none⟩]
    [0, 1, 5, 8, 9, 10])
  (.block 0
    (.loop [0, 1, 5, 8, 9, 10] []
      (.seq (.reg [⟨some 11, .bin .lss (.t 10) (.t 9), none⟩]
        [0, 1, 5, 8, 9, 10, 11])
      (.seq (.cond (.t 11)
        .skip
        (.exit 0))
      (.seq (.block 1
        (.seq (.reg [⟨some 12, .mov (.t 10), none⟩,
          ⟨some 13, .iaddr 1 (.t 8) (.t 10), none⟩,
          ⟨some 14, .load (.t 13), none⟩,
          ⟨some 6, .mov (.t 12), none⟩,
          ⟨some 7, .mov (.t 14), none⟩]
          [0, 1, 5, 6, 7, 8, 9, 10])
        (.seq (.reg [⟨some 15, .mov (.t 5), none⟩,
          ⟨some 16, .bin .lss (.t 15) (.k (.int .i64 0)), none⟩,
          ⟨some 17, .mov (.t 16), none⟩,
          ⟨some 18, .mov (.t 1), (some (17, false))⟩,
          ⟨some 19, .mov (.t 7), (some (17, false))⟩,
          ⟨some 20, .mov (.t 0), (some (17, false))⟩,
          ⟨some 21, .mov (.t 5), (some (17, false))⟩,
          ⟨some 22, .iaddr 1 (.t 20) (.t 21), (some (17, false))⟩,
          ⟨some 23, .load (.t 22), (some (17, false))⟩,
          ⟨some 24, .callv (.t 18) [.t 19, .t 23], (some (17, false))⟩,
          ⟨some 25, .pick (.t 17) (.k (.bool true)) (.t 24), none⟩]
          [0, 1, 5, 6, 8, 9, 10, 25])
        (.cond (.t 25)
          (.reg [⟨some 26, .mov (.t 6), none⟩,
            ⟨some 5, .mov (.t 26), none⟩]
            [0, 1, 5, 8, 9, 10])
          .skip))))
      (.reg [⟨some 27, .bin .add (.t 10) (.k (.int .i64 1)), none⟩,
        ⟨some 10, .mov (.t 27), none⟩]
        [0, 1, 5, 8, 9, 10])))))))
  (.seq (.reg [⟨some 28, .mov (.t 5), none⟩,
    ⟨some 4, .mov (.t 28), none⟩]
    [4])
  .ret))))⟩
theorem k_report_Best_int : chkF Go.Proofs.Try.prog Go.Proofs.Try.f11 c_report_Best_int = true := by kernel_rfl
theorem pc_report_Best_int {G : Nat → Option AV} {args : List AV} {r : AV} (h : Runs Go.Proofs.Try.prog G c_report_Best_int args r) (hk : args.length = c_report_Best_int.k := by rfl) : PureC Go.Proofs.Try.prog G n_report_Best_int args r := PureC.of_runs Go.Proofs.Try.func11 k_report_Best_int hk h

def c_report_Best_driver_Outcome : AFun := ⟨29, 2, [.t 4],
  (.seq (.reg [⟨some 4, .mov (.k (.int .i64 0)), none⟩]
    [0, 1])
  (.seq (.reg [⟨some 5, .mov (.k (.int .i64 (-1))), none⟩]
    [0, 1, 5])
  (.seq (.seq (.reg [⟨some 8, .mov (.t 0), none⟩,
    ⟨some 9, .len false (.t 8), none⟩,
    ⟨some 10, .mov (.k (.int .i64 0)), none⟩]
    [0, 1, 5, 8, 9, 10])
  (.block 0
    (.loop [0, 1, 5, 8, 9, 10] []
      (.seq (.reg [⟨some 11, .bin .lss (.t 10) (.t 9), none⟩]
        [0, 1, 5, 8, 9, 10, 11])
      (.seq (.cond (.t 11)
        .skip
        (.exit 0))
      (.seq (.block 1
        (.seq (.reg [⟨some 12, .mov (.t 10), none⟩,
          ⟨some 13, .iaddr 5 (.t 8) (.t 10), none⟩,
          ⟨some 14, .loadN (.t 13) 5, none⟩,
          ⟨some 7, .alloc t_driver_Outcome 5 (.agg [.nils, .int .i64 0, .int .i64 0, .int .i64 0, .int .i64 0]), none⟩,
          ⟨some 6, .mov (.t 12), none⟩,
          ⟨none, .store (.t 7) (.t 14) 5, none⟩]
          [0, 1, 5, 6, 7, 8, 9, 10])
        (.seq (.dreg [⟨some 15, .mov (.t 5), none⟩,
          ⟨some 16, .bin .lss (.t 15) (.k (.int .i64 0)), none⟩,
          ⟨some 17, .mov (.t 16), none⟩,
          ⟨some 18, .mov (.t 1), (some (17, false))⟩,
          ⟨some 19, .loadN (.t 7) 5, (some (17, false))⟩,
          ⟨some 20, .mov (.t 0), (some (17, false))⟩,
          ⟨some 21, .mov (.t 5), (some (17, false))⟩,
          ⟨some 22, .iaddr 5 (.t 20) (.t 21), (some (17, false))⟩,
          ⟨some 23, .loadN (.t 22) 5, (some (17, false))⟩,
          ⟨some 24, .callv (.t 18) [.t 19, .t 23], (some (17, false))⟩,
          ⟨some 25, .pick (.t 17) (.k (.bool true)) (.t 24), none⟩]
          [0, 1, 5, 6, 8, 9, 10, 25])
        (.cond (.t 25)
          (.reg [⟨some 26, .mov (.t 6), none⟩,
            ⟨some 5, .mov (.t 26), none⟩]
            [0, 1, 5, 8, 9, 10])
          .skip))))
      (.reg [⟨some 27, .bin .add (.t 10) (.k (.int .i64 1)), none⟩,
        ⟨some 10, .mov (.t 27), none⟩]
        [0, 1, 5, 8, 9, 10])))))))
  (.seq (.reg [⟨some 28, .mov (.t 5), none⟩,
    ⟨some 4, .mov (.t 28), none⟩]
    [4])
  .ret))))⟩
theorem k_report_Best_driver_Outcome : chkF Go.Proofs.Try.prog Go.Proofs.Try.f33 c_report_Best_driver_Outcome = true := by kernel_rfl
theorem pc_report_Best_driver_Outcome {G : Nat → Option AV} {args : List AV} {r : AV} (h : Runs Go.Proofs.Try.prog G c_report_Best_driver_Outcome args r) (hk : args.length = c_report_Best_driver_Outcome.k := by rfl) : PureC Go.Proofs.Try.prog G n_report_Best_driver_Outcome args r := PureC.of_runs Go.Proofs.Try.func33 k_report_Best_driver_Outcome hk h

def c_report_Worst_1 : AFun := ⟨14, 2, [.t 4],
  (.seq (.reg [⟨some 2, .box t_driver_Outcome 5 (.t 0), none⟩,
    ⟨some 3, .box t_driver_Outcome 5 (.t 1), none⟩,
    ⟨some 4, .mov (.k (.bool false)), none⟩]
    [2, 3])
  (.seq (.dreg [⟨some 5, .faddr (.t 2) 0, none⟩,
    ⟨some 6, .load (.t 5), none⟩,
    ⟨some 7, .call n_report_Of [.t 6], none⟩,
    ⟨some 8, .fld (.t 7) 4, none⟩,
    ⟨some 9, .faddr (.t 3) 0, none⟩,
    ⟨some 10, .load (.t 9), none⟩,
    ⟨some 11, .call n_report_Of [.t 10], none⟩,
    ⟨some 12, .fld (.t 11) 4, none⟩,
    ⟨some 13, .bin .gtr (.t 8) (.t 12), none⟩,
    ⟨some 4, .mov (.t 13), none⟩]
    [4])
  .ret))⟩
theorem k_report_Worst_1 : chkF Go.Proofs.Try.prog Go.Proofs.Try.f34 c_report_Worst_1 = true := by kernel_rfl
theorem pc_report_Worst_1 {G : Nat → Option AV} {args : List AV} {r : AV} (h : Runs Go.Proofs.Try.prog G c_report_Worst_1 args r) (hk : args.length = c_report_Worst_1.k := by rfl) : PureC Go.Proofs.Try.prog G n_report_Worst_1 args r := PureC.of_runs Go.Proofs.Try.func34 k_report_Worst_1 hk h

def c_report_Worst : AFun := ⟨5, 1, [.t 2],
  (.seq (.reg [⟨some 2, .mov (.k (.int .i64 0)), none⟩]
    [0])
  (.seq (.reg [⟨some 3, .mov (.t 0), none⟩,
    ⟨some 4, .call n_report_Best_driver_Outcome [.t 3, .f n_report_Worst_1], none⟩,
    ⟨some 2, .mov (.t 4), none⟩]
    [2])
  .ret))⟩
theorem k_report_Worst : chkF Go.Proofs.Try.prog Go.Proofs.Try.f13 c_report_Worst = true := by kernel_rfl
theorem pc_report_Worst {G : Nat → Option AV} {args : List AV} {r : AV} (h : Runs Go.Proofs.Try.prog G c_report_Worst args r) (hk : args.length = c_report_Worst.k := by rfl) : PureC Go.Proofs.Try.prog G n_report_Worst args r := PureC.of_runs Go.Proofs.Try.func13 k_report_Worst hk h

def c_proctorref32_Right : AFun := ⟨22, 1, [.t 2],
  (.seq (.reg [⟨some 2, .mov (.k (.bool false)), none⟩]
    [0])
  (.seq (.seq (.reg [⟨some 3, .mov (.k (.int .i64 0)), none⟩]
    [0, 3])
  (.block 0
    (.loop [0, 3] []
      (.seq (.seq (.reg [⟨some 4, .mov (.t 3), none⟩,
        ⟨some 5, .mov (.t 0), none⟩,
        ⟨some 6, .len false (.t 5), none⟩,
        ⟨some 7, .bin .lss (.t 4) (.t 6), none⟩]
        [0, 3, 7])
      (.cond (.t 7)
        .skip
        (.exit 0)))
      (.seq (.block 1
        (.seq (.reg [⟨some 10, .mov (.t 0), none⟩,
          ⟨some 11, .mov (.t 3), none⟩,
          ⟨some 12, .iaddr 1 (.t 10) (.t 11), none⟩,
          ⟨some 13, .load (.t 12), none⟩,
          ⟨some 14, .bin .lss (.t 13) (.k (.int .i64 1)), none⟩,
          ⟨some 15, .mov (.t 14), none⟩,
          ⟨some 16, .mov (.t 0), (some (15, false))⟩,
          ⟨some 17, .mov (.t 3), (some (15, false))⟩,
          ⟨some 18, .iaddr 1 (.t 16) (.t 17), (some (15, false))⟩,
          ⟨some 19, .load (.t 18), (some (15, false))⟩,
          ⟨some 20, .bin .gtr (.t 19) (.k (.int .i64 4)), (some (15, false))⟩,
          ⟨some 21, .pick (.t 15) (.k (.bool true)) (.t 20), none⟩]
          [0, 3, 21])
        (.cond (.t 21)
          (.seq (.reg [⟨some 2, .mov (.k (.bool false)), none⟩]
            [2])
          .ret)
          .skip)))
      (.reg [⟨some 8, .mov (.t 3), none⟩,
        ⟨some 9, .bin .add (.t 8) (.k (.int .i64 1)), none⟩,
        ⟨some 3, .mov (.t 9), none⟩]
        [0, 3]))))))
  (.seq (.reg [⟨some 2, .mov (.k (.bool true)), none⟩]
    [2])
  .ret)))⟩
theorem k_proctorref32_Right : chkF Go.Proofs.Try.prog Go.Proofs.Try.f10 c_proctorref32_Right = true := by kernel_rfl
theorem pc_proctorref32_Right {G : Nat → Option AV} {args : List AV} {r : AV} (h : Runs Go.Proofs.Try.prog G c_proctorref32_Right args r) (hk : args.length = c_proctorref32_Right.k := by rfl) : PureC Go.Proofs.Try.prog G n_proctorref32_Right args r := PureC.of_runs Go.Proofs.Try.func10 k_proctorref32_Right hk h

def c_proctorlaw42_awake : AFun := ⟨11, 0, [.t 0],
  (.seq (.reg [⟨some 0, .mov (.k (.bool false)), none⟩]
    [])
  (.seq (.reg [⟨some 2, .mkrow t_int 1 2 (.int .i64 0) [(0, .k (.int .i64 2)), (1, .k (.int .i64 4))], none⟩,
    ⟨some 3, .call n_report_Of [.t 2], none⟩,
    ⟨some 1, .alloc t_report_Count 5 (.agg [.int .i64 0, .int .i64 0, .int .i64 0, .int .i64 0, .int .i64 0]), none⟩,
    ⟨none, .store (.t 1) (.t 3) 5, none⟩]
    [1])
  (.seq (.reg [⟨some 4, .loadN (.t 1) 5, none⟩,
    ⟨some 5, .build [.int .i64 0, .int .i64 0, .int .i64 0, .int .i64 0, .int .i64 0] [(0, 1, .k (.int .i64 2)), (1, 1, .k (.int .i64 1)), (2, 1, .k (.int .i64 1)), (3, 1, .k (.int .i64 2)), (4, 1, .k (.int .i64 4))], none⟩,
    ⟨some 6, .eqA false [0, 0, 0, 0, 0] (.t 4) (.t 5), none⟩,
    ⟨some 7, .mov (.t 6), none⟩,
    ⟨some 8, .call n_report_Worst [.k (.nils)], (some (7, true))⟩,
    ⟨some 9, .bin .eql (.t 8) (.k (.int .i64 (-1))), (some (7, true))⟩,
    ⟨some 10, .pick (.t 7) (.t 9) (.k (.bool false)), none⟩,
    ⟨some 0, .mov (.t 10), none⟩]
    [0])
  .ret)))⟩
theorem k_proctorlaw42_awake : chkF Go.Proofs.Try.prog Go.Proofs.Try.f9 c_proctorlaw42_awake = true := by kernel_rfl
theorem pc_proctorlaw42_awake {G : Nat → Option AV} {args : List AV} {r : AV} (h : Runs Go.Proofs.Try.prog G c_proctorlaw42_awake args r) (hk : args.length = c_proctorlaw42_awake.k := by rfl) : PureC Go.Proofs.Try.prog G n_proctorlaw42_awake args r := PureC.of_runs Go.Proofs.Try.func9 k_proctorlaw42_awake hk h

def c_proctorlaw42_ReportBest : AFun := ⟨94, 2, [.t 4],
  (.seq (.reg [⟨some 4, .mov (.k (.bool false)), none⟩]
    [0, 1])
  (.seq (.seq (.reg [⟨some 12, .mov (.t 0), none⟩,
    ⟨some 13, .len false (.t 12), none⟩,
    ⟨some 14, .bin .gtr (.t 13) (.k (.int .i64 50)), none⟩,
    ⟨some 15, .mov (.t 14), none⟩,
    ⟨some 16, .mov (.t 1), (some (15, false))⟩,
    ⟨some 17, .len false (.t 16), (some (15, false))⟩,
    ⟨some 18, .bin .gtr (.t 17) (.k (.int .i64 20)), (some (15, false))⟩,
    ⟨some 19, .pick (.t 15) (.k (.bool true)) (.t 18), none⟩]
    [0, 1, 19])
  (.cond (.t 19)
    (.seq (.reg [⟨some 20, .call n_proctorlaw42_awake [], none⟩,
      ⟨some 4, .mov (.t 20), none⟩]
      [4])
    .ret)
    .skip))
  (.seq (.reg [⟨some 5, .mov (.k (.int .i64 (-1))), none⟩]
    [0, 1, 5])
  (.seq (.seq (.reg [⟨some 6, .mov (.k (.int .i64 0)), none⟩]
    [0, 1, 5, 6])
  (.block 0
    (.loop [0, 1, 5, 6] []
      (.seq (.seq (.reg [⟨some 21, .mov (.t 6), none⟩,
        ⟨some 22, .mov (.t 0), none⟩,
        ⟨some 23, .len false (.t 22), none⟩,
        ⟨some 24, .bin .lss (.t 21) (.t 23), none⟩]
        [0, 1, 5, 6, 24])
      (.cond (.t 24)
        .skip
        (.exit 0)))
      (.seq (.block 1
        (.seq (.dreg [⟨some 27, .mov (.t 5), none⟩,
          ⟨some 28, .bin .lss (.t 27) (.k (.int .i64 0)), none⟩,
          ⟨some 29, .mov (.t 28), none⟩,
          ⟨some 30, .mov (.t 0), (some (29, false))⟩,
          ⟨some 31, .mov (.t 6), (some (29, false))⟩,
          ⟨some 32, .iaddr 1 (.t 30) (.t 31), (some (29, false))⟩,
          ⟨some 33, .load (.t 32), (some (29, false))⟩,
          ⟨some 34, .mov (.t 0), (some (29, false))⟩,
          ⟨some 35, .mov (.t 5), (some (29, false))⟩,
          ⟨some 36, .iaddr 1 (.t 34) (.t 35), (some (29, false))⟩,
          ⟨some 37, .load (.t 36), (some (29, false))⟩,
          ⟨some 38, .bin .lss (.t 33) (.t 37), (some (29, false))⟩,
          ⟨some 39, .pick (.t 29) (.k (.bool true)) (.t 38), none⟩]
          [0, 1, 5, 6, 39])
        (.cond (.t 39)
          (.reg [⟨some 40, .mov (.t 6), none⟩,
            ⟨some 5, .mov (.t 40), none⟩]
            [0, 1, 5, 6])
          .skip)))
      (.reg [⟨some 25, .mov (.t 6), none⟩,
        ⟨some 26, .bin .add (.t 25) (.k (.int .i64 1)), none⟩,
        ⟨some 6, .mov (.t 26), none⟩]
        [0, 1, 5, 6]))))))
  (.seq (.reg [⟨some 7, .mov (.k (.int .i64 (-1))), none⟩]
    [0, 1, 5, 7])
  (.seq (.reg [⟨some 8, .mov (.k (.int .i64 (-1))), none⟩]
    [0, 1, 5, 7, 8])
  (.seq (.seq (.reg [⟨some 9, .mov (.k (.int .i64 0)), none⟩]
    [0, 1, 5, 7, 8, 9])
  (.block 2
    (.loop [0, 1, 5, 7, 8, 9] []
      (.seq (.seq (.reg [⟨some 41, .mov (.t 9), none⟩,
        ⟨some 42, .mov (.t 1), none⟩,
        ⟨some 43, .len false (.t 42), none⟩,
        ⟨some 44, .bin .lss (.t 41) (.t 43), none⟩]
        [0, 1, 5, 7, 8, 9, 44])
      (.cond (.t 44)
        .skip
        (.exit 2)))
      (.seq (.block 3
        (.seq (.reg [⟨some 47, .mov (.t 1), none⟩,
          ⟨some 48, .mov (.t 9), none⟩,
          ⟨some 49, .iaddr 5 (.t 47) (.t 48), none⟩,
          ⟨some 50, .faddr (.t 49) 0, none⟩,
          ⟨some 51, .load (.t 50), none⟩,
          ⟨some 52, .len false (.t 51), none⟩,
          ⟨some 10, .mov (.t 52), none⟩]
          [0, 1, 5, 7, 8, 9, 10])
        (.seq (.seq (.reg [⟨some 53, .mov (.t 10), none⟩,
          ⟨some 54, .bin .gtr (.t 53) (.k (.int .i64 50)), none⟩,
          ⟨some 55, .mov (.t 54), none⟩,
          ⟨some 56, .mov (.t 1), (some (55, false))⟩,
          ⟨some 57, .mov (.t 9), (some (55, false))⟩,
          ⟨some 58, .iaddr 5 (.t 56) (.t 57), (some (55, false))⟩,
          ⟨some 59, .faddr (.t 58) 0, (some (55, false))⟩,
          ⟨some 60, .load (.t 59), (some (55, false))⟩,
          ⟨some 61, .call n_proctorref32_Right [.t 60], (some (55, false))⟩,
          ⟨some 62, .un .not (.t 61), (some (55, false))⟩,
          ⟨some 63, .pick (.t 55) (.k (.bool true)) (.t 62), none⟩]
          [0, 1, 5, 7, 8, 9, 10, 63])
        (.cond (.t 63)
          (.seq (.reg [⟨some 64, .call n_proctorlaw42_awake [], none⟩,
            ⟨some 4, .mov (.t 64), none⟩]
            [4])
          .ret)
          .skip))
        (.seq (.reg [⟨some 11, .mov (.k (.int .i64 0)), none⟩]
          [0, 1, 5, 7, 8, 9, 10, 11])
        (.seq (.seq (.reg [⟨some 65, .mov (.t 10), none⟩,
          ⟨some 66, .bin .gtr (.t 65) (.k (.int .i64 0)), none⟩]
          [0, 1, 5, 7, 8, 9, 10, 11, 66])
        (.cond (.t 66)
          (.reg [⟨some 67, .mov (.t 1), none⟩,
            ⟨some 68, .mov (.t 9), none⟩,
            ⟨some 69, .iaddr 5 (.t 67) (.t 68), none⟩,
            ⟨some 70, .faddr (.t 69) 0, none⟩,
            ⟨some 71, .load (.t 70), none⟩,
            ⟨some 72, .mov (.t 10), none⟩,
            ⟨some 73, .bin .sub (.t 72) (.k (.int .i64 1)), none⟩,
            ⟨some 74, .iaddr 1 (.t 71) (.t 73), none⟩,
            ⟨some 75, .load (.t 74), none⟩,
            ⟨some 11, .mov (.t 75), none⟩]
            [0, 1, 5, 7, 8, 9, 11])
          .skip))
        (.seq (.reg [⟨some 76, .mov (.t 11), none⟩,
          ⟨some 77, .mov (.t 8), none⟩,
          ⟨some 78, .bin .gtr (.t 76) (.t 77), none⟩]
          [0, 1, 5, 7, 8, 9, 11, 78])
        (.cond (.t 78)
          (.seq (.reg [⟨some 79, .mov (.t 11), none⟩,
            ⟨some 8, .mov (.t 79), none⟩]
            [0, 1, 5, 8, 9])
          (.reg [⟨some 80, .mov (.t 9), none⟩,
            ⟨some 7, .mov (.t 80), none⟩]
            [0, 1, 5, 7, 8, 9]))
          .skip)))))))
      (.reg [⟨some 45, .mov (.t 9), none⟩,
        ⟨some 46, .bin .add (.t 45) (.k (.int .i64 1)), none⟩,
        ⟨some 9, .mov (.t 46), none⟩]
        [0, 1, 5, 7, 8, 9]))))))
  (.seq (.reg [⟨some 81, .mov (.t 0), none⟩,
    ⟨some 82, .call n_report_Best_int [.t 81, .f n_proctorlaw42_less], none⟩,
    ⟨some 83, .mov (.t 5), none⟩,
    ⟨some 84, .bin .eql (.t 82) (.t 83), none⟩,
    ⟨some 85, .mov (.t 84), none⟩,
    ⟨some 86, .mov (.t 1), (some (85, true))⟩,
    ⟨some 87, .call n_report_Worst [.t 86], (some (85, true))⟩,
    ⟨some 88, .mov (.t 7), (some (85, true))⟩,
    ⟨some 89, .bin .eql (.t 87) (.t 88), (some (85, true))⟩,
    ⟨some 90, .pick (.t 85) (.t 89) (.k (.bool false)), none⟩,
    ⟨some 91, .mov (.t 90), none⟩,
    ⟨some 92, .call n_proctorlaw42_awake [], (some (91, true))⟩,
    ⟨some 93, .pick (.t 91) (.t 92) (.k (.bool false)), none⟩,
    ⟨some 4, .mov (.t 93), none⟩]
    [4])
  .ret))))))))⟩
theorem k_proctorlaw42_ReportBest : chkF Go.Proofs.Try.prog Go.Proofs.Try.f4 c_proctorlaw42_ReportBest = true := by kernel_rfl
theorem pc_proctorlaw42_ReportBest {G : Nat → Option AV} {args : List AV} {r : AV} (h : Runs Go.Proofs.Try.prog G c_proctorlaw42_ReportBest args r) (hk : args.length = c_proctorlaw42_ReportBest.k := by rfl) : PureC Go.Proofs.Try.prog G n_proctorlaw42_ReportBest args r := PureC.of_runs Go.Proofs.Try.func4 k_proctorlaw42_ReportBest hk h


end Go.Proofs.Ytdfdiglnpekcpaa.Ab
