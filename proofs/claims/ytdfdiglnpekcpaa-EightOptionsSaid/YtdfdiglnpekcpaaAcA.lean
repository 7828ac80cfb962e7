/-
  The functions' abstract code, by program (acgen.py), and that the model's code is it, reckoned by the kernel.
-/
import Derived.Test.YtdfdiglnpekcpaaAbRun
import Derived.Test.YtdfdiglnpekcpaaProg
namespace Go.Proofs.Ytdfdiglnpekcpaa.Ab
open Go

abbrev t_int : Nat := 3
abbrev t_engine_Options : Nat := 23
abbrev t_api_Value : Nat := 43
abbrev t_api_Slot : Nat := 47
abbrev t_report_Count : Nat := 54
abbrev n_proctorlaw43_EightOptions : Nat := 3
abbrev n_eight_Options : Nat := 7
abbrev n_proctorlaw43_awake : Nat := 8
abbrev n_proctorlaw42_awake : Nat := 9
abbrev n_proctorref32_Right : Nat := 10
abbrev n_proctorlaw42_less : Nat := 12
abbrev n_report_Worst : Nat := 13
abbrev n_proctorref05_Get : Nat := 18
abbrev n_proctorref05_Union : Nat := 19
abbrev n_report_Of : Nat := 32
abbrev n_verdict_IsTrue : Nat := 45

def c_eight_Options : AFun := ⟨20, 2, [.cells 4 4],
  (.seq (.reg [⟨some 4, .alloc t_engine_Options 4 (.agg [.bool false, .bool false, .bool false, .int .i64 0]), none⟩]
    [0, 1, 4])
  (.seq (.reg [⟨some 5, .mov (.t 0), none⟩,
    ⟨some 6, .bin .rem (.t 5) (.k (.int .i64 8)), none⟩,
    ⟨some 7, .bin .add (.t 6) (.k (.int .i64 8)), none⟩,
    ⟨some 8, .bin .rem (.t 7) (.k (.int .i64 8)), none⟩,
    ⟨some 0, .mov (.t 8), none⟩]
    [0, 1, 4])
  (.seq (.reg [⟨some 9, .mov (.t 0), none⟩,
    ⟨some 10, .bin .and (.t 9) (.k (.int .i64 1)), none⟩,
    ⟨some 11, .bin .gtr (.t 10) (.k (.int .i64 0)), none⟩,
    ⟨some 12, .mov (.t 0), none⟩,
    ⟨some 13, .bin .and (.t 12) (.k (.int .i64 2)), none⟩,
    ⟨some 14, .bin .gtr (.t 13) (.k (.int .i64 0)), none⟩,
    ⟨some 15, .mov (.t 0), none⟩,
    ⟨some 16, .bin .and (.t 15) (.k (.int .i64 4)), none⟩,
    ⟨some 17, .bin .gtr (.t 16) (.k (.int .i64 0)), none⟩,
    ⟨some 18, .mov (.t 1), none⟩,
    ⟨some 19, .build [.bool false, .bool false, .bool false, .int .i64 0] [(0, 1, .t 11), (1, 1, .t 14), (2, 1, .t 17), (3, 1, .t 18)], none⟩,
    ⟨none, .store (.t 4) (.t 19) 4, none⟩]
    [4])
  .ret)))⟩
theorem k_eight_Options : chkF Go.Proofs.Try.prog Go.Proofs.Try.f7 c_eight_Options = true := by kernel_rfl

def c_proctorlaw43_awake : AFun := ⟨8, 0, [.t 0],
  (.seq (.reg [⟨some 0, .mov (.k (.bool false)), none⟩]
    [])
  (.seq (.reg [⟨some 1, .call n_eight_Options [.k (.int .i64 6), .k (.int .i64 3)], none⟩,
    ⟨some 2, .build [.bool false, .bool false, .bool false, .int .i64 0] [(1, 1, .k (.bool true)), (2, 1, .k (.bool true)), (3, 1, .k (.int .i64 3))], none⟩,
    ⟨some 3, .eqA false [2, 2, 2, 0] (.t 1) (.t 2), none⟩,
    ⟨some 4, .mov (.t 3), none⟩,
    ⟨some 5, .call n_eight_Options [.k (.int .i64 (-1)), .k (.int .i64 0)], (some (4, true))⟩,
    ⟨some 6, .fld (.t 5) 0, (some (4, true))⟩,
    ⟨some 7, .pick (.t 4) (.t 6) (.k (.bool false)), none⟩,
    ⟨some 0, .mov (.t 7), none⟩]
    [0])
  .ret))⟩
theorem k_proctorlaw43_awake : chkF Go.Proofs.Try.prog Go.Proofs.Try.f8 c_proctorlaw43_awake = true := by kernel_rfl

def c_proctorlaw43_EightOptions : AFun := ⟨47, 2, [.t 4],
  (.seq (.reg [⟨some 4, .mov (.k (.bool false)), none⟩]
    [0, 1])
  (.seq (.reg [⟨some 7, .mov (.t 0), none⟩,
    ⟨some 8, .bin .rem (.t 7) (.k (.int .i64 8)), none⟩,
    ⟨some 5, .mov (.t 8), none⟩]
    [0, 1, 5])
  (.seq (.seq (.reg [⟨some 9, .mov (.t 5), none⟩,
    ⟨some 10, .bin .lss (.t 9) (.k (.int .i64 0)), none⟩]
    [0, 1, 5, 10])
  (.cond (.t 10)
    (.reg [⟨some 11, .mov (.t 5), none⟩,
      ⟨some 12, .bin .add (.t 11) (.k (.int .i64 8)), none⟩,
      ⟨some 5, .mov (.t 12), none⟩]
      [0, 1, 5])
    .skip))
  (.seq (.reg [⟨some 13, .mov (.t 0), none⟩,
    ⟨some 14, .mov (.t 1), none⟩,
    ⟨some 15, .call n_eight_Options [.t 13, .t 14], none⟩,
    ⟨some 6, .alloc t_engine_Options 4 (.agg [.bool false, .bool false, .bool false, .int .i64 0]), none⟩,
    ⟨none, .store (.t 6) (.t 15) 4, none⟩]
    [1, 5, 6])
  (.seq (.reg [⟨some 16, .faddr (.t 6) 0, none⟩,
    ⟨some 17, .load (.t 16), none⟩,
    ⟨some 18, .mov (.t 5), none⟩,
    ⟨some 19, .bin .rem (.t 18) (.k (.int .i64 2)), none⟩,
    ⟨some 20, .bin .eql (.t 19) (.k (.int .i64 1)), none⟩,
    ⟨some 21, .eqB false (.t 17) (.t 20), none⟩,
    ⟨some 22, .mov (.t 21), none⟩,
    ⟨some 23, .faddr (.t 6) 1, (some (22, true))⟩,
    ⟨some 24, .load (.t 23), (some (22, true))⟩,
    ⟨some 25, .mov (.t 5), (some (22, true))⟩,
    ⟨some 26, .bin .quo (.t 25) (.k (.int .i64 2)), (some (22, true))⟩,
    ⟨some 27, .bin .rem (.t 26) (.k (.int .i64 2)), (some (22, true))⟩,
    ⟨some 28, .bin .eql (.t 27) (.k (.int .i64 1)), (some (22, true))⟩,
    ⟨some 29, .eqB false (.t 24) (.t 28), (some (22, true))⟩,
    ⟨some 30, .pick (.t 22) (.t 29) (.k (.bool false)), none⟩,
    ⟨some 31, .mov (.t 30), none⟩,
    ⟨some 32, .faddr (.t 6) 2, (some (31, true))⟩,
    ⟨some 33, .load (.t 32), (some (31, true))⟩,
    ⟨some 34, .mov (.t 5), (some (31, true))⟩,
    ⟨some 35, .bin .geq (.t 34) (.k (.int .i64 4)), (some (31, true))⟩,
    ⟨some 36, .eqB false (.t 33) (.t 35), (some (31, true))⟩,
    ⟨some 37, .pick (.t 31) (.t 36) (.k (.bool false)), none⟩,
    ⟨some 38, .mov (.t 37), none⟩,
    ⟨some 39, .faddr (.t 6) 3, (some (38, true))⟩,
    ⟨some 40, .load (.t 39), (some (38, true))⟩,
    ⟨some 41, .mov (.t 1), (some (38, true))⟩,
    ⟨some 42, .bin .eql (.t 40) (.t 41), (some (38, true))⟩,
    ⟨some 43, .pick (.t 38) (.t 42) (.k (.bool false)), none⟩,
    ⟨some 44, .mov (.t 43), none⟩,
    ⟨some 45, .call n_proctorlaw43_awake [], (some (44, true))⟩,
    ⟨some 46, .pick (.t 44) (.t 45) (.k (.bool false)), none⟩,
    ⟨some 4, .mov (.t 46), none⟩]
    [4])
  .ret)))))⟩
theorem k_proctorlaw43_EightOptions : chkF Go.Proofs.Try.prog Go.Proofs.Try.f3 c_proctorlaw43_EightOptions = true := by kernel_rfl

def c_proctorref05_Get : AFun := ⟨26, 2, [.cells 4 4, .t 5],
  (.seq (.reg [⟨some 4, .alloc t_api_Value 4 (.agg [.int .i64 0, .int .i64 0, .str [], .bool false]), none⟩,
    ⟨some 5, .mov (.k (.bool false)), none⟩]
    [0, 1, 4])
  (.seq (.seq (.reg [⟨some 6, .mov (.k (.int .i64 0)), none⟩]
    [0, 1, 4, 6])
  (.block 0
    (.loop [0, 1, 4, 6] [4]
      (.seq (.seq (.reg [⟨some 7, .mov (.t 6), none⟩,
        ⟨some 8, .mov (.t 0), none⟩,
        ⟨some 9, .len false (.t 8), none⟩,
        ⟨some 10, .bin .lss (.t 7) (.t 9), none⟩]
        [0, 1, 4, 6, 10])
      (.cond (.t 10)
        .skip
        (.exit 0)))
      (.seq (.block 1
        (.seq (.reg [⟨some 13, .mov (.t 0), none⟩,
          ⟨some 14, .mov (.t 6), none⟩,
          ⟨some 15, .iaddr 5 (.t 13) (.t 14), none⟩,
          ⟨some 16, .faddr (.t 15) 0, none⟩,
          ⟨some 17, .load (.t 16), none⟩,
          ⟨some 18, .mov (.t 1), none⟩,
          ⟨some 19, .bin .eql (.t 17) (.t 18), none⟩]
          [0, 1, 4, 6, 19])
        (.cond (.t 19)
          (.seq (.reg [⟨some 20, .mov (.t 0), none⟩,
            ⟨some 21, .mov (.t 6), none⟩,
            ⟨some 22, .iaddr 5 (.t 20) (.t 21), none⟩,
            ⟨some 23, .faddr (.t 22) 1, none⟩,
            ⟨some 24, .loadN (.t 23) 4, none⟩,
            ⟨none, .store (.t 4) (.t 24) 4, none⟩,
            ⟨some 5, .mov (.k (.bool true)), none⟩]
            [4, 5])
          .ret)
          .skip)))
      (.reg [⟨some 11, .mov (.t 6), none⟩,
        ⟨some 12, .bin .add (.t 11) (.k (.int .i64 1)), none⟩,
        ⟨some 6, .mov (.t 12), none⟩]
        [0, 1, 4, 6]))))))
  (.seq (.reg [⟨some 25, .build [.int .i64 0, .int .i64 0, .str [], .bool false] [], none⟩,
    ⟨none, .store (.t 4) (.t 25) 4, none⟩,
    ⟨some 5, .mov (.k (.bool false)), none⟩]
    [4, 5])
  .ret)))⟩
theorem k_proctorref05_Get : chkF Go.Proofs.Try.prog Go.Proofs.Try.f18 c_proctorref05_Get = true := by kernel_rfl

def c_proctorref05_Union : AFun := ⟨42, 2, [.t 4],
  (.seq (.reg [⟨some 4, .nilrow t_api_Slot 5, none⟩]
    [0, 1])
  (.seq (.reg [⟨some 5, .nilrow t_api_Slot 5, none⟩]
    [0, 1, 5])
  (.seq (.seq (.reg [⟨some 6, .mov (.k (.int .i64 0)), none⟩]
    [0, 1, 5, 6])
  (.block 0
    (.loop [0, 1, 5, 6] [4, 5]
      (.seq (.seq (.reg [⟨some 11, .mov (.t 6), none⟩,
        ⟨some 12, .bin .lss (.t 11) (.k (.int .i64 8)), none⟩]
        [0, 1, 5, 6, 12])
      (.cond (.t 12)
        .skip
        (.exit 0)))
      (.seq (.block 1
        (.seq (.reg [⟨some 16, .mov (.t 0), none⟩,
          ⟨some 17, .mov (.t 6), none⟩,
          ⟨some 18, .call n_proctorref05_Get [.t 16, .t 17], none⟩,
          ⟨some 15, .mov (.t 18), none⟩,
          ⟨some 19, .ext (.t 15) 0, none⟩,
          ⟨some 20, .ext (.t 15) 1, none⟩,
          ⟨some 7, .alloc t_api_Value 4 (.agg [.int .i64 0, .int .i64 0, .str [], .bool false]), none⟩,
          ⟨none, .store (.t 7) (.t 19) 4, none⟩,
          ⟨some 8, .mov (.t 20), none⟩]
          [0, 1, 5, 6, 7, 8])
        (.seq (.reg [⟨some 22, .mov (.t 1), none⟩,
          ⟨some 23, .mov (.t 6), none⟩,
          ⟨some 24, .call n_proctorref05_Get [.t 22, .t 23], none⟩,
          ⟨some 21, .mov (.t 24), none⟩,
          ⟨some 25, .ext (.t 21) 0, none⟩,
          ⟨some 26, .ext (.t 21) 1, none⟩,
          ⟨some 9, .alloc t_api_Value 4 (.agg [.int .i64 0, .int .i64 0, .str [], .bool false]), none⟩,
          ⟨none, .store (.t 9) (.t 25) 4, none⟩,
          ⟨some 10, .mov (.t 26), none⟩]
          [0, 1, 5, 6, 7, 8, 9, 10])
        (.seq (.reg [⟨some 27, .mov (.t 8), none⟩]
          [0, 1, 5, 6, 7, 9, 10, 27])
        (.cond (.t 27)
          (.reg [⟨some 28, .mov (.t 5), none⟩,
            ⟨some 29, .mov (.t 6), none⟩,
            ⟨some 30, .loadN (.t 7) 4, none⟩,
            ⟨some 31, .build [.int .i64 0, .int .i64 0, .int .i64 0, .str [], .bool false] [(0, 1, .t 29), (1, 4, .t 30)], none⟩,
            ⟨some 32, .mkrow t_api_Slot 5 1 (.agg [.int .i64 0, .int .i64 0, .int .i64 0, .str [], .bool false]) [(0, .t 31)], none⟩,
            ⟨some 33, .app t_api_Slot 5 48 (.t 28) (.t 32), none⟩,
            ⟨some 5, .mov (.t 33), none⟩]
            [0, 1, 5, 6])
          (.seq (.reg [⟨some 34, .mov (.t 10), none⟩]
            [0, 1, 5, 6, 9, 34])
          (.cond (.t 34)
            (.reg [⟨some 35, .mov (.t 5), none⟩,
              ⟨some 36, .mov (.t 6), none⟩,
              ⟨some 37, .loadN (.t 9) 4, none⟩,
              ⟨some 38, .build [.int .i64 0, .int .i64 0, .int .i64 0, .str [], .bool false] [(0, 1, .t 36), (1, 4, .t 37)], none⟩,
              ⟨some 39, .mkrow t_api_Slot 5 1 (.agg [.int .i64 0, .int .i64 0, .int .i64 0, .str [], .bool false]) [(0, .t 38)], none⟩,
              ⟨some 40, .app t_api_Slot 5 48 (.t 35) (.t 39), none⟩,
              ⟨some 5, .mov (.t 40), none⟩]
              [0, 1, 5, 6])
            .skip)))))))
      (.reg [⟨some 13, .mov (.t 6), none⟩,
        ⟨some 14, .bin .add (.t 13) (.k (.int .i64 1)), none⟩,
        ⟨some 6, .mov (.t 14), none⟩]
        [0, 1, 5, 6]))))))
  (.seq (.reg [⟨some 41, .mov (.t 5), none⟩,
    ⟨some 4, .mov (.t 41), none⟩]
    [4])
  .ret))))⟩
theorem k_proctorref05_Union : chkF Go.Proofs.Try.prog Go.Proofs.Try.f19 c_proctorref05_Union = true := by kernel_rfl

def c_proctorref32_Right : AFun := ⟨22, 1, [.t 2],
  (.seq (.reg [⟨some 2, .mov (.k (.bool false)), none⟩]
    [0])
  (.seq (.seq (.reg [⟨some 3, .mov (.k (.int .i64 0)), none⟩]
    [0, 3])
  (.block 0
    (.loop [0, 3] []
      (.seq (.seq (.reg [⟨some 4, .mov (.t 3), none⟩,
        ⟨some 5, .mov (.t 0), none⟩,
        ⟨some 6, .len false (.t 5), none⟩,
        ⟨some 7, .bin .lss (.t 4) (.t 6), none⟩]
        [0, 3, 7])
      (.cond (.t 7)
        .skip
        (.exit 0)))
      (.seq (.block 1
        (.seq (.reg [⟨some 10, .mov (.t 0), none⟩,
          ⟨some 11, .mov (.t 3), none⟩,
          ⟨some 12, .iaddr 1 (.t 10) (.t 11), none⟩,
          ⟨some 13, .load (.t 12), none⟩,
          ⟨some 14, .bin .lss (.t 13) (.k (.int .i64 1)), none⟩,
          ⟨some 15, .mov (.t 14), none⟩,
          ⟨some 16, .mov (.t 0), (some (15, false))⟩,
          ⟨some 17, .mov (.t 3), (some (15, false))⟩,
          ⟨some 18, .iaddr 1 (.t 16) (.t 17), (some (15, false))⟩,
          ⟨some 19, .load (.t 18), (some (15, false))⟩,
          ⟨some 20, .bin .gtr (.t 19) (.k (.int .i64 4)), (some (15, false))⟩,
          ⟨some 21, .pick (.t 15) (.k (.bool true)) (.t 20), none⟩]
          [0, 3, 21])
        (.cond (.t 21)
          (.seq (.reg [⟨some 2, .mov (.k (.bool false)), none⟩]
            [2])
          .ret)
          .skip)))
      (.reg [⟨some 8, .mov (.t 3), none⟩,
        ⟨some 9, .bin .add (.t 8) (.k (.int .i64 1)), none⟩,
        ⟨some 3, .mov (.t 9), none⟩]
        [0, 3]))))))
  (.seq (.reg [⟨some 2, .mov (.k (.bool true)), none⟩]
    [2])
  .ret)))⟩
theorem k_proctorref32_Right : chkF Go.Proofs.Try.prog Go.Proofs.Try.f10 c_proctorref32_Right = true := by kernel_rfl

def c_proctorlaw42_less : AFun := ⟨8, 2, [.t 4],
  (.seq (.reg [⟨some 4, .mov (.k (.bool false)), none⟩]
    [0, 1])
  (.seq (.reg [⟨some 5, .mov (.t 0), none⟩,
    ⟨some 6, .mov (.t 1), none⟩,
    ⟨some 7, .bin .lss (.t 5) (.t 6), none⟩,
    ⟨some 4, .mov (.t 7), none⟩]
    [4])
  .ret))⟩
theorem k_proctorlaw42_less : chkF Go.Proofs.Try.prog Go.Proofs.Try.f12 c_proctorlaw42_less = true := by kernel_rfl

def c_proctorlaw42_awake : AFun := ⟨11, 0, [.t 0],
  (.seq (.reg [⟨some 0, .mov (.k (.bool false)), none⟩]
    [])
  (.seq (.reg [⟨some 2, .mkrow t_int 1 2 (.int .i64 0) [(0, .k (.int .i64 2)), (1, .k (.int .i64 4))], none⟩,
    ⟨some 3, .call n_report_Of [.t 2], none⟩,
    ⟨some 1, .alloc t_report_Count 5 (.agg [.int .i64 0, .int .i64 0, .int .i64 0, .int .i64 0, .int .i64 0]), none⟩,
    ⟨none, .store (.t 1) (.t 3) 5, none⟩]
    [1])
  (.seq (.reg [⟨some 4, .loadN (.t 1) 5, none⟩,
    ⟨some 5, .build [.int .i64 0, .int .i64 0, .int .i64 0, .int .i64 0, .int .i64 0] [(0, 1, .k (.int .i64 2)), (1, 1, .k (.int .i64 1)), (2, 1, .k (.int .i64 1)), (3, 1, .k (.int .i64 2)), (4, 1, .k (.int .i64 4))], none⟩,
    ⟨some 6, .eqA false [0, 0, 0, 0, 0] (.t 4) (.t 5), none⟩,
    ⟨some 7, .mov (.t 6), none⟩,
    ⟨some 8, .call n_report_Worst [.k (.nils)], (some (7, true))⟩,
    ⟨some 9, .bin .eql (.t 8) (.k (.int .i64 (-1))), (some (7, true))⟩,
    ⟨some 10, .pick (.t 7) (.t 9) (.k (.bool false)), none⟩,
    ⟨some 0, .mov (.t 10), none⟩]
    [0])
  .ret)))⟩
theorem k_proctorlaw42_awake : chkF Go.Proofs.Try.prog Go.Proofs.Try.f9 c_proctorlaw42_awake = true := by kernel_rfl

def c_verdict_IsTrue : AFun := ⟨9, 1, [.t 2],
  (.seq (.reg [⟨some 2, .mov (.k (.bool false)), none⟩]
    [0])
  (.seq (.reg [⟨some 3, .mov (.t 0), none⟩,
    ⟨some 4, .bin .eql (.t 3) (.k (.int .i64 1)), none⟩,
    ⟨some 5, .mov (.t 4), none⟩,
    ⟨some 6, .mov (.t 0), (some (5, false))⟩,
    ⟨some 7, .bin .eql (.t 6) (.k (.int .i64 2)), (some (5, false))⟩,
    ⟨some 8, .pick (.t 5) (.k (.bool true)) (.t 7), none⟩,
    ⟨some 2, .mov (.t 8), none⟩]
    [2])
  .ret))⟩
theorem k_verdict_IsTrue : chkF Go.Proofs.Try.prog Go.Proofs.Try.f45 c_verdict_IsTrue = true := by kernel_rfl


end Go.Proofs.Ytdfdiglnpekcpaa.Ab
