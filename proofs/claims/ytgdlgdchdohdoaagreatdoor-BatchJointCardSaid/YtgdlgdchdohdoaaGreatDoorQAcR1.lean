/-
  The functions' abstract code, by program (acgen.py), and that the model's code is it, reckoned by the kernel. No claim is proved here.
-/
import Derived.Test.YtgdlgdchdohdoaaGreatDoorQAcR0
namespace Go.Proofs.YtgdlgdchdohdoaaGreatDoor.Ab
open Go
def c_proctorlaw44_BatchJoint : AFun := ⟨88, 1, [.t 2],
  (.seq (.reg [⟨some 2, .mov (.k (.bool false)), none⟩]
[0])
(.seq (.seq (.reg [⟨some 9, .mov (.t 0), none⟩,
⟨some 10, .len false (.t 9), none⟩,
⟨some 11, .bin .gtr (.t 10) (.k (.int .i64 12)), none⟩]
[0, 11])
(.cond (.t 11)
(.seq (.reg [⟨some 12, .call n_proctorlaw44_awake [], none⟩,
⟨some 2, .mov (.t 12), none⟩]
[2])
.ret)
.skip))
(.seq (.reg [⟨some 3, .mov (.k (.int .i64 0)), none⟩]
[0, 3])
(.seq (.seq (.reg [⟨some 4, .mov (.k (.int .i64 0)), none⟩]
[0, 3, 4])
(.block 0
(.loop [0, 3, 4] [10, 12]
  (.seq (.seq (.reg [⟨some 13, .mov (.t 4), none⟩,
⟨some 14, .mov (.t 0), none⟩,
⟨some 15, .len false (.t 14), none⟩,
⟨some 16, .bin .lss (.t 13) (.t 15), none⟩]
[0, 3, 4, 16])
(.cond (.t 16)
.skip
(.exit 0)))
(.seq (.block 1
(.seq (.seq (.reg [⟨some 19, .mov (.t 0), none⟩,
⟨some 20, .mov (.t 4), none⟩,
⟨some 21, .iaddr 5 (.t 19) (.t 20), none⟩,
⟨some 22, .faddr (.t 21) 0, none⟩,
⟨some 23, .load (.t 22), none⟩,
⟨some 24, .len false (.t 23), none⟩,
⟨some 25, .bin .gtr (.t 24) (.k (.int .i64 100)), none⟩,
⟨some 26, .mov (.t 25), none⟩,
⟨some 27, .mov (.t 0), (some (26, false))⟩,
⟨some 28, .mov (.t 4), (some (26, false))⟩,
⟨some 29, .iaddr 5 (.t 27) (.t 28), (some (26, false))⟩,
⟨some 30, .faddr (.t 29) 0, (some (26, false))⟩,
⟨some 31, .load (.t 30), (some (26, false))⟩,
⟨some 32, .call n_proctorref32_Right [.t 31], (some (26, false))⟩,
⟨some 33, .un .not (.t 32), (some (26, false))⟩,
⟨some 34, .pick (.t 26) (.k (.bool true)) (.t 33), none⟩]
[0, 3, 4, 34])
(.cond (.t 34)
(.seq (.reg [⟨some 35, .call n_proctorlaw44_awake [], none⟩,
⟨some 2, .mov (.t 35), none⟩]
[2])
.ret)
.skip))
(.seq (.reg [⟨some 36, .mov (.t 4), none⟩,
⟨some 37, .bin .eql (.t 36) (.k (.int .i64 0)), none⟩,
⟨some 38, .mov (.t 37), none⟩,
⟨some 39, .mov (.t 0), (some (38, false))⟩,
⟨some 40, .mov (.t 4), (some (38, false))⟩,
⟨some 41, .iaddr 5 (.t 39) (.t 40), (some (38, false))⟩,
⟨some 42, .faddr (.t 41) 0, (some (38, false))⟩,
⟨some 43, .load (.t 42), (some (38, false))⟩,
⟨some 44, .len false (.t 43), (some (38, false))⟩,
⟨some 45, .mov (.t 3), (some (38, false))⟩,
⟨some 46, .bin .lss (.t 44) (.t 45), (some (38, false))⟩,
⟨some 47, .pick (.t 38) (.k (.bool true)) (.t 46), none⟩]
[0, 3, 4, 47])
(.cond (.t 47)
(.reg [⟨some 48, .mov (.t 0), none⟩,
⟨some 49, .mov (.t 4), none⟩,
⟨some 50, .iaddr 5 (.t 48) (.t 49), none⟩,
⟨some 51, .faddr (.t 50) 0, none⟩,
⟨some 52, .load (.t 51), none⟩,
⟨some 53, .len false (.t 52), none⟩,
⟨some 3, .mov (.t 53), none⟩]
[0, 3, 4])
.skip))))
(.reg [⟨some 17, .mov (.t 4), none⟩,
⟨some 18, .bin .add (.t 17) (.k (.int .i64 1)), none⟩,
⟨some 4, .mov (.t 18), none⟩]
[0, 3, 4]))))))
(.seq (.reg [⟨some 54, .mov (.t 0), none⟩,
⟨some 55, .call n_batch_Joint [.t 54], none⟩,
⟨some 5, .mov (.t 55), none⟩]
[0, 3, 5])
(.seq (.seq (.reg [⟨some 56, .mov (.t 5), none⟩,
⟨some 57, .len false (.t 56), none⟩,
⟨some 58, .mov (.t 3), none⟩,
⟨some 59, .bin .neq (.t 57) (.t 58), none⟩]
[0, 3, 5, 59])
(.cond (.t 59)
(.seq (.reg [⟨some 2, .mov (.k (.bool false)), none⟩]
[2])
.ret)
.skip))
(.seq (.seq (.reg [⟨some 6, .mov (.k (.int .i64 0)), none⟩]
[0, 3, 5, 6])
(.block 2
(.loop [0, 3, 5, 6] [10, 12, 15, 24, 32, 35, 44, 53, 55, 57]
  (.seq (.seq (.reg [⟨some 60, .mov (.t 6), none⟩,
⟨some 61, .mov (.t 3), none⟩,
⟨some 62, .bin .lss (.t 60) (.t 61), none⟩]
[0, 3, 5, 6, 62])
(.cond (.t 62)
.skip
(.exit 2)))
(.seq (.block 3
(.seq (.reg [⟨some 7, .mov (.k (.int .i64 1)), none⟩]
[0, 3, 5, 6, 7])
(.seq (.seq (.reg [⟨some 8, .mov (.k (.int .i64 0)), none⟩]
[0, 3, 5, 6, 7, 8])
(.block 4
(.loop [0, 3, 5, 6, 7, 8] [10, 12, 15, 24, 32, 35, 44, 53, 55, 57]
  (.seq (.seq (.reg [⟨some 65, .mov (.t 8), none⟩,
⟨some 66, .mov (.t 0), none⟩,
⟨some 67, .len false (.t 66), none⟩,
⟨some 68, .bin .lss (.t 65) (.t 67), none⟩]
[0, 3, 5, 6, 7, 8, 68])
(.cond (.t 68)
.skip
(.exit 4)))
(.seq (.block 5
(.reg [⟨some 71, .mov (.t 7), none⟩,
⟨some 72, .mov (.t 0), none⟩,
⟨some 73, .mov (.t 8), none⟩,
⟨some 74, .iaddr 5 (.t 72) (.t 73), none⟩,
⟨some 75, .faddr (.t 74) 0, none⟩,
⟨some 76, .load (.t 75), none⟩,
⟨some 77, .mov (.t 6), none⟩,
⟨some 78, .iaddr 1 (.t 76) (.t 77), none⟩,
⟨some 79, .load (.t 78), none⟩,
⟨some 80, .mx false (.t 71) (.t 79), none⟩,
⟨some 7, .mov (.t 80), none⟩]
[0, 3, 5, 6, 7, 8]))
(.reg [⟨some 69, .mov (.t 8), none⟩,
⟨some 70, .bin .add (.t 69) (.k (.int .i64 1)), none⟩,
⟨some 8, .mov (.t 70), none⟩]
[0, 3, 5, 6, 7, 8]))))))
(.seq (.reg [⟨some 81, .mov (.t 5), none⟩,
⟨some 82, .mov (.t 6), none⟩,
⟨some 83, .iaddr 1 (.t 81) (.t 82), none⟩,
⟨some 84, .load (.t 83), none⟩,
⟨some 85, .mov (.t 7), none⟩,
⟨some 86, .bin .neq (.t 84) (.t 85), none⟩]
[0, 3, 5, 6, 86])
(.cond (.t 86)
(.seq (.reg [⟨some 2, .mov (.k (.bool false)), none⟩]
[2])
.ret)
.skip)))))
(.reg [⟨some 63, .mov (.t 6), none⟩,
⟨some 64, .bin .add (.t 63) (.k (.int .i64 1)), none⟩,
⟨some 6, .mov (.t 64), none⟩]
[0, 3, 5, 6]))))))
(.seq (.reg [⟨some 87, .call n_proctorlaw44_awake [], none⟩,
⟨some 2, .mov (.t 87), none⟩]
[2])
.ret))))))))⟩
theorem k_proctorlaw44_BatchJoint : chkF Go.Proofs.Tryz.prog Go.Proofs.Tryz.f3 c_proctorlaw44_BatchJoint = true := by kernel_rfl
theorem pc_proctorlaw44_BatchJoint {G : Nat → Option AV} {args : List AV} {r : AV} (h : Runs Go.Proofs.Tryz.prog G c_proctorlaw44_BatchJoint args r) (hk : args.length = c_proctorlaw44_BatchJoint.k := by rfl) : PureC Go.Proofs.Tryz.prog G n_proctorlaw44_BatchJoint args r := PureC.of_runs (fn := Go.Proofs.Tryz.f3) (A := c_proctorlaw44_BatchJoint) Go.Proofs.Tryz.func3 k_proctorlaw44_BatchJoint hk h
def c_proctorlaw44_awake : AFun := ⟨37, 0, [.t 0],
  (.seq (.reg [⟨some 0, .mov (.k (.bool false)), none⟩]
[])
(.seq (.reg [⟨some 2, .mkrow t_string 1 3 (.str []) [(0, .k (.str [113, 101, 97, 32, 112, 32, 115, 107, 105, 112, 32, 115, 32, 115, 116, 97, 114, 116, 32, 115])), (1, .k (.str [113, 101, 97, 32, 113, 32, 115, 107, 105, 112, 32, 115, 32, 115, 116, 97, 114, 116, 32, 115])), (2, .k (.str [113, 101, 97, 32, 112, 10, 115, 107, 105, 112, 32, 115, 10, 115, 116, 97, 114, 116, 32, 115, 10]))], none⟩,
⟨some 3, .call n_batch_Groups [.t 2], none⟩,
⟨some 1, .mov (.t 3), none⟩]
[1])
(.seq (.reg [⟨some 4, .mov (.t 1), none⟩,
⟨some 5, .len false (.t 4), none⟩,
⟨some 6, .bin .eql (.t 5) (.k (.int .i64 2)), none⟩,
⟨some 7, .mov (.t 6), none⟩,
⟨some 8, .mov (.t 1), (some (7, true))⟩,
⟨some 9, .iaddr 1 (.t 8) (.k (.int .i64 0)), (some (7, true))⟩,
⟨some 10, .load (.t 9), (some (7, true))⟩,
⟨some 11, .len false (.t 10), (some (7, true))⟩,
⟨some 12, .bin .eql (.t 11) (.k (.int .i64 2)), (some (7, true))⟩,
⟨some 13, .pick (.t 7) (.t 12) (.k (.bool false)), none⟩,
⟨some 14, .mov (.t 13), none⟩,
⟨some 15, .mov (.t 1), (some (14, true))⟩,
⟨some 16, .iaddr 1 (.t 15) (.k (.int .i64 0)), (some (14, true))⟩,
⟨some 17, .load (.t 16), (some (14, true))⟩,
⟨some 18, .iaddr 1 (.t 17) (.k (.int .i64 1)), (some (14, true))⟩,
⟨some 19, .load (.t 18), (some (14, true))⟩,
⟨some 20, .bin .eql (.t 19) (.k (.int .i64 2)), (some (14, true))⟩,
⟨some 21, .pick (.t 14) (.t 20) (.k (.bool false)), none⟩,
⟨some 22, .mov (.t 21), none⟩,
⟨some 23, .mov (.t 1), (some (22, true))⟩,
⟨some 24, .iaddr 1 (.t 23) (.k (.int .i64 1)), (some (22, true))⟩,
⟨some 25, .load (.t 24), (some (22, true))⟩,
⟨some 26, .len false (.t 25), (some (22, true))⟩,
⟨some 27, .bin .eql (.t 26) (.k (.int .i64 1)), (some (22, true))⟩,
⟨some 28, .pick (.t 22) (.t 27) (.k (.bool false)), none⟩,
⟨some 29, .mov (.t 28), none⟩,
⟨some 30, .mov (.t 1), (some (29, true))⟩,
⟨some 31, .iaddr 1 (.t 30) (.k (.int .i64 1)), (some (29, true))⟩,
⟨some 32, .load (.t 31), (some (29, true))⟩,
⟨some 33, .iaddr 1 (.t 32) (.k (.int .i64 0)), (some (29, true))⟩,
⟨some 34, .load (.t 33), (some (29, true))⟩,
⟨some 35, .bin .eql (.t 34) (.k (.int .i64 1)), (some (29, true))⟩,
⟨some 36, .pick (.t 29) (.t 35) (.k (.bool false)), none⟩,
⟨some 0, .mov (.t 36), none⟩]
[0])
.ret)))⟩
theorem k_proctorlaw44_awake : chkF Go.Proofs.Tryz.prog Go.Proofs.Tryz.f4 c_proctorlaw44_awake = true := by kernel_rfl
def c_proctorref32_Right : AFun := ⟨22, 1, [.t 2],
  (.seq (.reg [⟨some 2, .mov (.k (.bool false)), none⟩]
[0])
(.seq (.seq (.reg [⟨some 3, .mov (.k (.int .i64 0)), none⟩]
[0, 3])
(.block 0
(.loop [0, 3] []
  (.seq (.seq (.reg [⟨some 4, .mov (.t 3), none⟩,
⟨some 5, .mov (.t 0), none⟩,
⟨some 6, .len false (.t 5), none⟩,
⟨some 7, .bin .lss (.t 4) (.t 6), none⟩]
[0, 3, 7])
(.cond (.t 7)
.skip
(.exit 0)))
(.seq (.block 1
(.seq (.reg [⟨some 10, .mov (.t 0), none⟩,
⟨some 11, .mov (.t 3), none⟩,
⟨some 12, .iaddr 1 (.t 10) (.t 11), none⟩,
⟨some 13, .load (.t 12), none⟩,
⟨some 14, .bin .lss (.t 13) (.k (.int .i64 1)), none⟩,
⟨some 15, .mov (.t 14), none⟩,
⟨some 16, .mov (.t 0), (some (15, false))⟩,
⟨some 17, .mov (.t 3), (some (15, false))⟩,
⟨some 18, .iaddr 1 (.t 16) (.t 17), (some (15, false))⟩,
⟨some 19, .load (.t 18), (some (15, false))⟩,
⟨some 20, .bin .gtr (.t 19) (.k (.int .i64 4)), (some (15, false))⟩,
⟨some 21, .pick (.t 15) (.k (.bool true)) (.t 20), none⟩]
[0, 3, 21])
(.cond (.t 21)
(.seq (.reg [⟨some 2, .mov (.k (.bool false)), none⟩]
[2])
.ret)
.skip)))
(.reg [⟨some 8, .mov (.t 3), none⟩,
⟨some 9, .bin .add (.t 8) (.k (.int .i64 1)), none⟩,
⟨some 3, .mov (.t 9), none⟩]
[0, 3]))))))
(.seq (.reg [⟨some 2, .mov (.k (.bool true)), none⟩]
[2])
.ret)))⟩
theorem k_proctorref32_Right : chkF Go.Proofs.Tryz.prog Go.Proofs.Tryz.f5 c_proctorref32_Right = true := by kernel_rfl
theorem pc_proctorref32_Right {G : Nat → Option AV} {args : List AV} {r : AV} (h : Runs Go.Proofs.Tryz.prog G c_proctorref32_Right args r) (hk : args.length = c_proctorref32_Right.k := by rfl) : PureC Go.Proofs.Tryz.prog G n_proctorref32_Right args r := PureC.of_runs (fn := Go.Proofs.Tryz.f5) (A := c_proctorref32_Right) Go.Proofs.Tryz.func5 k_proctorref32_Right hk h
def c_batch_Joint : AFun := ⟨64, 1, [.t 2],
  (.seq (.reg [⟨some 2, .nilrow t_int 1, none⟩]
[0])
(.seq (.seq (.reg [⟨some 11, .mov (.t 0), none⟩,
⟨some 12, .len false (.t 11), none⟩,
⟨some 13, .bin .eql (.t 12) (.k (.int .i64 0)), none⟩]
[0, 13])
(.cond (.t 13)
(.seq (.reg [⟨some 2, .nilrow t_int 1, none⟩]
[2])
.ret)
.skip))
(.seq (.reg [⟨some 14, .mov (.t 0), none⟩,
⟨some 15, .iaddr 5 (.t 14) (.k (.int .i64 0)), none⟩,
⟨some 16, .faddr (.t 15) 0, none⟩,
⟨some 17, .load (.t 16), none⟩,
⟨some 18, .len false (.t 17), none⟩,
⟨some 3, .mov (.t 18), none⟩]
[0, 3])
(.seq (.seq (.reg [⟨some 19, .mov (.t 0), none⟩,
⟨some 20, .len false (.t 19), none⟩,
⟨some 21, .mov (.k (.int .i64 0)), none⟩]
[0, 3, 19, 20, 21])
(.block 0
(.loop [0, 3, 19, 20, 21] [2, 12, 18, 20]
  (.seq (.reg [⟨some 22, .bin .lss (.t 21) (.t 20), none⟩]
[0, 3, 19, 20, 21, 22])
(.seq (.cond (.t 22)
.skip
(.exit 0))
(.seq (.block 1
(.seq (.reg [⟨some 23, .iaddr 5 (.t 19) (.t 21), none⟩,
⟨some 24, .loadN (.t 23) 5, none⟩,
⟨some 5, .alloc t_driver_Outcome 5 (.agg [.nils, .int .i64 0, .int .i64 0, .int .i64 0, .int .i64 0]), none⟩,
⟨none, .store (.t 5) (.t 24) 5, none⟩]
[0, 3, 5, 19, 20, 21])
(.reg [⟨some 25, .mov (.t 3), none⟩,
⟨some 26, .faddr (.t 5) 0, none⟩,
⟨some 27, .load (.t 26), none⟩,
⟨some 28, .len false (.t 27), none⟩,
⟨some 29, .mx true (.t 25) (.t 28), none⟩,
⟨some 3, .mov (.t 29), none⟩]
[0, 3, 19, 20, 21])))
(.reg [⟨some 30, .bin .add (.t 21) (.k (.int .i64 1)), none⟩,
⟨some 21, .mov (.t 30), none⟩]
[0, 3, 19, 20, 21])))))))
(.seq (.reg [⟨some 6, .nilrow t_int 1, none⟩]
[0, 3, 6])
(.seq (.seq (.reg [⟨some 31, .mov (.t 3), none⟩,
⟨some 32, .mov (.k (.int .i64 0)), none⟩]
[0, 6, 31, 32])
(.block 2
(.loop [0, 6, 31, 32] [2, 12, 18, 20, 5, 28, 29, 6, 55, 61]
  (.seq (.reg [⟨some 33, .bin .lss (.t 32) (.t 31), none⟩]
[0, 6, 31, 32, 33])
(.seq (.cond (.t 33)
.skip
(.exit 2))
(.seq (.block 3
(.seq (.reg [⟨some 34, .mov (.t 32), none⟩,
⟨some 7, .mov (.t 34), none⟩]
[0, 6, 7, 31, 32])
(.seq (.reg [⟨some 8, .nilrow t_int 1, none⟩]
[0, 6, 7, 8, 31, 32])
(.seq (.seq (.reg [⟨some 35, .mov (.t 0), none⟩,
⟨some 36, .len false (.t 35), none⟩,
⟨some 37, .mov (.k (.int .i64 0)), none⟩]
[0, 6, 7, 8, 31, 32, 35, 36, 37])
(.block 4
(.loop [0, 6, 7, 8, 31, 32, 35, 36, 37] [2, 12, 18, 20, 5, 28, 29, 6, 8, 36, 55]
  (.seq (.reg [⟨some 38, .bin .lss (.t 37) (.t 36), none⟩]
[0, 6, 7, 8, 31, 32, 35, 36, 37, 38])
(.seq (.cond (.t 38)
.skip
(.exit 4))
(.seq (.block 5
(.seq (.reg [⟨some 39, .iaddr 5 (.t 35) (.t 37), none⟩,
⟨some 40, .loadN (.t 39) 5, none⟩,
⟨some 10, .alloc t_driver_Outcome 5 (.agg [.nils, .int .i64 0, .int .i64 0, .int .i64 0, .int .i64 0]), none⟩,
⟨none, .store (.t 10) (.t 40) 5, none⟩]
[0, 6, 7, 8, 10, 31, 32, 35, 36, 37])
(.seq (.reg [⟨some 41, .faddr (.t 10) 0, none⟩,
⟨some 42, .load (.t 41), none⟩,
⟨some 43, .mov (.t 7), none⟩,
⟨some 44, .iaddr 1 (.t 42) (.t 43), none⟩,
⟨some 45, .load (.t 44), none⟩,
⟨some 46, .call n_verdict_Name [.t 45], none⟩,
⟨some 47, .bin .neq (.t 46) (.k (.str [])), none⟩]
[0, 6, 7, 8, 10, 31, 32, 35, 36, 37, 47])
(.cond (.t 47)
(.reg [⟨some 48, .mov (.t 8), none⟩,
⟨some 49, .faddr (.t 10) 0, none⟩,
⟨some 50, .load (.t 49), none⟩,
⟨some 51, .mov (.t 7), none⟩,
⟨some 52, .iaddr 1 (.t 50) (.t 51), none⟩,
⟨some 53, .load (.t 52), none⟩,
⟨some 54, .mkrow t_int 1 1 (.int .i64 0) [(0, .t 53)], none⟩,
⟨some 55, .app t_int 1 8 (.t 48) (.t 54), none⟩,
⟨some 8, .mov (.t 55), none⟩]
[0, 6, 7, 8, 31, 32, 35, 36, 37])
.skip))))
(.reg [⟨some 56, .bin .add (.t 37) (.k (.int .i64 1)), none⟩,
⟨some 37, .mov (.t 56), none⟩]
[0, 6, 7, 8, 31, 32, 35, 36, 37])))))))
(.reg [⟨some 57, .mov (.t 6), none⟩,
⟨some 58, .mov (.t 8), none⟩,
⟨some 59, .call n_batch_joint [.t 58], none⟩,
⟨some 60, .mkrow t_int 1 1 (.int .i64 0) [(0, .t 59)], none⟩,
⟨some 61, .app t_int 1 8 (.t 57) (.t 60), none⟩,
⟨some 6, .mov (.t 61), none⟩]
[0, 6, 31, 32])))))
(.reg [⟨some 62, .bin .add (.t 32) (.k (.int .i64 1)), none⟩,
⟨some 32, .mov (.t 62), none⟩]
[0, 6, 31, 32])))))))
(.seq (.reg [⟨some 63, .mov (.t 6), none⟩,
⟨some 2, .mov (.t 63), none⟩]
[2])
.ret)))))))⟩
theorem k_batch_Joint : chkF Go.Proofs.Tryz.prog Go.Proofs.Tryz.f6 c_batch_Joint = true := by kernel_rfl
theorem pc_batch_Joint {G : Nat → Option AV} {args : List AV} {r : AV} (h : Runs Go.Proofs.Tryz.prog G c_batch_Joint args r) (hk : args.length = c_batch_Joint.k := by rfl) : PureC Go.Proofs.Tryz.prog G n_batch_Joint args r := PureC.of_runs (fn := Go.Proofs.Tryz.f6) (A := c_batch_Joint) Go.Proofs.Tryz.func6 k_batch_Joint hk h
def c_batch_joint : AFun := ⟨16, 1, [.t 2],
  (.seq (.reg [⟨some 2, .mov (.k (.int .i64 0)), none⟩]
[0])
(.seq (.seq (.reg [⟨some 5, .mkrow t_int 1 3 (.int .i64 0) [(0, .k (.int .i64 4)), (1, .k (.int .i64 3)), (2, .k (.int .i64 2))], none⟩,
⟨some 6, .len false (.t 5), none⟩,
⟨some 7, .mov (.k (.int .i64 0)), none⟩]
[0, 5, 6, 7])
(.block 0
(.loop [0, 5, 6, 7] [5, 6]
  (.seq (.reg [⟨some 8, .bin .lss (.t 7) (.t 6), none⟩]
[0, 5, 6, 7, 8])
(.seq (.cond (.t 8)
.skip
(.exit 0))
(.seq (.block 1
(.seq (.reg [⟨some 9, .iaddr 1 (.t 5) (.t 7), none⟩,
⟨some 10, .load (.t 9), none⟩,
⟨some 4, .mov (.t 10), none⟩]
[0, 4, 5, 6, 7])
(.seq (.reg [⟨some 11, .mov (.t 0), none⟩,
⟨some 12, .mov (.t 4), none⟩,
⟨some 13, .call n_slices_Contains_int_int [.t 11, .t 12], none⟩]
[0, 4, 5, 6, 7, 13])
(.cond (.t 13)
(.seq (.reg [⟨some 14, .mov (.t 4), none⟩,
⟨some 2, .mov (.t 14), none⟩]
[2])
.ret)
.skip))))
(.reg [⟨some 15, .bin .add (.t 7) (.k (.int .i64 1)), none⟩,
⟨some 7, .mov (.t 15), none⟩]
[0, 5, 6, 7])))))))
(.seq (.reg [⟨some 2, .mov (.k (.int .i64 1)), none⟩]
[2])
.ret)))⟩
theorem k_batch_joint : chkF Go.Proofs.Tryz.prog Go.Proofs.Tryz.f9 c_batch_joint = true := by kernel_rfl
theorem pc_batch_joint {G : Nat → Option AV} {args : List AV} {r : AV} (h : Runs Go.Proofs.Tryz.prog G c_batch_joint args r) (hk : args.length = c_batch_joint.k := by rfl) : PureC Go.Proofs.Tryz.prog G n_batch_joint args r := PureC.of_runs (fn := Go.Proofs.Tryz.f9) (A := c_batch_joint) Go.Proofs.Tryz.func9 k_batch_joint hk h
def c_verdict_Name : AFun := ⟨13, 1, [.t 2],
  (.seq (.reg [⟨some 2, .mov (.k (.str [])), none⟩]
[0])
(.seq (.seq (.reg [⟨some 3, .mov (.t 0), none⟩,
⟨some 4, .bin .lss (.t 3) (.k (.int .i64 1)), none⟩,
⟨some 5, .mov (.t 4), none⟩,
⟨some 6, .mov (.t 0), (some (5, false))⟩,
⟨some 7, .bin .gtr (.t 6) (.k (.int .i64 4)), (some (5, false))⟩,
⟨some 8, .pick (.t 5) (.k (.bool true)) (.t 7), none⟩]
[0, 8])
(.cond (.t 8)
(.seq (.reg [⟨some 2, .mov (.k (.str [])), none⟩]
[2])
.ret)
.skip))
(.seq (.reg [⟨some 9, .mov (.t 0), none⟩,
⟨some 10, .bin .sub (.t 9) (.k (.int .i64 1)), none⟩,
⟨some 11, .iaddrA 1 4 (.g 0) (.t 10), none⟩,
⟨some 12, .load (.t 11), none⟩,
⟨some 2, .mov (.t 12), none⟩]
[2])
.ret)))⟩
theorem k_verdict_Name : chkF Go.Proofs.Tryz.prog Go.Proofs.Tryz.f8 c_verdict_Name = true := by kernel_rfl
theorem pc_verdict_Name {G : Nat → Option AV} {args : List AV} {r : AV} (h : Runs Go.Proofs.Tryz.prog G c_verdict_Name args r) (hk : args.length = c_verdict_Name.k := by rfl) : PureC Go.Proofs.Tryz.prog G n_verdict_Name args r := PureC.of_runs (fn := Go.Proofs.Tryz.f8) (A := c_verdict_Name) Go.Proofs.Tryz.func8 k_verdict_Name hk h
def c_slices_Contains_int_int : AFun := ⟨9, 2, [.t 4],
  (.seq (.reg [⟨some 4, .mov (.k (.bool false)), none⟩]
[0, 1])
(.seq (.reg [⟨some 5, .mov (.t 0), none⟩,
⟨some 6, .mov (.t 1), none⟩,
⟨some 7, .call n_slices_Index_int_int [.t 5, .t 6], none⟩,
⟨some 8, .bin .geq (.t 7) (.k (.int .i64 0)), none⟩,
⟨some 4, .mov (.t 8), none⟩]
[4])
.ret))⟩
theorem k_slices_Contains_int_int : chkF Go.Proofs.Tryz.prog Go.Proofs.Tryz.f14 c_slices_Contains_int_int = true := by kernel_rfl
theorem pc_slices_Contains_int_int {G : Nat → Option AV} {args : List AV} {r : AV} (h : Runs Go.Proofs.Tryz.prog G c_slices_Contains_int_int args r) (hk : args.length = c_slices_Contains_int_int.k := by rfl) : PureC Go.Proofs.Tryz.prog G n_slices_Contains_int_int args r := PureC.of_runs (fn := Go.Proofs.Tryz.f14) (A := c_slices_Contains_int_int) Go.Proofs.Tryz.func14 k_slices_Contains_int_int hk h
def c_slices_Index_int_int : AFun := ⟨19, 2, [.t 4],
  (.seq (.reg [⟨some 4, .mov (.k (.int .i64 0)), none⟩]
[0, 1])
(.seq (.seq (.reg [⟨some 6, .mov (.t 0), none⟩,
⟨some 7, .len false (.t 6), none⟩,
⟨some 8, .mov (.k (.int .i64 0)), none⟩]
[0, 1, 7, 8])
(.block 0
(.loop [0, 1, 7, 8] [7]
  (.seq (.reg [⟨some 9, .bin .lss (.t 8) (.t 7), none⟩]
[0, 1, 7, 8, 9])
(.seq (.cond (.t 9)
.skip
(.exit 0))
(.seq (.block 1
(.seq (.reg [⟨some 10, .mov (.t 8), none⟩,
⟨some 5, .mov (.t 10), none⟩]
[0, 1, 5, 7, 8])
(.seq (.reg [⟨some 11, .mov (.t 1), none⟩,
⟨some 12, .mov (.t 0), none⟩,
⟨some 13, .mov (.t 5), none⟩,
⟨some 14, .iaddr 1 (.t 12) (.t 13), none⟩,
⟨some 15, .load (.t 14), none⟩,
⟨some 16, .bin .eql (.t 11) (.t 15), none⟩]
[0, 1, 5, 7, 8, 16])
(.cond (.t 16)
(.seq (.reg [⟨some 17, .mov (.t 5), none⟩,
⟨some 4, .mov (.t 17), none⟩]
[4])
.ret)
.skip))))
(.reg [⟨some 18, .bin .add (.t 8) (.k (.int .i64 1)), none⟩,
⟨some 8, .mov (.t 18), none⟩]
[0, 1, 7, 8])))))))
(.seq (.reg [⟨some 4, .mov (.k (.int .i64 (-1))), none⟩]
[4])
.ret)))⟩
theorem k_slices_Index_int_int : chkF Go.Proofs.Tryz.prog Go.Proofs.Tryz.f18 c_slices_Index_int_int = true := by kernel_rfl
theorem pc_slices_Index_int_int {G : Nat → Option AV} {args : List AV} {r : AV} (h : Runs Go.Proofs.Tryz.prog G c_slices_Index_int_int args r) (hk : args.length = c_slices_Index_int_int.k := by rfl) : PureC Go.Proofs.Tryz.prog G n_slices_Index_int_int args r := PureC.of_runs (fn := Go.Proofs.Tryz.f18) (A := c_slices_Index_int_int) Go.Proofs.Tryz.func18 k_slices_Index_int_int hk h
def c_batch_Groups : AFun := ⟨52, 1, [.t 2],
  (.seq (.reg [⟨some 2, .nilrow t_Sint 1, none⟩]
[0])
(.seq (.reg [⟨some 3, .nilrow t_Sint 1, none⟩]
[0, 3])
(.seq (.reg [⟨some 4, .nilrow t_batch_read 12, none⟩]
[0, 3, 4])
(.seq (.seq (.reg [⟨some 11, .mov (.t 0), none⟩,
⟨some 12, .len false (.t 11), none⟩,
⟨some 13, .mov (.k (.int .i64 0)), none⟩]
[3, 4, 11, 12, 13])
(.block 0
(.loop [3, 4, 11, 12, 13] [2, 3, 4, 12, 34, 39, 48, 51, 50, 49, 46, 45, 44, 43, 42, 41, 40, 36, 35]
  (.seq (.reg [⟨some 14, .bin .lss (.t 13) (.t 12), none⟩]
[3, 4, 11, 12, 13, 14])
(.seq (.cond (.t 14)
.skip
(.exit 0))
(.seq (.block 1
(.seq (.reg [⟨some 15, .mov (.t 13), none⟩,
⟨some 16, .iaddr 1 (.t 11) (.t 13), none⟩,
⟨some 17, .load (.t 16), none⟩,
⟨some 5, .mov (.t 15), none⟩,
⟨some 6, .mov (.t 17), none⟩]
[3, 4, 5, 6, 11, 12, 13])
(.seq (.reg [⟨some 19, .mov (.t 6), none⟩,
⟨some 20, .call n_check_Read [.t 19], none⟩,
⟨some 18, .mov (.t 20), none⟩,
⟨some 21, .ext (.t 18) 0, none⟩,
⟨some 22, .ext (.t 18) 1, none⟩,
⟨some 7, .alloc t_api_Qea 9 (.agg [.str [], .nils, .nils, .nils, .nils, .int .i64 0, .nils, .nils, .nils]), none⟩,
⟨some 8, .alloc t_api_Fail 3 (.agg [.int .i64 0, .int .i64 0, .int .i64 0]), none⟩,
⟨none, .store (.t 7) (.t 21) 9, none⟩,
⟨none, .store (.t 8) (.t 22) 3, none⟩]
[3, 4, 5, 7, 8, 11, 12, 13])
(.seq (.reg [⟨some 23, .loadN (.t 7) 9, none⟩,
⟨some 24, .loadN (.t 8) 3, none⟩,
⟨some 25, .build [.str [], .nils, .nils, .nils, .nils, .int .i64 0, .nils, .nils, .nils, .int .i64 0, .int .i64 0, .int .i64 0] [(0, 9, .t 23), (9, 3, .t 24)], none⟩,
⟨some 9, .alloc t_batch_read 12 (.agg [.str [], .nils, .nils, .nils, .nils, .int .i64 0, .nils, .nils, .nils, .int .i64 0, .int .i64 0, .int .i64 0]), none⟩,
⟨none, .store (.t 9) (.t 25) 12, none⟩]
[3, 4, 5, 9, 11, 12, 13])
(.seq (.reg [⟨some 26, .mov (.t 4), none⟩,
⟨some 27, .mkfn n_batch_Groups_1 [.t 9], none⟩,
⟨some 28, .call n_slices_IndexFunc_batch_read_batch_read [.t 26, .t 27], none⟩,
⟨some 10, .mov (.t 28), none⟩]
[3, 4, 5, 9, 10, 11, 12, 13])
(.seq (.reg [⟨some 29, .mov (.t 10), none⟩,
⟨some 30, .bin .lss (.t 29) (.k (.int .i64 0)), none⟩]
[3, 4, 5, 9, 10, 11, 12, 13, 30])
(.cond (.t 30)
(.reg [⟨some 31, .mov (.t 4), none⟩,
⟨some 32, .loadN (.t 9) 12, none⟩,
⟨some 33, .mkrow t_batch_read 12 1 (.agg [.str [], .nils, .nils, .nils, .nils, .int .i64 0, .nils, .nils, .nils, .int .i64 0, .int .i64 0, .int .i64 0]) [(0, .t 32)], none⟩,
⟨some 34, .app t_batch_read 12 216 (.t 31) (.t 33), none⟩,
⟨some 35, .mov (.t 3), none⟩,
⟨some 36, .mov (.t 5), none⟩,
⟨some 37, .mkrow t_int 1 1 (.tup [.int .i64 0, .undef]) [(0, .t 36)], none⟩,
⟨some 38, .mkrow t_Sint 1 1 (.nils) [(0, .t 37)], none⟩,
⟨some 39, .app t_Sint 1 24 (.t 35) (.t 38), none⟩,
⟨some 4, .mov (.t 34), none⟩,
⟨some 3, .mov (.t 39), none⟩]
[3, 4, 11, 12, 13])
(.reg [⟨some 40, .mov (.t 3), none⟩,
⟨some 41, .mov (.t 10), none⟩,
⟨some 42, .mov (.t 3), none⟩,
⟨some 43, .mov (.t 10), none⟩,
⟨some 44, .iaddr 1 (.t 42) (.t 43), none⟩,
⟨some 45, .load (.t 44), none⟩,
⟨some 46, .mov (.t 5), none⟩,
⟨some 47, .mkrow t_int 1 1 (.int .i64 0) [(0, .t 46)], none⟩,
⟨some 48, .app t_int 1 8 (.t 45) (.t 47), none⟩,
⟨some 49, .iaddr 1 (.t 40) (.t 41), none⟩,
⟨none, .store (.t 49) (.t 48) 1, none⟩]
[3, 4, 11, 12, 13]))))))))
(.reg [⟨some 50, .bin .add (.t 13) (.k (.int .i64 1)), none⟩,
⟨some 13, .mov (.t 50), none⟩]
[3, 4, 11, 12, 13])))))))
(.seq (.reg [⟨some 51, .mov (.t 3), none⟩,
⟨some 2, .mov (.t 51), none⟩]
[2])
.ret)))))⟩
theorem k_batch_Groups : chkF Go.Proofs.Tryz.prog Go.Proofs.Tryz.f7 c_batch_Groups = true := by kernel_rfl
def c_batch_Groups_1 : AFun := ⟨7, 2, [.t 3],
  (.seq (.reg [⟨some 2, .box t_batch_read 12 (.t 0), none⟩,
⟨some 3, .mov (.k (.bool false)), none⟩]
[1, 2])
(.seq (.reg [⟨some 4, .loadN (.t 1) 12, none⟩,
⟨some 5, .loadN (.t 2) 12, none⟩,
⟨some 6, .call n_batch_alike [.t 4, .t 5], none⟩,
⟨some 3, .mov (.t 6), none⟩]
[3])
.ret))⟩
theorem k_batch_Groups_1 : chkF Go.Proofs.Tryz.prog Go.Proofs.Tryz.f12 c_batch_Groups_1 = true := by kernel_rfl
def c_slices_IndexFunc_batch_read_batch_read : AFun := ⟨19, 2, [.t 4],
  (.seq (.reg [⟨some 4, .mov (.k (.int .i64 0)), none⟩]
[0, 1])
(.seq (.seq (.reg [⟨some 6, .mov (.t 0), none⟩,
⟨some 7, .len false (.t 6), none⟩,
⟨some 8, .mov (.k (.int .i64 0)), none⟩]
[0, 1, 7, 8])
(.block 0
(.loop [0, 1, 7, 8] [7, 18, 17, 16, 15, 14, 13, 12, 11, 10, 9, 8]
  (.seq (.reg [⟨some 9, .bin .lss (.t 8) (.t 7), none⟩]
[0, 1, 7, 8, 9])
(.seq (.cond (.t 9)
.skip
(.exit 0))
(.seq (.block 1
(.seq (.reg [⟨some 10, .mov (.t 8), none⟩,
⟨some 5, .mov (.t 10), none⟩]
[0, 1, 5, 7, 8])
(.seq (.reg [⟨some 11, .mov (.t 1), none⟩,
⟨some 12, .mov (.t 0), none⟩,
⟨some 13, .mov (.t 5), none⟩,
⟨some 14, .iaddr 12 (.t 12) (.t 13), none⟩,
⟨some 15, .loadN (.t 14) 12, none⟩,
⟨some 16, .callv (.t 11) [.t 15], none⟩]
[0, 1, 5, 7, 8, 16])
(.cond (.t 16)
(.seq (.reg [⟨some 17, .mov (.t 5), none⟩,
⟨some 4, .mov (.t 17), none⟩]
[4])
.ret)
.skip))))
(.reg [⟨some 18, .bin .add (.t 8) (.k (.int .i64 1)), none⟩,
⟨some 8, .mov (.t 18), none⟩]
[0, 1, 7, 8])))))))
(.seq (.reg [⟨some 4, .mov (.k (.int .i64 (-1))), none⟩]
[4])
.ret)))⟩
theorem k_slices_IndexFunc_batch_read_batch_read : chkF Go.Proofs.Tryz.prog Go.Proofs.Tryz.f11 c_slices_IndexFunc_batch_read_batch_read = true := by kernel_rfl
def c_batch_alike : AFun := ⟨17, 2, [.t 4],
  (.seq (.reg [⟨some 2, .box t_batch_read 12 (.t 0), none⟩,
⟨some 3, .box t_batch_read 12 (.t 1), none⟩,
⟨some 4, .mov (.k (.bool false)), none⟩]
[2, 3])
(.seq (.reg [⟨some 5, .faddr (.t 2) 9, none⟩,
⟨some 6, .loadN (.t 5) 3, none⟩,
⟨some 7, .faddr (.t 3) 9, none⟩,
⟨some 8, .loadN (.t 7) 3, none⟩,
⟨some 9, .eqA false [0, 0, 0] (.t 6) (.t 8), none⟩,
⟨some 10, .mov (.t 9), none⟩,
⟨some 11, .faddr (.t 2) 0, (some (10, true))⟩,
⟨some 12, .loadN (.t 11) 9, (some (10, true))⟩,
⟨some 13, .faddr (.t 3) 0, (some (10, true))⟩,
⟨some 14, .loadN (.t 13) 9, (some (10, true))⟩,
⟨some 15, .call n_core_Same [.t 12, .t 14], (some (10, true))⟩,
⟨some 16, .pick (.t 10) (.t 15) (.k (.bool false)), none⟩,
⟨some 4, .mov (.t 16), none⟩]
[4])
.ret))⟩
theorem k_batch_alike : chkF Go.Proofs.Tryz.prog Go.Proofs.Tryz.f13 c_batch_alike = true := by kernel_rfl
def c_check_Read : AFun := ⟨20, 1, [.cells 2 9, .cells 3 3],
  (.seq (.reg [⟨some 2, .alloc t_api_Qea 9 (.agg [.str [], .nils, .nils, .nils, .nils, .int .i64 0, .nils, .nils, .nils]), none⟩,
⟨some 3, .alloc t_api_Fail 3 (.agg [.int .i64 0, .int .i64 0, .int .i64 0]), none⟩]
[0, 2, 3])
(.seq (.reg [⟨some 7, .mov (.t 0), none⟩,
⟨some 8, .call n_parse_Parse [.t 7], none⟩,
⟨some 6, .mov (.t 8), none⟩,
⟨some 9, .ext (.t 6) 0, none⟩,
⟨some 10, .ext (.t 6) 1, none⟩,
⟨some 4, .alloc t_api_Tree 12 (.agg [.str [], .int .i64 0, .int .i64 0, .nils, .nils, .nils, .nils, .str [], .int .i64 0, .int .i64 0, .nils, .nils]), none⟩,
⟨some 5, .alloc t_api_Fail 3 (.agg [.int .i64 0, .int .i64 0, .int .i64 0]), none⟩,
⟨none, .store (.t 4) (.t 9) 12, none⟩,
⟨none, .store (.t 5) (.t 10) 3, none⟩]
[2, 3, 4, 5])
(.seq (.seq (.reg [⟨some 11, .loadN (.t 5) 3, none⟩,
⟨some 12, .build [.int .i64 0, .int .i64 0, .int .i64 0] [], none⟩,
⟨some 13, .eqA true [0, 0, 0] (.t 11) (.t 12), none⟩]
[2, 3, 4, 5, 13])
(.cond (.t 13)
(.seq (.dregC [⟨some 14, .build [.str [], .nils, .nils, .nils, .nils, .int .i64 0, .nils, .nils, .nils] [], none⟩,
⟨some 15, .loadN (.t 5) 3, none⟩,
⟨none, .store (.t 2) (.t 14) 9, none⟩,
⟨none, .store (.t 3) (.t 15) 3, none⟩]
[2, 3] [0, 0, 1, 2] [0, 1, 2, 2] [([0, 1], []), ([], [1]), ([], [])] [2, 3, 5, 14, 15]
[2, 3])
.ret)
.skip))
(.seq (.reg [⟨some 16, .loadN (.t 4) 12, none⟩,
⟨some 17, .call n_check_Lower [.t 16], none⟩,
⟨some 18, .ext (.t 17) 0, none⟩,
⟨some 19, .ext (.t 17) 1, none⟩,
⟨none, .store (.t 2) (.t 18) 9, none⟩,
⟨none, .store (.t 3) (.t 19) 3, none⟩]
[2, 3])
.ret))))⟩
theorem k_check_Read : chkF Go.Proofs.Tryz.prog Go.Proofs.Tryz.f10 c_check_Read = true := by kernel_rfl
def c_parse_Parse : AFun := ⟨16, 1, [.cells 2 12, .cells 3 3],
  (.seq (.reg [⟨some 2, .alloc t_api_Tree 12 (.agg [.str [], .int .i64 0, .int .i64 0, .nils, .nils, .nils, .nils, .str [], .int .i64 0, .int .i64 0, .nils, .nils]), none⟩,
⟨some 3, .alloc t_api_Fail 3 (.agg [.int .i64 0, .int .i64 0, .int .i64 0]), none⟩]
[0, 2, 3])
(.seq (.reg [⟨some 4, .alloc t_api_Tree 12 (.agg [.str [], .int .i64 0, .int .i64 0, .nils, .nils, .nils, .nils, .str [], .int .i64 0, .int .i64 0, .nils, .nils]), none⟩]
[0, 2, 3, 4])
(.seq (.reg [⟨some 6, .mov (.t 0), none⟩,
⟨some 7, .mkfn n_parse_Parse_1 [.t 4], none⟩,
⟨some 8, .call n_parse_run [.t 6, .t 7], none⟩,
⟨some 5, .alloc t_api_Fail 3 (.agg [.int .i64 0, .int .i64 0, .int .i64 0]), none⟩,
⟨none, .store (.t 5) (.t 8) 3, none⟩]
[2, 3, 4, 5])
(.seq (.seq (.reg [⟨some 9, .loadN (.t 5) 3, none⟩,
⟨some 10, .build [.int .i64 0, .int .i64 0, .int .i64 0] [], none⟩,
⟨some 11, .eqA true [0, 0, 0] (.t 9) (.t 10), none⟩]
[2, 3, 4, 5, 11])
(.cond (.t 11)
(.seq (.dregC [⟨some 12, .build [.str [], .int .i64 0, .int .i64 0, .nils, .nils, .nils, .nils, .str [], .int .i64 0, .int .i64 0, .nils, .nils] [], none⟩,
⟨some 13, .loadN (.t 5) 3, none⟩,
⟨none, .store (.t 2) (.t 12) 12, none⟩,
⟨none, .store (.t 3) (.t 13) 3, none⟩]
[2, 3] [0, 0, 1, 2] [0, 1, 2, 2] [([0, 1], []), ([], [1]), ([], [])] [2, 3, 5, 12, 13]
[2, 3])
.ret)
.skip))
(.seq (.dregC [⟨some 14, .loadN (.t 4) 12, none⟩,
⟨some 15, .loadN (.t 5) 3, none⟩,
⟨none, .store (.t 2) (.t 14) 12, none⟩,
⟨none, .store (.t 3) (.t 15) 3, none⟩]
[2, 3] [0, 0, 1, 2] [0, 1, 2, 2] [([0, 1], []), ([], [1]), ([], [])] [2, 3, 4, 5, 14, 15]
[2, 3])
.ret)))))⟩
theorem k_parse_Parse : chkF Go.Proofs.Tryz.prog Go.Proofs.Tryz.f15 c_parse_Parse = true := by kernel_rfl
def c_parse_Parse_1 : AFun := ⟨10, 2, [.t 3],
  (.seq (.reg [⟨some 3, .mov (.k (.nili)), none⟩]
[0, 1])
(.seq (.reg [⟨some 5, .mov (.t 0), none⟩,
⟨some 6, .call n_parse_parser_spec [.t 5], none⟩,
⟨some 4, .mov (.t 6), none⟩,
⟨some 7, .ext (.t 4) 0, none⟩,
⟨some 8, .ext (.t 4) 1, none⟩,
⟨none, .store (.t 1) (.t 7) 12, none⟩,
⟨some 3, .mov (.t 8), none⟩]
[3])
(.seq (.reg [⟨some 9, .mov (.t 3), none⟩,
⟨some 3, .mov (.t 9), none⟩]
[3])
.ret)))⟩
theorem k_parse_Parse_1 : chkF Go.Proofs.Tryz.prog Go.Proofs.Tryz.f20 c_parse_Parse_1 = true := by kernel_rfl
def c_parse_run : AFun := ⟨43, 2, [.cells 4 3],
  (.seq (.reg [⟨some 4, .alloc t_api_Fail 3 (.agg [.int .i64 0, .int .i64 0, .int .i64 0]), none⟩]
[0, 1, 4])
(.seq (.reg [⟨some 10, .mov (.t 0), none⟩,
⟨some 11, .call n_lex_All [.t 10], none⟩,
⟨some 9, .mov (.t 11), none⟩,
⟨some 12, .ext (.t 9) 0, none⟩,
⟨some 13, .ext (.t 9) 1, none⟩,
⟨some 6, .alloc t_api_Fail 3 (.agg [.int .i64 0, .int .i64 0, .int .i64 0]), none⟩,
⟨some 5, .mov (.t 12), none⟩,
⟨none, .store (.t 6) (.t 13) 3, none⟩]
[1, 4, 5, 6])
(.seq (.seq (.reg [⟨some 14, .loadN (.t 6) 3, none⟩,
⟨some 15, .build [.int .i64 0, .int .i64 0, .int .i64 0] [], none⟩,
⟨some 16, .eqA true [0, 0, 0] (.t 14) (.t 15), none⟩]
[1, 4, 5, 6, 16])
(.cond (.t 16)
(.seq (.reg [⟨some 17, .loadN (.t 6) 3, none⟩,
⟨none, .store (.t 4) (.t 17) 3, none⟩]
[4])
.ret)
.skip))
(.seq (.reg [⟨some 18, .mov (.t 1), none⟩,
⟨some 19, .mov (.t 5), none⟩,
⟨some 20, .build [.nils, .int .i64 0] [(0, 1, .t 19)], none⟩,
⟨some 21, .box t_parse_place 2 (.t 20), none⟩,
⟨some 22, .build [.nilp, .nils, .nils, .int .i64 0] [(0, 1, .t 21)], none⟩,
⟨some 23, .box t_parse_parser 4 (.t 22), none⟩,
⟨some 24, .callv (.t 18) [.t 23], none⟩,
⟨some 7, .mov (.t 24), none⟩]
[4, 7])
(.seq (.reg [⟨some 8, .alloc t_Pparse_stuck 1 (.nilp), none⟩]
[4, 7, 8])
(.seq (.seq (.reg [⟨some 25, .mov (.t 7), none⟩,
⟨some 26, .mki t_PPparse_stuck (.t 8), none⟩,
⟨some 27, .call n_errors_As [.t 25, .t 26], none⟩]
[4, 8, 27])
(.cond (.t 27)
(.seq (.dreg [⟨some 28, .load (.t 8), none⟩,
⟨some 29, .mki t_Pparse_stuck (.t 28), none⟩,
⟨some 30, .call n_parse_errno [.t 29], none⟩,
⟨some 31, .load (.t 8), none⟩,
⟨some 32, .nchk (.t 31), none⟩,
⟨some 33, .faddr (.t 32) 0, none⟩,
⟨some 34, .faddr (.t 33) 2, none⟩,
⟨some 35, .load (.t 34), none⟩,
⟨some 36, .load (.t 8), none⟩,
⟨some 37, .nchk (.t 36), none⟩,
⟨some 38, .faddr (.t 37) 0, none⟩,
⟨some 39, .faddr (.t 38) 3, none⟩,
⟨some 40, .load (.t 39), none⟩,
⟨some 41, .build [.int .i64 0, .int .i64 0, .int .i64 0] [(0, 1, .t 30), (1, 1, .t 35), (2, 1, .t 40)], none⟩,
⟨none, .store (.t 4) (.t 41) 3, none⟩]
[4])
.ret)
.skip))
(.seq (.reg [⟨some 42, .build [.int .i64 0, .int .i64 0, .int .i64 0] [], none⟩,
⟨none, .store (.t 4) (.t 42) 3, none⟩]
[4])
.ret)))))))⟩
theorem k_parse_run : chkF Go.Proofs.Tryz.prog Go.Proofs.Tryz.f19 c_parse_run = true := by kernel_rfl
def c_lex_All : AFun := ⟨67, 1, [.t 2, .cells 3 3],
  (.seq (.reg [⟨some 2, .nilrow t_lex_Token 4, none⟩,
⟨some 3, .alloc t_api_Fail 3 (.agg [.int .i64 0, .int .i64 0, .int .i64 0]), none⟩]
[0, 3])
(.seq (.seq (.reg [⟨some 11, .mov (.t 0), none⟩,
⟨some 12, .len true (.t 11), none⟩,
⟨some 13, .bin .gtr (.t 12) (.k (.int .i64 65536)), none⟩]
[0, 3, 13])
(.cond (.t 13)
(.seq (.reg [⟨some 14, .build [.int .i64 0, .int .i64 0, .int .i64 0] [(0, 1, .k (.int .i64 3)), (1, 1, .k (.int .i64 1)), (2, 1, .k (.int .i64 1))], none⟩,
⟨some 2, .nilrow t_lex_Token 4, none⟩,
⟨none, .store (.t 3) (.t 14) 3, none⟩]
[2, 3])
.ret)
.skip))
(.seq (.reg [⟨some 4, .nilrow t_lex_Token 4, none⟩]
[0, 3, 4])
(.seq (.reg [⟨some 5, .mov (.k (.int .i64 1)), none⟩,
⟨some 6, .mov (.k (.int .i64 1)), none⟩]
[0, 3, 4, 5, 6])
(.block 0
(.loop [0, 3, 4, 5, 6] [2, 3, 12, 4, 54, 66, 65, 64, 63, 62, 61, 60, 59, 58, 57, 56, 55]
  (.block 1
(.seq (.reg [⟨some 15, .mov (.t 0), none⟩,
⟨some 16, .call n_lex_blank [.t 15], none⟩,
⟨some 7, .mov (.t 16), none⟩]
[0, 3, 4, 5, 6, 7])
(.seq (.reg [⟨some 18, .mov (.t 5), none⟩,
⟨some 19, .mov (.t 6), none⟩,
⟨some 20, .mov (.t 0), none⟩,
⟨some 21, .mov (.t 7), none⟩,
⟨some 22, .slc 0 (.t 20) none (some (.t 21)), none⟩,
⟨some 23, .call n_lex_move [.t 18, .t 19, .t 22], none⟩,
⟨some 17, .mov (.t 23), none⟩,
⟨some 24, .ext (.t 17) 0, none⟩,
⟨some 25, .ext (.t 17) 1, none⟩,
⟨some 5, .mov (.t 24), none⟩,
⟨some 6, .mov (.t 25), none⟩]
[0, 3, 4, 5, 6, 7])
(.seq (.seq (.reg [⟨some 26, .mov (.t 0), none⟩,
⟨some 27, .mov (.t 7), none⟩,
⟨some 28, .slc 0 (.t 26) (some (.t 27)) none, none⟩,
⟨some 0, .mov (.t 28), none⟩]
[0, 3, 4, 5, 6])
(.seq (.reg [⟨some 29, .mov (.t 0), none⟩,
⟨some 30, .bin .eql (.t 29) (.k (.str [])), none⟩]
[0, 3, 4, 5, 6, 30])
(.cond (.t 30)
(.seq (.reg [⟨some 31, .mov (.t 4), none⟩,
⟨some 32, .build [.int .i64 0, .int .i64 0, .int .i64 0] [], none⟩,
⟨some 2, .mov (.t 31), none⟩,
⟨none, .store (.t 3) (.t 32) 3, none⟩]
[2, 3])
.ret)
.skip)))
(.seq (.reg [⟨some 34, .mov (.t 0), none⟩,
⟨some 35, .call n_lex_first [.t 34], none⟩,
⟨some 33, .mov (.t 35), none⟩,
⟨some 36, .ext (.t 33) 0, none⟩,
⟨some 37, .ext (.t 33) 1, none⟩,
⟨some 38, .ext (.t 33) 2, none⟩,
⟨some 8, .alloc t_lex_Token 4 (.agg [.int .i64 0, .str [], .int .i64 0, .int .i64 0]), none⟩,
⟨none, .store (.t 8) (.t 36) 4, none⟩,
⟨some 7, .mov (.t 37), none⟩,
⟨some 9, .mov (.t 38), none⟩]
[0, 3, 4, 5, 6, 7, 8, 9])
(.seq (.reg [⟨some 10, .alloc t_lex_oddToken 1 (.agg [.int .i64 0]), none⟩]
[0, 3, 4, 5, 6, 7, 8, 9, 10])
(.seq (.seq (.reg [⟨some 39, .mov (.t 9), none⟩,
⟨some 40, .mki t_Plex_oddToken (.t 10), none⟩,
⟨some 41, .call n_errors_As [.t 39, .t 40], none⟩]
[0, 3, 4, 5, 6, 7, 8, 10, 41])
(.cond (.t 41)
(.seq (.dregC [⟨some 42, .faddr (.t 10) 0, none⟩,
⟨some 43, .load (.t 42), none⟩,
⟨some 44, .mov (.t 5), none⟩,
⟨some 45, .mov (.t 6), none⟩,
⟨some 46, .build [.int .i64 0, .int .i64 0, .int .i64 0] [(0, 1, .t 43), (1, 1, .t 44), (2, 1, .t 45)], none⟩,
⟨some 2, .nilrow t_lex_Token 4, none⟩,
⟨none, .store (.t 3) (.t 46) 3, none⟩]
[5, 6] [0, 0, 0, 0, 0, 1, 2] [1, 1, 1, 1, 1, 2, 2] [([0, 1, 2, 3, 4], []), ([], [0, 1, 2, 3, 4]), ([], [])] [2, 3, 5, 6, 10, 42, 43, 44, 45, 46]
[2, 3])
.ret)
.skip))
(.seq (.reg [⟨some 47, .mov (.t 5), none⟩,
⟨some 48, .mov (.t 6), none⟩,
⟨some 49, .faddr (.t 8) 2, none⟩,
⟨none, .store (.t 49) (.t 47) 1, none⟩,
⟨some 50, .faddr (.t 8) 3, none⟩,
⟨none, .store (.t 50) (.t 48) 1, none⟩]
[0, 3, 4, 5, 6, 7, 8])
(.seq (.reg [⟨some 51, .mov (.t 4), none⟩,
⟨some 52, .loadN (.t 8) 4, none⟩,
⟨some 53, .mkrow t_lex_Token 4 1 (.agg [.int .i64 0, .str [], .int .i64 0, .int .i64 0]) [(0, .t 52)], none⟩,
⟨some 54, .app t_lex_Token 4 40 (.t 51) (.t 53), none⟩,
⟨some 4, .mov (.t 54), none⟩]
[0, 3, 4, 5, 6, 7])
(.seq (.reg [⟨some 56, .mov (.t 5), none⟩,
⟨some 57, .mov (.t 6), none⟩,
⟨some 58, .mov (.t 0), none⟩,
⟨some 59, .mov (.t 7), none⟩,
⟨some 60, .slc 0 (.t 58) none (some (.t 59)), none⟩,
⟨some 61, .call n_lex_move [.t 56, .t 57, .t 60], none⟩,
⟨some 55, .mov (.t 61), none⟩,
⟨some 62, .ext (.t 55) 0, none⟩,
⟨some 63, .ext (.t 55) 1, none⟩,
⟨some 5, .mov (.t 62), none⟩,
⟨some 6, .mov (.t 63), none⟩]
[0, 3, 4, 5, 6, 7])
(.reg [⟨some 64, .mov (.t 0), none⟩,
⟨some 65, .mov (.t 7), none⟩,
⟨some 66, .slc 0 (.t 64) (some (.t 65)) none, none⟩,
⟨some 0, .mov (.t 66), none⟩]
[0, 3, 4, 5, 6])))))))))))))))))⟩
theorem k_lex_All : chkF Go.Proofs.Tryz.prog Go.Proofs.Tryz.f36 c_lex_All = true := by kernel_rfl
def c_lex_blank : AFun := ⟨34, 1, [.t 2],
  (.seq (.reg [⟨some 2, .mov (.k (.int .i64 0)), none⟩]
[0])
(.seq .skip
(.seq (.reg [⟨some 3, .mov (.f n_lex_blank_1), none⟩]
[0, 3])
(.seq (.reg [⟨some 4, .mov (.k (.int .i64 0)), none⟩]
[0, 3, 4])
(.seq .skip
(.seq (.block 0
(.loop [0, 3, 4] [33, 32, 31, 30, 29, 28, 27, 26, 25, 24, 23, 22]
  (.seq (.seq (.reg [⟨some 6, .mov (.t 4), none⟩,
⟨some 7, .mov (.t 0), none⟩,
⟨some 8, .len true (.t 7), none⟩,
⟨some 9, .bin .lss (.t 6) (.t 8), none⟩]
[0, 3, 4, 9])
(.cond (.t 9)
.skip
(.exit 0)))
(.block 1
(.seq (.seq (.reg [⟨some 10, .mov (.t 0), none⟩,
⟨some 11, .mov (.t 4), none⟩,
⟨some 12, .idx (.t 10) (.t 11), none⟩,
⟨some 13, .bin .eql (.t 12) (.k (.int .u8 35)), none⟩]
[0, 3, 4, 13])
(.cond (.t 13)
(.seq (.reg [⟨some 14, .mov (.t 0), none⟩,
⟨some 15, .mov (.t 4), none⟩,
⟨some 16, .slc 0 (.t 14) (some (.t 15)) none, none⟩,
⟨some 17, .call n_strings_IndexByte [.t 16, .k (.int .u8 10)], none⟩,
⟨some 5, .mov (.t 17), none⟩]
[0, 3, 4, 5])
(.seq (.seq (.reg [⟨some 18, .mov (.t 5), none⟩,
⟨some 19, .bin .lss (.t 18) (.k (.int .i64 0)), none⟩]
[0, 3, 4, 5, 19])
(.cond (.t 19)
(.seq (.reg [⟨some 20, .mov (.t 0), none⟩,
⟨some 21, .len true (.t 20), none⟩,
⟨some 2, .mov (.t 21), none⟩]
[2])
.ret)
.skip))
(.seq (.reg [⟨some 22, .mov (.t 4), none⟩,
⟨some 23, .mov (.t 5), none⟩,
⟨some 24, .bin .add (.t 22) (.t 23), none⟩,
⟨some 4, .mov (.t 24), none⟩]
[0, 3, 4])
(.exit 1))))
.skip))
(.seq (.seq (.reg [⟨some 25, .mov (.t 3), none⟩,
⟨some 26, .mov (.t 0), none⟩,
⟨some 27, .mov (.t 4), none⟩,
⟨some 28, .idx (.t 26) (.t 27), none⟩,
⟨some 29, .callv (.t 25) [.t 28], none⟩,
⟨some 30, .un .not (.t 29), none⟩]
[0, 3, 4, 30])
(.cond (.t 30)
(.exit 0)
.skip))
(.reg [⟨some 31, .mov (.t 4), none⟩,
⟨some 32, .bin .add (.t 31) (.k (.int .i64 1)), none⟩,
⟨some 4, .mov (.t 32), none⟩]
[0, 3, 4])))))))
(.seq (.reg [⟨some 33, .mov (.t 4), none⟩,
⟨some 2, .mov (.t 33), none⟩]
[2])
.ret)))))))⟩
theorem k_lex_blank : chkF Go.Proofs.Tryz.prog Go.Proofs.Tryz.f89 c_lex_blank = true := by kernel_rfl
def c_lex_blank_1 : AFun := ⟨17, 1, [.t 2],
  (.seq (.reg [⟨some 2, .mov (.k (.bool false)), none⟩]
[0])
(.seq (.reg [⟨some 3, .mov (.t 0), none⟩,
⟨some 4, .bin .eql (.t 3) (.k (.int .u8 32)), none⟩,
⟨some 5, .mov (.t 4), none⟩,
⟨some 6, .mov (.t 0), (some (5, false))⟩,
⟨some 7, .bin .eql (.t 6) (.k (.int .u8 9)), (some (5, false))⟩,
⟨some 8, .pick (.t 5) (.k (.bool true)) (.t 7), none⟩,
⟨some 9, .mov (.t 8), none⟩,
⟨some 10, .mov (.t 0), (some (9, false))⟩,
⟨some 11, .bin .eql (.t 10) (.k (.int .u8 10)), (some (9, false))⟩,
⟨some 12, .pick (.t 9) (.k (.bool true)) (.t 11), none⟩,
⟨some 13, .mov (.t 12), none⟩,
⟨some 14, .mov (.t 0), (some (13, false))⟩,
⟨some 15, .bin .eql (.t 14) (.k (.int .u8 13)), (some (13, false))⟩,
⟨some 16, .pick (.t 13) (.k (.bool true)) (.t 15), none⟩,
⟨some 2, .mov (.t 16), none⟩]
[2])
.ret))⟩
theorem k_lex_blank_1 : chkF Go.Proofs.Tryz.prog Go.Proofs.Tryz.f164 c_lex_blank_1 = true := by kernel_rfl
def c_lex_move : AFun := ⟨26, 3, [.t 6, .t 7],
  (.seq (.reg [⟨some 6, .mov (.k (.int .i64 0)), none⟩,
⟨some 7, .mov (.k (.int .i64 0)), none⟩]
[0, 1, 2])
(.seq (.reg [⟨some 9, .mov (.t 2), none⟩,
⟨some 10, .call n_strings_Count [.t 9, .k (.str [10])], none⟩,
⟨some 8, .mov (.t 10), none⟩]
[0, 1, 2, 8])
(.seq (.seq (.reg [⟨some 11, .mov (.t 8), none⟩,
⟨some 12, .bin .eql (.t 11) (.k (.int .i64 0)), none⟩]
[0, 1, 2, 8, 12])
(.cond (.t 12)
(.seq (.reg [⟨some 13, .mov (.t 0), none⟩,
⟨some 14, .mov (.t 1), none⟩,
⟨some 15, .mov (.t 2), none⟩,
⟨some 16, .len true (.t 15), none⟩,
⟨some 17, .bin .add (.t 14) (.t 16), none⟩,
⟨some 6, .mov (.t 13), none⟩,
⟨some 7, .mov (.t 17), none⟩]
[6, 7])
.ret)
.skip))
(.seq (.reg [⟨some 18, .mov (.t 0), none⟩,
⟨some 19, .mov (.t 8), none⟩,
⟨some 20, .bin .add (.t 18) (.t 19), none⟩,
⟨some 21, .mov (.t 2), none⟩,
⟨some 22, .len true (.t 21), none⟩,
⟨some 23, .mov (.t 2), none⟩,
⟨some 24, .call n_strings_LastIndexByte [.t 23, .k (.int .u8 10)], none⟩,
⟨some 25, .bin .sub (.t 22) (.t 24), none⟩,
⟨some 6, .mov (.t 20), none⟩,
⟨some 7, .mov (.t 25), none⟩]
[6, 7])
.ret))))⟩
theorem k_lex_move : chkF Go.Proofs.Tryz.prog Go.Proofs.Tryz.f90 c_lex_move = true := by kernel_rfl
def c_lex_first : AFun := ⟨52, 1, [.cells 2 4, .t 3, .t 4],
  (.seq (.reg [⟨some 2, .alloc t_lex_Token 4 (.agg [.int .i64 0, .str [], .int .i64 0, .int .i64 0]), none⟩,
⟨some 3, .mov (.k (.int .i64 0)), none⟩,
⟨some 4, .mov (.k (.nili)), none⟩]
[0, 2])
(.seq (.seq (.reg [⟨some 9, .mov (.t 0), none⟩,
⟨some 10, .idx (.t 9) (.k (.int .i64 0)), none⟩,
⟨some 11, .bin .eql (.t 10) (.k (.int .u8 34)), none⟩]
[0, 2, 11])
(.cond (.t 11)
(.seq (.reg [⟨some 12, .mov (.t 0), none⟩,
⟨some 13, .call n_lex_quoted [.t 12], none⟩,
⟨some 14, .ext (.t 13) 0, none⟩,
⟨some 15, .ext (.t 13) 1, none⟩,
⟨some 16, .ext (.t 13) 2, none⟩,
⟨none, .store (.t 2) (.t 14) 4, none⟩,
⟨some 3, .mov (.t 15), none⟩,
⟨some 4, .mov (.t 16), none⟩]
[2, 3, 4])
.ret)
.skip))
(.seq (.reg [⟨some 5, .mov (.k (.int .i64 0)), none⟩]
[0, 2, 5])
(.seq (.block 0
(.loop [0, 2, 5] [2, 13, 51, 50, 49, 48, 47, 46, 45, 44, 43, 42, 41, 40]
  (.seq (.seq (.reg [⟨some 17, .mov (.t 5), none⟩,
⟨some 18, .mov (.t 0), none⟩,
⟨some 19, .len true (.t 18), none⟩,
⟨some 20, .bin .lss (.t 17) (.t 19), none⟩,
⟨some 21, .mov (.t 20), none⟩,
⟨some 22, .mov (.t 0), (some (21, true))⟩,
⟨some 23, .mov (.t 5), (some (21, true))⟩,
⟨some 24, .idx (.t 22) (.t 23), (some (21, true))⟩,
⟨some 25, .call n_lex_isLetter [.t 24], (some (21, true))⟩,
⟨some 26, .pick (.t 21) (.t 25) (.k (.bool false)), none⟩]
[0, 2, 5, 26])
(.cond (.t 26)
.skip
(.exit 0)))
(.block 1
(.reg [⟨some 27, .mov (.t 5), none⟩,
⟨some 28, .bin .add (.t 27) (.k (.int .i64 1)), none⟩,
⟨some 5, .mov (.t 28), none⟩]
[0, 2, 5])))))
(.seq (.seq (.reg [⟨some 29, .mov (.t 5), none⟩,
⟨some 30, .bin .gtr (.t 29) (.k (.int .i64 0)), none⟩]
[0, 2, 5, 30])
(.cond (.t 30)
(.seq (.reg [⟨some 32, .mov (.t 0), none⟩,
⟨some 33, .mov (.t 5), none⟩,
⟨some 34, .slc 0 (.t 32) none (some (.t 33)), none⟩,
⟨some 35, .call n_lex_letters [.t 34], none⟩,
⟨some 31, .mov (.t 35), none⟩,
⟨some 36, .ext (.t 31) 0, none⟩,
⟨some 37, .ext (.t 31) 1, none⟩,
⟨some 6, .alloc t_lex_Token 4 (.agg [.int .i64 0, .str [], .int .i64 0, .int .i64 0]), none⟩,
⟨none, .store (.t 6) (.t 36) 4, none⟩,
⟨some 7, .mov (.t 37), none⟩]
[2, 5, 6, 7])
(.seq (.reg [⟨some 38, .loadN (.t 6) 4, none⟩,
⟨some 39, .mov (.t 5), none⟩,
⟨some 40, .mov (.t 7), none⟩,
⟨none, .store (.t 2) (.t 38) 4, none⟩,
⟨some 3, .mov (.t 39), none⟩,
⟨some 4, .mov (.t 40), none⟩]
[2, 3, 4])
.ret))
.skip))
(.seq (.seq (.reg [⟨some 41, .mov (.t 0), none⟩,
⟨some 42, .call n_lex_sign [.t 41], none⟩,
⟨some 8, .mov (.t 42), none⟩]
[2, 8])
(.seq (.reg [⟨some 43, .mov (.t 8), none⟩,
⟨some 44, .bin .neq (.t 43) (.k (.str [])), none⟩]
[2, 8, 44])
(.cond (.t 44)
(.seq (.reg [⟨some 45, .mov (.t 8), none⟩,
⟨some 46, .build [.int .i64 0, .str [], .int .i64 0, .int .i64 0] [(0, 1, .k (.int .i64 5)), (1, 1, .t 45)], none⟩,
⟨some 47, .mov (.t 8), none⟩,
⟨some 48, .len true (.t 47), none⟩,
⟨none, .store (.t 2) (.t 46) 4, none⟩,
⟨some 3, .mov (.t 48), none⟩,
⟨some 4, .mov (.k (.nili)), none⟩]
[2, 3, 4])
.ret)
.skip)))
(.seq (.reg [⟨some 49, .build [.int .i64 0, .str [], .int .i64 0, .int .i64 0] [], none⟩,
⟨some 50, .build [.int .i64 0] [(0, 1, .k (.int .i64 15))], none⟩,
⟨some 51, .mki t_lex_oddToken (.t 50), none⟩,
⟨none, .store (.t 2) (.t 49) 4, none⟩,
⟨some 3, .mov (.k (.int .i64 0)), none⟩,
⟨some 4, .mov (.t 51), none⟩]
[2, 3, 4])
.ret)))))))⟩
theorem k_lex_first : chkF Go.Proofs.Tryz.prog Go.Proofs.Tryz.f91 c_lex_first = true := by kernel_rfl
def c_lex_letters : AFun := ⟨31, 1, [.cells 2 4, .t 3],
  (.seq (.reg [⟨some 2, .alloc t_lex_Token 4 (.agg [.int .i64 0, .str [], .int .i64 0, .int .i64 0]), none⟩,
⟨some 3, .mov (.k (.nili)), none⟩]
[0, 2])
(.seq (.block 0
(.seq (.reg [⟨some 5, .mov (.t 0), none⟩,
⟨some 6, .idx (.t 5) (.k (.int .i64 0)), none⟩,
⟨some 7, .bin .geq (.t 6) (.k (.int .u8 48)), none⟩,
⟨some 8, .mov (.t 7), none⟩,
⟨some 9, .mov (.t 0), (some (8, true))⟩,
⟨some 10, .idx (.t 9) (.k (.int .i64 0)), (some (8, true))⟩,
⟨some 11, .bin .leq (.t 10) (.k (.int .u8 57)), (some (8, true))⟩,
⟨some 12, .pick (.t 8) (.t 11) (.k (.bool false)), none⟩,
⟨some 4, .mov (.t 12), none⟩]
[0, 2, 4])
(.cond (.t 4)
(.seq (.reg [⟨some 13, .mov (.t 0), none⟩,
⟨some 14, .call n_lex_number [.t 13], none⟩,
⟨some 15, .ext (.t 14) 0, none⟩,
⟨some 16, .ext (.t 14) 1, none⟩,
⟨none, .store (.t 2) (.t 15) 4, none⟩,
⟨some 3, .mov (.t 16), none⟩]
[2, 3])
.ret)
(.seq (.reg [⟨some 18, .mov (.t 0), none⟩,
⟨some 19, .len true (.t 18), none⟩,
⟨some 20, .bin .gtr (.t 19) (.k (.int .i64 32)), none⟩,
⟨some 17, .mov (.t 20), none⟩]
[0, 2, 17])
(.cond (.t 17)
(.seq (.reg [⟨some 21, .build [.int .i64 0, .str [], .int .i64 0, .int .i64 0] [], none⟩,
⟨some 22, .build [.int .i64 0] [(0, 1, .k (.int .i64 3))], none⟩,
⟨some 23, .mki t_lex_oddToken (.t 22), none⟩,
⟨none, .store (.t 2) (.t 21) 4, none⟩,
⟨some 3, .mov (.t 23), none⟩]
[2, 3])
.ret)
(.seq (.reg [⟨some 25, .mov (.t 0), none⟩,
⟨some 26, .call n_schema_Word [.t 25], none⟩,
⟨some 24, .mov (.t 26), none⟩]
[0, 2, 24])
(.cond (.t 24)
(.seq (.reg [⟨some 27, .mov (.t 0), none⟩,
⟨some 28, .build [.int .i64 0, .str [], .int .i64 0, .int .i64 0] [(0, 1, .k (.int .i64 2)), (1, 1, .t 27)], none⟩,
⟨none, .store (.t 2) (.t 28) 4, none⟩,
⟨some 3, .mov (.k (.nili)), none⟩]
[2, 3])
.ret)
.skip)))))))
(.seq (.reg [⟨some 29, .mov (.t 0), none⟩,
⟨some 30, .build [.int .i64 0, .str [], .int .i64 0, .int .i64 0] [(0, 1, .k (.int .i64 1)), (1, 1, .t 29)], none⟩,
⟨none, .store (.t 2) (.t 30) 4, none⟩,
⟨some 3, .mov (.k (.nili)), none⟩]
[2, 3])
.ret)))⟩
theorem k_lex_letters : chkF Go.Proofs.Tryz.prog Go.Proofs.Tryz.f170 c_lex_letters = true := by kernel_rfl
def c_lex_isLetter : AFun := ⟨29, 1, [.t 2],
  (.seq (.reg [⟨some 2, .mov (.k (.bool false)), none⟩]
[0])
(.seq (.reg [⟨some 3, .mov (.t 0), none⟩,
⟨some 4, .bin .eql (.t 3) (.k (.int .u8 95)), none⟩,
⟨some 5, .mov (.t 4), none⟩,
⟨some 6, .mov (.t 0), (some (5, false))⟩,
⟨some 7, .bin .geq (.t 6) (.k (.int .u8 48)), (some (5, false))⟩,
⟨some 8, .mov (.t 7), (some (5, false))⟩,
⟨some 9, .mov (.t 0), (some (8, true))⟩,
⟨some 10, .bin .leq (.t 9) (.k (.int .u8 57)), (some (8, true))⟩,
⟨some 11, .pick (.t 8) (.t 10) (.k (.bool false)), (some (5, false))⟩,
⟨some 12, .pick (.t 5) (.k (.bool true)) (.t 11), none⟩,
⟨some 13, .mov (.t 12), none⟩,
⟨some 14, .mov (.t 0), (some (13, false))⟩,
⟨some 15, .bin .geq (.t 14) (.k (.int .u8 65)), (some (13, false))⟩,
⟨some 16, .mov (.t 15), (some (13, false))⟩,
⟨some 17, .mov (.t 0), (some (16, true))⟩,
⟨some 18, .bin .leq (.t 17) (.k (.int .u8 90)), (some (16, true))⟩,
⟨some 19, .pick (.t 16) (.t 18) (.k (.bool false)), (some (13, false))⟩,
⟨some 20, .pick (.t 13) (.k (.bool true)) (.t 19), none⟩,
⟨some 21, .mov (.t 20), none⟩,
⟨some 22, .mov (.t 0), (some (21, false))⟩,
⟨some 23, .bin .geq (.t 22) (.k (.int .u8 97)), (some (21, false))⟩,
⟨some 24, .mov (.t 23), (some (21, false))⟩,
⟨some 25, .mov (.t 0), (some (24, true))⟩,
⟨some 26, .bin .leq (.t 25) (.k (.int .u8 122)), (some (24, true))⟩,
⟨some 27, .pick (.t 24) (.t 26) (.k (.bool false)), (some (21, false))⟩,
⟨some 28, .pick (.t 21) (.k (.bool true)) (.t 27), none⟩,
⟨some 2, .mov (.t 28), none⟩]
[2])
.ret))⟩
theorem k_lex_isLetter : chkF Go.Proofs.Tryz.prog Go.Proofs.Tryz.f169 c_lex_isLetter = true := by kernel_rfl
def c_strings_LastIndexByte : AFun := ⟨8, 2, [.t 4],
  (.seq (.reg [⟨some 4, .mov (.k (.int .i64 0)), none⟩]
[0, 1])
(.seq (.reg [⟨some 5, .mov (.t 0), none⟩,
⟨some 6, .mov (.t 1), none⟩,
⟨some 7, .call n_internal_bytealg_LastIndexByteString [.t 5, .t 6], none⟩,
⟨some 4, .mov (.t 7), none⟩]
[4])
.ret))⟩
theorem k_strings_LastIndexByte : chkF Go.Proofs.Tryz.prog Go.Proofs.Tryz.f167 c_strings_LastIndexByte = true := by kernel_rfl
def c_internal_bytealg_LastIndexByteString : AFun := ⟨19, 2, [.t 4],
  (.seq (.reg [⟨some 4, .mov (.k (.int .i64 0)), none⟩]
[0, 1])
(.seq (.seq (.reg [⟨some 6, .mov (.t 0), none⟩,
⟨some 7, .len true (.t 6), none⟩,
⟨some 8, .bin .sub (.t 7) (.k (.int .i64 1)), none⟩,
⟨some 5, .mov (.t 8), none⟩]
[0, 1, 5])
(.block 0
(.loop [0, 1, 5] [7, 18, 17, 16, 15, 14, 13, 12, 11, 10, 9, 8]
  (.seq (.seq (.reg [⟨some 9, .mov (.t 5), none⟩,
⟨some 10, .bin .geq (.t 9) (.k (.int .i64 0)), none⟩]
[0, 1, 5, 10])
(.cond (.t 10)
.skip
(.exit 0)))
(.seq (.block 1
(.seq (.reg [⟨some 13, .mov (.t 0), none⟩,
⟨some 14, .mov (.t 5), none⟩,
⟨some 15, .idx (.t 13) (.t 14), none⟩,
⟨some 16, .mov (.t 1), none⟩,
⟨some 17, .bin .eql (.t 15) (.t 16), none⟩]
[0, 1, 5, 17])
(.cond (.t 17)
(.seq (.reg [⟨some 18, .mov (.t 5), none⟩,
⟨some 4, .mov (.t 18), none⟩]
[4])
.ret)
.skip)))
(.reg [⟨some 11, .mov (.t 5), none⟩,
⟨some 12, .bin .sub (.t 11) (.k (.int .i64 1)), none⟩,
⟨some 5, .mov (.t 12), none⟩]
[0, 1, 5]))))))
(.seq (.reg [⟨some 4, .mov (.k (.int .i64 (-1))), none⟩]
[4])
.ret)))⟩
theorem k_internal_bytealg_LastIndexByteString : chkF Go.Proofs.Tryz.prog Go.Proofs.Tryz.f207 c_internal_bytealg_LastIndexByteString = true := by kernel_rfl
def c_schema_Word : AFun := ⟨10, 1, [.t 2],
  (.seq (.reg [⟨some 2, .mov (.k (.bool false)), none⟩]
[0])
(.seq (.reg [⟨some 3, .mov (.t 0), none⟩,
⟨some 4, .call n_schema_Spelt [.t 3], none⟩,
⟨some 5, .mov (.t 4), none⟩,
⟨some 6, .slcG 22 (.g 2), (some (5, true))⟩,
⟨some 7, .mov (.t 0), (some (5, true))⟩,
⟨some 8, .call n_slices_Contains_string_string [.t 6, .t 7], (some (5, true))⟩,
⟨some 9, .pick (.t 5) (.t 8) (.k (.bool false)), none⟩,
⟨some 2, .mov (.t 9), none⟩]
[2])
.ret))⟩
theorem k_schema_Word : chkF Go.Proofs.Tryz.prog Go.Proofs.Tryz.f185 c_schema_Word = true := by kernel_rfl
def c_slices_Contains_string_string : AFun := ⟨9, 2, [.t 4],
  (.seq (.reg [⟨some 4, .mov (.k (.bool false)), none⟩]
[0, 1])
(.seq (.reg [⟨some 5, .mov (.t 0), none⟩,
⟨some 6, .mov (.t 1), none⟩,
⟨some 7, .call n_slices_Index_string_string [.t 5, .t 6], none⟩,
⟨some 8, .bin .geq (.t 7) (.k (.int .i64 0)), none⟩,
⟨some 4, .mov (.t 8), none⟩]
[4])
.ret))⟩
theorem k_slices_Contains_string_string : chkF Go.Proofs.Tryz.prog Go.Proofs.Tryz.f219 c_slices_Contains_string_string = true := by kernel_rfl
def c_slices_Index_string_string : AFun := ⟨19, 2, [.t 4],
  (.seq (.reg [⟨some 4, .mov (.k (.int .i64 0)), none⟩]
[0, 1])
(.seq (.seq (.reg [⟨some 6, .mov (.t 0), none⟩,
⟨some 7, .len false (.t 6), none⟩,
⟨some 8, .mov (.k (.int .i64 0)), none⟩]
[0, 1, 7, 8])
(.block 0
(.loop [0, 1, 7, 8] [7, 18, 17, 16, 15, 14, 13, 12, 11, 10, 9, 8]
  (.seq (.reg [⟨some 9, .bin .lss (.t 8) (.t 7), none⟩]
[0, 1, 7, 8, 9])
(.seq (.cond (.t 9)
.skip
(.exit 0))
(.seq (.block 1
(.seq (.reg [⟨some 10, .mov (.t 8), none⟩,
⟨some 5, .mov (.t 10), none⟩]
[0, 1, 5, 7, 8])
(.seq (.reg [⟨some 11, .mov (.t 1), none⟩,
⟨some 12, .mov (.t 0), none⟩,
⟨some 13, .mov (.t 5), none⟩,
⟨some 14, .iaddr 1 (.t 12) (.t 13), none⟩,
⟨some 15, .load (.t 14), none⟩,
⟨some 16, .bin .eql (.t 11) (.t 15), none⟩]
[0, 1, 5, 7, 8, 16])
(.cond (.t 16)
(.seq (.reg [⟨some 17, .mov (.t 5), none⟩,
⟨some 4, .mov (.t 17), none⟩]
[4])
.ret)
.skip))))
(.reg [⟨some 18, .bin .add (.t 8) (.k (.int .i64 1)), none⟩,
⟨some 8, .mov (.t 18), none⟩]
[0, 1, 7, 8])))))))
(.seq (.reg [⟨some 4, .mov (.k (.int .i64 (-1))), none⟩]
[4])
.ret)))⟩
theorem k_slices_Index_string_string : chkF Go.Proofs.Tryz.prog Go.Proofs.Tryz.f235 c_slices_Index_string_string = true := by kernel_rfl
def c_errors_As : AFun := ⟨42, 2, [.t 4],
  (.seq (.reg [⟨some 4, .mov (.k (.bool false)), none⟩]
[0, 1])
(.seq (.seq (.reg [⟨some 8, .mov (.t 0), none⟩,
⟨some 9, .eqI false (.t 8) (.k (.nili)), none⟩]
[0, 1, 9])
(.cond (.t 9)
(.seq (.reg [⟨some 4, .mov (.k (.bool false)), none⟩]
[4])
.ret)
.skip))
(.seq (.seq (.reg [⟨some 10, .mov (.t 1), none⟩,
⟨some 11, .eqI false (.t 10) (.k (.nili)), none⟩]
[0, 1, 11])
(.cond (.t 11)
(.reg [⟨some 12, .mki t_string (.k (.str [101, 114, 114, 111, 114, 115, 58, 32, 116, 97, 114, 103, 101, 116, 32, 99, 97, 110, 110, 111, 116, 32, 98, 101, 32, 110, 105, 108])), none⟩,
⟨none, .bad, none⟩]
[0, 1])
.skip))
(.seq (.reg [⟨some 13, .mov (.t 1), none⟩,
⟨some 14, .bad, none⟩,
⟨some 5, .alloc t_reflectlite_Value 3 (.agg [.nilp, .nilp, .int .u64 0]), none⟩,
⟨none, .store (.t 5) (.t 14) 3, none⟩]
[0, 1, 5])
(.seq (.reg [⟨some 15, .loadN (.t 5) 3, none⟩,
⟨some 16, .bad, none⟩,
⟨some 6, .mov (.t 16), none⟩]
[0, 1, 5, 6])
(.seq (.seq (.reg [⟨some 17, .mov (.t 6), none⟩,
⟨some 18, .bad, none⟩,
⟨some 19, .bin .neq (.t 18) (.k (.int .u8 22)), none⟩,
⟨some 20, .mov (.t 19), none⟩,
⟨some 21, .loadN (.t 5) 3, (some (20, false))⟩,
⟨some 22, .bad, (some (20, false))⟩,
⟨some 23, .pick (.t 20) (.k (.bool true)) (.t 22), none⟩]
[0, 1, 5, 6, 23])
(.cond (.t 23)
(.reg [⟨some 24, .mki t_string (.k (.str [101, 114, 114, 111, 114, 115, 58, 32, 116, 97, 114, 103, 101, 116, 32, 109, 117, 115, 116, 32, 98, 101, 32, 97, 32, 110, 111, 110, 45, 110, 105, 108, 32, 112, 111, 105, 110, 116, 101, 114])), none⟩,
⟨none, .bad, none⟩]
[0, 1, 5, 6])
.skip))
(.seq (.reg [⟨some 25, .mov (.t 6), none⟩,
⟨some 26, .bad, none⟩,
⟨some 7, .mov (.t 26), none⟩]
[0, 1, 5, 7])
(.seq (.seq (.reg [⟨some 27, .mov (.t 7), none⟩,
⟨some 28, .bad, none⟩,
⟨some 29, .bin .neq (.t 28) (.k (.int .u8 20)), none⟩,
⟨some 30, .mov (.t 29), none⟩,
⟨some 31, .mov (.t 7), (some (30, true))⟩,
⟨some 32, .load (.g 1), (some (30, true))⟩,
⟨some 33, .bad, (some (30, true))⟩,
⟨some 34, .un .not (.t 33), (some (30, true))⟩,
⟨some 35, .pick (.t 30) (.t 34) (.k (.bool false)), none⟩]
[0, 1, 5, 7, 35])
(.cond (.t 35)
(.reg [⟨some 36, .mki t_string (.k (.str [101, 114, 114, 111, 114, 115, 58, 32, 42, 116, 97, 114, 103, 101, 116, 32, 109, 117, 115, 116, 32, 98, 101, 32, 105, 110, 116, 101, 114, 102, 97, 99, 101, 32, 111, 114, 32, 105, 109, 112, 108, 101, 109, 101, 110, 116, 32, 101, 114, 114, 111, 114])), none⟩,
⟨none, .bad, none⟩]
[0, 1, 5, 7])
.skip))
(.seq (.reg [⟨some 37, .mov (.t 0), none⟩,
⟨some 38, .mov (.t 1), none⟩,
⟨some 39, .loadN (.t 5) 3, none⟩,
⟨some 40, .mov (.t 7), none⟩,
⟨some 41, .call n_errors_as [.t 37, .t 38, .t 39, .t 40], none⟩,
⟨some 4, .mov (.t 41), none⟩]
[4])
.ret)))))))))⟩
theorem k_errors_As : chkF Go.Proofs.Tryz.prog Go.Proofs.Tryz.f23 c_errors_As = true := by kernel_rfl
def c_parse_parser_spec : AFun := ⟨47, 1, [.cells 2 12, .t 3],
  (.seq (.reg [⟨some 2, .alloc t_api_Tree 12 (.agg [.str [], .int .i64 0, .int .i64 0, .nils, .nils, .nils, .nils, .str [], .int .i64 0, .int .i64 0, .nils, .nils]), none⟩,
⟨some 3, .mov (.k (.nili)), none⟩]
[0, 2])
(.seq (.reg [⟨some 9, .mov (.t 0), none⟩,
⟨some 10, .call n_parse_parser_head [.t 9], none⟩,
⟨some 8, .mov (.t 10), none⟩,
⟨some 11, .ext (.t 8) 0, none⟩,
⟨some 12, .ext (.t 8) 1, none⟩,
⟨some 4, .alloc t_api_Tree 12 (.agg [.str [], .int .i64 0, .int .i64 0, .nils, .nils, .nils, .nils, .str [], .int .i64 0, .int .i64 0, .nils, .nils]), none⟩,
⟨none, .store (.t 4) (.t 11) 12, none⟩,
⟨some 5, .mov (.t 12), none⟩]
[0, 2, 4, 5])
(.seq (.block 0
(.loop [0, 2, 4, 5] [2, 10, 4, 42, 46, 45, 44, 43, 40, 39, 38, 37, 36, 35, 34, 33]
  (.seq (.seq (.dreg [⟨some 13, .mov (.t 5), none⟩,
⟨some 14, .eqI false (.t 13) (.k (.nili)), none⟩,
⟨some 15, .mov (.t 14), none⟩,
⟨some 16, .mov (.t 0), (some (15, true))⟩,
⟨some 17, .nchk (.t 16), (some (15, true))⟩,
⟨some 18, .faddr (.t 17) 0, (some (15, true))⟩,
⟨some 19, .load (.t 18), (some (15, true))⟩,
⟨some 20, .nchk (.t 19), (some (15, true))⟩,
⟨some 21, .faddr (.t 20) 1, (some (15, true))⟩,
⟨some 22, .load (.t 21), (some (15, true))⟩,
⟨some 23, .mov (.t 0), (some (15, true))⟩,
⟨some 24, .nchk (.t 23), (some (15, true))⟩,
⟨some 25, .faddr (.t 24) 0, (some (15, true))⟩,
⟨some 26, .load (.t 25), (some (15, true))⟩,
⟨some 27, .nchk (.t 26), (some (15, true))⟩,
⟨some 28, .faddr (.t 27) 0, (some (15, true))⟩,
⟨some 29, .load (.t 28), (some (15, true))⟩,
⟨some 30, .len false (.t 29), (some (15, true))⟩,
⟨some 31, .bin .lss (.t 22) (.t 30), (some (15, true))⟩,
⟨some 32, .pick (.t 15) (.t 31) (.k (.bool false)), none⟩]
[0, 2, 4, 5, 32])
(.cond (.t 32)
.skip
(.exit 0)))
(.block 1
(.seq (.reg [⟨some 34, .mov (.t 0), none⟩,
⟨some 35, .call n_parse_parser_trans [.t 34], none⟩,
⟨some 33, .mov (.t 35), none⟩,
⟨some 36, .ext (.t 33) 0, none⟩,
⟨some 37, .ext (.t 33) 1, none⟩,
⟨some 6, .alloc t_api_TreeTrans 13 (.agg [.str [], .int .i64 0, .int .i64 0, .str [], .int .i64 0, .int .i64 0, .str [], .nils, .int .i64 0, .int .i64 0, .nils, .int .i64 0, .nils]), none⟩,
⟨none, .store (.t 6) (.t 36) 13, none⟩,
⟨some 7, .mov (.t 37), none⟩]
[0, 2, 4, 6, 7])
(.reg [⟨some 38, .faddr (.t 4) 11, none⟩,
⟨some 39, .load (.t 38), none⟩,
⟨some 40, .loadN (.t 6) 13, none⟩,
⟨some 41, .mkrow t_api_TreeTrans 13 1 (.agg [.str [], .int .i64 0, .int .i64 0, .str [], .int .i64 0, .int .i64 0, .str [], .nils, .int .i64 0, .int .i64 0, .nils, .int .i64 0, .nils]) [(0, .t 40)], none⟩,
⟨some 42, .app t_api_TreeTrans 13 176 (.t 39) (.t 41), none⟩,
⟨some 43, .mov (.t 7), none⟩,
⟨some 44, .faddr (.t 4) 11, none⟩,
⟨none, .store (.t 44) (.t 42) 1, none⟩,
⟨some 5, .mov (.t 43), none⟩]
[0, 2, 4, 5]))))))
(.seq (.reg [⟨some 45, .loadN (.t 4) 12, none⟩,
⟨some 46, .mov (.t 5), none⟩,
⟨none, .store (.t 2) (.t 45) 12, none⟩,
⟨some 3, .mov (.t 46), none⟩]
[2, 3])
.ret))))⟩
theorem k_parse_parser_spec : chkF Go.Proofs.Tryz.prog Go.Proofs.Tryz.f21 c_parse_parser_spec = true := by kernel_rfl
def c_parse_parser_head : AFun := ⟨33, 1, [.cells 2 12, .t 3],
  (.seq (.reg [⟨some 1, .box t_Pparse_parser 1 (.t 0), none⟩,
⟨some 2, .alloc t_api_Tree 12 (.agg [.str [], .int .i64 0, .int .i64 0, .nils, .nils, .nils, .nils, .str [], .int .i64 0, .int .i64 0, .nils, .nils]), none⟩,
⟨some 3, .mov (.k (.nili)), none⟩]
[1, 2])
(.seq (.reg [⟨some 4, .alloc t_api_Tree 12 (.agg [.str [], .int .i64 0, .int .i64 0, .nils, .nils, .nils, .nils, .str [], .int .i64 0, .int .i64 0, .nils, .nils]), none⟩]
[1, 2, 4])
(.seq (.reg [⟨some 9, .mkfn n_parse_parser_head_1 [.t 1], none⟩,
⟨some 10, .mkfn n_parse_parser_head_2 [.t 1, .t 4], none⟩,
⟨some 11, .mkfn n_parse_parser_head_3 [.t 1, .t 4], none⟩,
⟨some 12, .mkfn n_parse_parser_head_4 [.t 1, .t 4], none⟩,
⟨some 13, .mkfn n_parse_parser_head_5 [.t 1, .t 4], none⟩,
⟨some 14, .mkfn n_parse_parser_head_6 [.t 1, .t 4], none⟩,
⟨some 15, .mkfn n_parse_parser_head_7 [.t 1], none⟩,
⟨some 16, .mkfn n_parse_parser_head_8 [.t 1, .t 4], none⟩,
⟨some 17, .mkfn n_parse_parser_head_9 [.t 1, .t 4], none⟩,
⟨some 18, .mkrow t_func_error 1 9 (.tup [.nilfn]) [(0, .t 9), (1, .t 10), (2, .t 11), (3, .t 12), (4, .t 13), (5, .t 14), (6, .t 15), (7, .t 16), (8, .t 17)], none⟩,
⟨some 5, .mov (.t 18), none⟩]
[2, 4, 5])
(.seq (.seq (.reg [⟨some 19, .mov (.t 5), none⟩,
⟨some 20, .len false (.t 19), none⟩,
⟨some 21, .mov (.k (.int .i64 0)), none⟩]
[2, 4, 19, 20, 21])
(.block 0
(.loop [2, 4, 19, 20, 21] [1, 2, 4, 18, 20, 32, 31, 30, 29, 28, 27, 26, 25, 24, 23, 22, 21]
  (.seq (.reg [⟨some 22, .bin .lss (.t 21) (.t 20), none⟩]
[2, 4, 19, 20, 21, 22])
(.seq (.cond (.t 22)
.skip
(.exit 0))
(.seq (.block 1
(.seq (.reg [⟨some 23, .iaddr 1 (.t 19) (.t 21), none⟩,
⟨some 24, .load (.t 23), none⟩,
⟨some 7, .mov (.t 24), none⟩]
[2, 4, 7, 19, 20, 21])
(.seq (.reg [⟨some 25, .mov (.t 7), none⟩,
⟨some 26, .callvB (.t 25) [], none⟩,
⟨some 8, .mov (.t 26), none⟩]
[2, 4, 8, 19, 20, 21])
(.seq (.reg [⟨some 27, .mov (.t 8), none⟩,
⟨some 28, .eqI true (.t 27) (.k (.nili)), none⟩]
[2, 4, 8, 19, 20, 21, 28])
(.cond (.t 28)
(.seq (.reg [⟨some 29, .build [.str [], .int .i64 0, .int .i64 0, .nils, .nils, .nils, .nils, .str [], .int .i64 0, .int .i64 0, .nils, .nils] [], none⟩,
⟨some 30, .mov (.t 8), none⟩,
⟨none, .store (.t 2) (.t 29) 12, none⟩,
⟨some 3, .mov (.t 30), none⟩]
[2, 3])
.ret)
.skip)))))
(.reg [⟨some 31, .bin .add (.t 21) (.k (.int .i64 1)), none⟩,
⟨some 21, .mov (.t 31), none⟩]
[2, 4, 19, 20, 21])))))))
(.seq (.reg [⟨some 32, .loadN (.t 4) 12, none⟩,
⟨none, .store (.t 2) (.t 32) 12, none⟩,
⟨some 3, .mov (.k (.nili)), none⟩]
[2, 3])
.ret)))))⟩
theorem k_parse_parser_head : chkF Go.Proofs.Tryz.prog Go.Proofs.Tryz.f38 c_parse_parser_head = true := by kernel_rfl
def c_parse_parser_head_1 : AFun := ⟨5, 1, [.t 1],
  (.seq (.reg [⟨some 1, .mov (.k (.nili)), none⟩]
[0])
(.seq (.reg [⟨some 2, .load (.t 0), none⟩,
⟨some 3, .mkrow t_string 1 1 (.str []) [(0, .k (.str [113, 101, 97]))], none⟩,
⟨some 4, .call n_parse_parser_want [.t 2, .t 3], none⟩,
⟨some 1, .mov (.t 4), none⟩]
[1])
.ret))⟩
theorem k_parse_parser_head_1 : chkF Go.Proofs.Tryz.prog Go.Proofs.Tryz.f92 c_parse_parser_head_1 = true := by kernel_rfl
def c_parse_parser_head_2 : AFun := ⟨10, 2, [.t 2],
  (.seq (.reg [⟨some 2, .mov (.k (.nili)), none⟩]
[0, 1])
(.seq (.reg [⟨some 4, .load (.t 0), none⟩,
⟨some 5, .call n_parse_parser_name [.t 4], none⟩,
⟨some 3, .mov (.t 5), none⟩,
⟨some 6, .ext (.t 3) 0, none⟩,
⟨some 7, .ext (.t 3) 1, none⟩,
⟨some 8, .faddr (.t 1) 0, none⟩,
⟨none, .store (.t 8) (.t 6) 3, none⟩,
⟨some 2, .mov (.t 7), none⟩]
[2])
(.seq (.reg [⟨some 9, .mov (.t 2), none⟩,
⟨some 2, .mov (.t 9), none⟩]
[2])
.ret)))⟩
theorem k_parse_parser_head_2 : chkF Go.Proofs.Tryz.prog Go.Proofs.Tryz.f94 c_parse_parser_head_2 = true := by kernel_rfl
def c_parse_parser_head_3 : AFun := ⟨12, 2, [.t 2],
  (.seq (.reg [⟨some 2, .mov (.k (.nili)), none⟩]
[0, 1])
(.seq (.reg [⟨some 4, .load (.t 0), none⟩,
⟨some 5, .mkrow t_string 1 1 (.str []) [(0, .k (.str [101, 118, 101, 110, 116]))], none⟩,
⟨some 6, .mkfn n_parse_parser_head_3_1 [.t 0], none⟩,
⟨some 7, .call n_parse_many_api_TreeDecl [.t 4, .t 5, .t 6], none⟩,
⟨some 3, .mov (.t 7), none⟩,
⟨some 8, .ext (.t 3) 0, none⟩,
⟨some 9, .ext (.t 3) 1, none⟩,
⟨some 10, .faddr (.t 1) 3, none⟩,
⟨none, .store (.t 10) (.t 8) 1, none⟩,
⟨some 2, .mov (.t 9), none⟩]
[2])
(.seq (.reg [⟨some 11, .mov (.t 2), none⟩,
⟨some 2, .mov (.t 11), none⟩]
[2])
.ret)))⟩
theorem k_parse_parser_head_3 : chkF Go.Proofs.Tryz.prog Go.Proofs.Tryz.f96 c_parse_parser_head_3 = true := by kernel_rfl
def c_parse_parser_head_4 : AFun := ⟨12, 2, [.t 2],
  (.seq (.reg [⟨some 2, .mov (.k (.nili)), none⟩]
[0, 1])
(.seq (.reg [⟨some 4, .load (.t 0), none⟩,
⟨some 5, .mkrow t_string 1 2 (.str []) [(0, .k (.str [101, 120, 105, 115, 116, 115])), (1, .k (.str [102, 111, 114, 97, 108, 108]))], none⟩,
⟨some 6, .mkfn n_parse_parser_head_4_1 [.t 0], none⟩,
⟨some 7, .call n_parse_many_api_TreeQuant [.t 4, .t 5, .t 6], none⟩,
⟨some 3, .mov (.t 7), none⟩,
⟨some 8, .ext (.t 3) 0, none⟩,
⟨some 9, .ext (.t 3) 1, none⟩,
⟨some 10, .faddr (.t 1) 4, none⟩,
⟨none, .store (.t 10) (.t 8) 1, none⟩,
⟨some 2, .mov (.t 9), none⟩]
[2])
(.seq (.reg [⟨some 11, .mov (.t 2), none⟩,
⟨some 2, .mov (.t 11), none⟩]
[2])
.ret)))⟩
theorem k_parse_parser_head_4 : chkF Go.Proofs.Tryz.prog Go.Proofs.Tryz.f100 c_parse_parser_head_4 = true := by kernel_rfl
def c_parse_parser_head_5 : AFun := ⟨12, 2, [.t 2],
  (.seq (.reg [⟨some 2, .mov (.k (.nili)), none⟩]
[0, 1])
(.seq (.reg [⟨some 4, .load (.t 0), none⟩,
⟨some 5, .mkrow t_string 1 1 (.str []) [(0, .k (.str [102, 114, 101, 101]))], none⟩,
⟨some 6, .mkfn n_parse_parser_head_5_1 [.t 0], none⟩,
⟨some 7, .call n_parse_many_api_TreeFree [.t 4, .t 5, .t 6], none⟩,
⟨some 3, .mov (.t 7), none⟩,
⟨some 8, .ext (.t 3) 0, none⟩,
⟨some 9, .ext (.t 3) 1, none⟩,
⟨some 10, .faddr (.t 1) 5, none⟩,
⟨none, .store (.t 10) (.t 8) 1, none⟩,
⟨some 2, .mov (.t 9), none⟩]
[2])
(.seq (.reg [⟨some 11, .mov (.t 2), none⟩,
⟨some 2, .mov (.t 11), none⟩]
[2])
.ret)))⟩
theorem k_parse_parser_head_5 : chkF Go.Proofs.Tryz.prog Go.Proofs.Tryz.f104 c_parse_parser_head_5 = true := by kernel_rfl
def c_parse_parser_head_6 : AFun := ⟨12, 2, [.t 2],
  (.seq (.reg [⟨some 2, .mov (.k (.nili)), none⟩]
[0, 1])
(.seq (.reg [⟨some 4, .load (.t 0), none⟩,
⟨some 5, .mkrow t_string 1 2 (.str []) [(0, .k (.str [115, 107, 105, 112])), (1, .k (.str [110, 101, 120, 116]))], none⟩,
⟨some 6, .mkfn n_parse_parser_head_6_1 [.t 0], none⟩,
⟨some 7, .call n_parse_many_api_TreeState [.t 4, .t 5, .t 6], none⟩,
⟨some 3, .mov (.t 7), none⟩,
⟨some 8, .ext (.t 3) 0, none⟩,
⟨some 9, .ext (.t 3) 1, none⟩,
⟨some 10, .faddr (.t 1) 6, none⟩,
⟨none, .store (.t 10) (.t 8) 1, none⟩,
⟨some 2, .mov (.t 9), none⟩]
[2])
(.seq (.reg [⟨some 11, .mov (.t 2), none⟩,
⟨some 2, .mov (.t 11), none⟩]
[2])
.ret)))⟩
theorem k_parse_parser_head_6 : chkF Go.Proofs.Tryz.prog Go.Proofs.Tryz.f108 c_parse_parser_head_6 = true := by kernel_rfl
def c_parse_parser_head_6_1 : AFun := ⟨11, 2, [.cells 3 5, .t 4],
  (.seq (.reg [⟨some 3, .alloc t_api_TreeState 5 (.agg [.str [], .int .i64 0, .int .i64 0, .bool false, .bool false]), none⟩,
⟨some 4, .mov (.k (.nili)), none⟩]
[0, 1, 3])
(.seq (.reg [⟨some 5, .load (.t 1), none⟩,
⟨some 6, .mov (.t 0), none⟩,
⟨some 7, .bin .eql (.t 6) (.k (.int .i64 1)), none⟩,
⟨some 8, .call n_parse_parser_state [.t 5, .t 7], none⟩,
⟨some 9, .ext (.t 8) 0, none⟩,
⟨some 10, .ext (.t 8) 1, none⟩,
⟨none, .store (.t 3) (.t 9) 5, none⟩,
⟨some 4, .mov (.t 10), none⟩]
[3, 4])
.ret))⟩
theorem k_parse_parser_head_6_1 : chkF Go.Proofs.Tryz.prog Go.Proofs.Tryz.f110 c_parse_parser_head_6_1 = true := by kernel_rfl
def c_parse_parser_head_7 : AFun := ⟨5, 1, [.t 1],
  (.seq (.reg [⟨some 1, .mov (.k (.nili)), none⟩]
[0])
(.seq (.reg [⟨some 2, .load (.t 0), none⟩,
⟨some 3, .mkrow t_string 1 1 (.str []) [(0, .k (.str [115, 116, 97, 114, 116]))], none⟩,
⟨some 4, .call n_parse_parser_want [.t 2, .t 3], none⟩,
⟨some 1, .mov (.t 4), none⟩]
[1])
.ret))⟩
theorem k_parse_parser_head_7 : chkF Go.Proofs.Tryz.prog Go.Proofs.Tryz.f112 c_parse_parser_head_7 = true := by kernel_rfl
def c_parse_parser_head_8 : AFun := ⟨10, 2, [.t 2],
  (.seq (.reg [⟨some 2, .mov (.k (.nili)), none⟩]
[0, 1])
(.seq (.reg [⟨some 4, .load (.t 0), none⟩,
⟨some 5, .call n_parse_parser_name [.t 4], none⟩,
⟨some 3, .mov (.t 5), none⟩,
⟨some 6, .ext (.t 3) 0, none⟩,
⟨some 7, .ext (.t 3) 1, none⟩,
⟨some 8, .faddr (.t 1) 7, none⟩,
⟨none, .store (.t 8) (.t 6) 3, none⟩,
⟨some 2, .mov (.t 7), none⟩]
[2])
(.seq (.reg [⟨some 9, .mov (.t 2), none⟩,
⟨some 2, .mov (.t 9), none⟩]
[2])
.ret)))⟩
theorem k_parse_parser_head_8 : chkF Go.Proofs.Tryz.prog Go.Proofs.Tryz.f113 c_parse_parser_head_8 = true := by kernel_rfl
def c_parse_parser_head_9 : AFun := ⟨12, 2, [.t 2],
  (.seq (.reg [⟨some 2, .mov (.k (.nili)), none⟩]
[0, 1])
(.seq (.reg [⟨some 4, .load (.t 0), none⟩,
⟨some 5, .mkrow t_string 1 1 (.str []) [(0, .k (.str [97, 108, 115, 111]))], none⟩,
⟨some 6, .mkfn n_parse_parser_head_9_1 [.t 0], none⟩,
⟨some 7, .call n_parse_many_api_TreeSymbol [.t 4, .t 5, .t 6], none⟩,
⟨some 3, .mov (.t 7), none⟩,
⟨some 8, .ext (.t 3) 0, none⟩,
⟨some 9, .ext (.t 3) 1, none⟩,
⟨some 10, .faddr (.t 1) 10, none⟩,
⟨none, .store (.t 10) (.t 8) 1, none⟩,
⟨some 2, .mov (.t 9), none⟩]
[2])
(.seq (.reg [⟨some 11, .mov (.t 2), none⟩,
⟨some 2, .mov (.t 11), none⟩]
[2])
.ret)))⟩
theorem k_parse_parser_head_9 : chkF Go.Proofs.Tryz.prog Go.Proofs.Tryz.f114 c_parse_parser_head_9 = true := by kernel_rfl
def c_parse_parser_want : AFun := ⟨20, 2, [.t 4],
  (.seq (.reg [⟨some 4, .mov (.k (.nili)), none⟩]
[0, 1])
(.seq (.seq (.reg [⟨some 7, .mov (.t 1), none⟩,
⟨some 8, .len false (.t 7), none⟩,
⟨some 9, .mov (.k (.int .i64 0)), none⟩]
[0, 7, 8, 9])
(.block 0
(.loop [0, 7, 8, 9] [8, 19, 18, 17, 16, 15, 14, 13, 12, 11, 10, 9]
  (.seq (.reg [⟨some 10, .bin .lss (.t 9) (.t 8), none⟩]
[0, 7, 8, 9, 10])
(.seq (.cond (.t 10)
.skip
(.exit 0))
(.seq (.block 1
(.seq (.reg [⟨some 11, .iaddr 1 (.t 7) (.t 9), none⟩,
⟨some 12, .load (.t 11), none⟩,
⟨some 6, .mov (.t 12), none⟩]
[0, 6, 7, 8, 9])
(.seq (.reg [⟨some 13, .mov (.t 0), none⟩,
⟨some 14, .mov (.t 6), none⟩,
⟨some 15, .call n_parse_parser_take [.t 13, .t 14], none⟩,
⟨some 16, .un .not (.t 15), none⟩]
[0, 7, 8, 9, 16])
(.cond (.t 16)
(.seq (.reg [⟨some 17, .mov (.t 0), none⟩,
⟨some 18, .call n_parse_parser_fail [.t 17, .k (.int .i64 16)], none⟩,
⟨some 4, .mov (.t 18), none⟩]
[4])
.ret)
.skip))))
(.reg [⟨some 19, .bin .add (.t 9) (.k (.int .i64 1)), none⟩,
⟨some 9, .mov (.t 19), none⟩]
[0, 7, 8, 9])))))))
(.seq (.reg [⟨some 4, .mov (.k (.nili)), none⟩]
[4])
.ret)))⟩
theorem k_parse_parser_want : chkF Go.Proofs.Tryz.prog Go.Proofs.Tryz.f93 c_parse_parser_want = true := by kernel_rfl
def c_parse_parser_name : AFun := ⟨38, 1, [.cells 2 3, .t 3],
  (.seq (.reg [⟨some 2, .alloc t_api_Ident 3 (.agg [.str [], .int .i64 0, .int .i64 0]), none⟩,
⟨some 3, .mov (.k (.nili)), none⟩]
[0, 2])
(.seq (.reg [⟨some 5, .mov (.t 0), none⟩,
⟨some 6, .nchk (.t 5), none⟩,
⟨some 7, .faddr (.t 6) 0, none⟩,
⟨some 8, .load (.t 7), none⟩,
⟨some 9, .call n_parse_place_peek [.t 8], none⟩,
⟨some 4, .alloc t_lex_Token 4 (.agg [.int .i64 0, .str [], .int .i64 0, .int .i64 0]), none⟩,
⟨none, .store (.t 4) (.t 9) 4, none⟩]
[0, 2, 4])
(.seq (.seq (.reg [⟨some 10, .faddr (.t 4) 0, none⟩,
⟨some 11, .load (.t 10), none⟩,
⟨some 12, .bin .neq (.t 11) (.k (.int .i64 1)), none⟩,
⟨some 13, .mov (.t 12), none⟩,
⟨some 14, .faddr (.t 4) 1, (some (13, false))⟩,
⟨some 15, .load (.t 14), (some (13, false))⟩,
⟨some 16, .bin .eql (.t 15) (.k (.str [95])), (some (13, false))⟩,
⟨some 17, .pick (.t 13) (.k (.bool true)) (.t 16), none⟩]
[0, 2, 4, 17])
(.cond (.t 17)
(.seq (.reg [⟨some 18, .build [.str [], .int .i64 0, .int .i64 0] [], none⟩,
⟨some 19, .mov (.t 0), none⟩,
⟨some 20, .call n_parse_parser_fail [.t 19, .k (.int .i64 16)], none⟩,
⟨none, .store (.t 2) (.t 18) 3, none⟩,
⟨some 3, .mov (.t 20), none⟩]
[2, 3])
.ret)
.skip))
(.seq (.reg [⟨some 21, .mov (.t 0), none⟩,
⟨some 22, .nchk (.t 21), none⟩,
⟨some 23, .faddr (.t 22) 0, none⟩,
⟨some 24, .load (.t 23), none⟩,
⟨some 25, .nchk (.t 24), none⟩,
⟨some 26, .faddr (.t 25) 1, none⟩,
⟨some 27, .load (.t 26), none⟩,
⟨some 28, .bin .add (.t 27) (.k (.int .i64 1)), none⟩,
⟨some 29, .nchk (.t 24), none⟩,
⟨some 30, .faddr (.t 29) 1, none⟩,
⟨none, .store (.t 30) (.t 28) 1, none⟩]
[2, 4])
(.seq (.reg [⟨some 31, .faddr (.t 4) 1, none⟩,
⟨some 32, .load (.t 31), none⟩,
⟨some 33, .faddr (.t 4) 2, none⟩,
⟨some 34, .load (.t 33), none⟩,
⟨some 35, .faddr (.t 4) 3, none⟩,
⟨some 36, .load (.t 35), none⟩,
⟨some 37, .build [.str [], .int .i64 0, .int .i64 0] [(0, 1, .t 32), (1, 1, .t 34), (2, 1, .t 36)], none⟩,
⟨none, .store (.t 2) (.t 37) 3, none⟩,
⟨some 3, .mov (.k (.nili)), none⟩]
[2, 3])
.ret)))))⟩
theorem k_parse_parser_name : chkF Go.Proofs.Tryz.prog Go.Proofs.Tryz.f95 c_parse_parser_name = true := by kernel_rfl
def c_parse_parser_take : AFun := ⟨19, 2, [.t 4],
  (.seq (.reg [⟨some 4, .mov (.k (.bool false)), none⟩]
[0, 1])
(.seq (.seq (.reg [⟨some 5, .mov (.t 0), none⟩,
⟨some 6, .mov (.t 1), none⟩,
⟨some 7, .call n_parse_parser_is [.t 5, .t 6], none⟩,
⟨some 8, .un .not (.t 7), none⟩]
[0, 8])
(.cond (.t 8)
(.seq (.reg [⟨some 4, .mov (.k (.bool false)), none⟩]
[4])
.ret)
.skip))
(.seq (.reg [⟨some 9, .mov (.t 0), none⟩,
⟨some 10, .nchk (.t 9), none⟩,
⟨some 11, .faddr (.t 10) 0, none⟩,
⟨some 12, .load (.t 11), none⟩,
⟨some 13, .nchk (.t 12), none⟩,
⟨some 14, .faddr (.t 13) 1, none⟩,
⟨some 15, .load (.t 14), none⟩,
⟨some 16, .bin .add (.t 15) (.k (.int .i64 1)), none⟩,
⟨some 17, .nchk (.t 12), none⟩,
⟨some 18, .faddr (.t 17) 1, none⟩,
⟨none, .store (.t 18) (.t 16) 1, none⟩]
[])
(.seq (.reg [⟨some 4, .mov (.k (.bool true)), none⟩]
[4])
.ret))))⟩
theorem k_parse_parser_take : chkF Go.Proofs.Tryz.prog Go.Proofs.Tryz.f119 c_parse_parser_take = true := by kernel_rfl
def c_parse_parser_is : AFun := ⟨25, 2, [.t 4],
  (.seq (.reg [⟨some 4, .mov (.k (.bool false)), none⟩]
[0, 1])
(.seq (.reg [⟨some 6, .mov (.t 0), none⟩,
⟨some 7, .nchk (.t 6), none⟩,
⟨some 8, .faddr (.t 7) 0, none⟩,
⟨some 9, .load (.t 8), none⟩,
⟨some 10, .call n_parse_place_peek [.t 9], none⟩,
⟨some 5, .alloc t_lex_Token 4 (.agg [.int .i64 0, .str [], .int .i64 0, .int .i64 0]), none⟩,
⟨none, .store (.t 5) (.t 10) 4, none⟩]
[1, 5])
(.seq (.reg [⟨some 11, .faddr (.t 5) 0, none⟩,
⟨some 12, .load (.t 11), none⟩,
⟨some 13, .bin .eql (.t 12) (.k (.int .i64 2)), none⟩,
⟨some 14, .mov (.t 13), none⟩,
⟨some 15, .faddr (.t 5) 0, (some (14, false))⟩,
⟨some 16, .load (.t 15), (some (14, false))⟩,
⟨some 17, .bin .eql (.t 16) (.k (.int .i64 5)), (some (14, false))⟩,
⟨some 18, .pick (.t 14) (.k (.bool true)) (.t 17), none⟩,
⟨some 19, .mov (.t 18), none⟩,
⟨some 20, .faddr (.t 5) 1, (some (19, true))⟩,
⟨some 21, .load (.t 20), (some (19, true))⟩,
⟨some 22, .mov (.t 1), (some (19, true))⟩,
⟨some 23, .bin .eql (.t 21) (.t 22), (some (19, true))⟩,
⟨some 24, .pick (.t 19) (.t 23) (.k (.bool false)), none⟩,
⟨some 4, .mov (.t 24), none⟩]
[4])
.ret)))⟩
theorem k_parse_parser_is : chkF Go.Proofs.Tryz.prog Go.Proofs.Tryz.f180 c_parse_parser_is = true := by kernel_rfl
def c_parse_parser_state : AFun := ⟨23, 2, [.cells 4 5, .t 5],
  (.seq (.reg [⟨some 4, .alloc t_api_TreeState 5 (.agg [.str [], .int .i64 0, .int .i64 0, .bool false, .bool false]), none⟩,
⟨some 5, .mov (.k (.nili)), none⟩]
[0, 1, 4])
(.seq (.reg [⟨some 9, .mov (.t 0), none⟩,
⟨some 10, .call n_parse_parser_name [.t 9], none⟩,
⟨some 8, .mov (.t 10), none⟩,
⟨some 11, .ext (.t 8) 0, none⟩,
⟨some 12, .ext (.t 8) 1, none⟩,
⟨some 6, .alloc t_api_Ident 3 (.agg [.str [], .int .i64 0, .int .i64 0]), none⟩,
⟨none, .store (.t 6) (.t 11) 3, none⟩,
⟨some 7, .mov (.t 12), none⟩]
[0, 1, 4, 6, 7])
(.seq (.dregC [⟨some 13, .loadN (.t 6) 3, none⟩,
⟨some 14, .mov (.t 1), none⟩,
⟨some 15, .mov (.t 7), none⟩,
⟨some 16, .eqI false (.t 15) (.k (.nili)), none⟩,
⟨some 17, .mov (.t 16), none⟩,
⟨some 18, .mov (.t 0), (some (17, true))⟩,
⟨some 19, .call n_parse_parser_take [.t 18, .k (.str [97, 99, 99, 101, 112, 116])], (some (17, true))⟩,
⟨some 20, .pick (.t 17) (.t 19) (.k (.bool false)), none⟩,
⟨some 21, .build [.str [], .int .i64 0, .int .i64 0, .bool false, .bool false] [(0, 3, .t 13), (3, 1, .t 14), (4, 1, .t 20)], none⟩,
⟨some 22, .mov (.t 7), none⟩,
⟨none, .store (.t 4) (.t 21) 5, none⟩,
⟨some 5, .mov (.t 22), none⟩]
[10] [0, 0, 0, 0, 0, 0, 0, 0, 0, 0, 1, 1] [0, 0, 0, 0, 0, 0, 0, 0, 0, 1, 1, 1] [([0, 1, 2, 3, 4, 5, 6, 7, 8, 9], []), ([11], [9])] [0, 1, 4, 5, 6, 7, 13, 14, 15, 16, 17, 18, 19, 20, 21, 22]
[4, 5])
.ret)))⟩
theorem k_parse_parser_state : chkF Go.Proofs.Tryz.prog Go.Proofs.Tryz.f111 c_parse_parser_state = true := by kernel_rfl
def c_parse_place_peek : AFun := ⟨54, 1, [.cells 2 4],
  (.seq (.reg [⟨some 2, .alloc t_lex_Token 4 (.agg [.int .i64 0, .str [], .int .i64 0, .int .i64 0]), none⟩]
[0, 2])
(.seq (.block 0
(.seq (.reg [⟨some 5, .mov (.t 0), none⟩,
⟨some 6, .eqP false (.t 5) (.k (.nilp)), none⟩,
⟨some 7, .mov (.t 6), none⟩,
⟨some 8, .mov (.t 0), (some (7, false))⟩,
⟨some 9, .nchk (.t 8), (some (7, false))⟩,
⟨some 10, .faddr (.t 9) 0, (some (7, false))⟩,
⟨some 11, .load (.t 10), (some (7, false))⟩,
⟨some 12, .len false (.t 11), (some (7, false))⟩,
⟨some 13, .bin .eql (.t 12) (.k (.int .i64 0)), (some (7, false))⟩,
⟨some 14, .pick (.t 7) (.k (.bool true)) (.t 13), none⟩,
⟨some 4, .mov (.t 14), none⟩]
[0, 2, 4])
(.cond (.t 4)
(.seq (.reg [⟨some 15, .build [.int .i64 0, .str [], .int .i64 0, .int .i64 0] [(2, 1, .k (.int .i64 1)), (3, 1, .k (.int .i64 1))], none⟩,
⟨none, .store (.t 2) (.t 15) 4, none⟩]
[2])
.ret)
(.seq (.dreg [⟨some 17, .mov (.t 0), none⟩,
⟨some 18, .nchk (.t 17), none⟩,
⟨some 19, .faddr (.t 18) 1, none⟩,
⟨some 20, .load (.t 19), none⟩,
⟨some 21, .mov (.t 0), none⟩,
⟨some 22, .nchk (.t 21), none⟩,
⟨some 23, .faddr (.t 22) 0, none⟩,
⟨some 24, .load (.t 23), none⟩,
⟨some 25, .len false (.t 24), none⟩,
⟨some 26, .bin .geq (.t 20) (.t 25), none⟩,
⟨some 16, .mov (.t 26), none⟩]
[0, 2, 16])
(.cond (.t 16)
(.seq (.dregA [⟨some 27, .mov (.t 0), none⟩,
⟨some 28, .nchk (.t 27), none⟩,
⟨some 29, .faddr (.t 28) 0, none⟩,
⟨some 30, .load (.t 29), none⟩,
⟨some 31, .mov (.t 0), none⟩,
⟨some 32, .nchk (.t 31), none⟩,
⟨some 33, .faddr (.t 32) 0, none⟩,
⟨some 34, .load (.t 33), none⟩,
⟨some 35, .len false (.t 34), none⟩,
⟨some 36, .bin .sub (.t 35) (.k (.int .i64 1)), none⟩,
⟨some 37, .iaddr 4 (.t 30) (.t 36), none⟩,
⟨some 38, .loadN (.t 37) 4, none⟩,
⟨some 3, .alloc t_lex_Token 4 (.agg [.int .i64 0, .str [], .int .i64 0, .int .i64 0]), none⟩,
⟨none, .store (.t 3) (.t 38) 4, none⟩] 12 13 [2, 3, 27, 28, 29, 30, 31, 32, 33, 34, 35, 36, 37, 38]
[2, 3])
(.seq (.reg [⟨some 39, .faddr (.t 3) 2, none⟩,
⟨some 40, .load (.t 39), none⟩,
⟨some 41, .faddr (.t 3) 3, none⟩,
⟨some 42, .load (.t 41), none⟩,
⟨some 43, .build [.int .i64 0, .str [], .int .i64 0, .int .i64 0] [(2, 1, .t 40), (3, 1, .t 42)], none⟩,
⟨none, .store (.t 2) (.t 43) 4, none⟩]
[2])
.ret))
.skip)))))
(.seq (.dreg [⟨some 44, .mov (.t 0), none⟩,
⟨some 45, .nchk (.t 44), none⟩,
⟨some 46, .faddr (.t 45) 0, none⟩,
⟨some 47, .load (.t 46), none⟩,
⟨some 48, .mov (.t 0), none⟩,
⟨some 49, .nchk (.t 48), none⟩,
⟨some 50, .faddr (.t 49) 1, none⟩,
⟨some 51, .load (.t 50), none⟩,
⟨some 52, .iaddr 4 (.t 47) (.t 51), none⟩,
⟨some 53, .loadN (.t 52) 4, none⟩,
⟨none, .store (.t 2) (.t 53) 4, none⟩]
[2])
.ret)))⟩
theorem k_parse_place_peek : chkF Go.Proofs.Tryz.prog Go.Proofs.Tryz.f173 c_parse_place_peek = true := by kernel_rfl
def c_parse_many_api_TreeDecl : AFun := ⟨45, 3, [.t 6, .t 7],
  (.seq (.reg [⟨some 6, .nilrow t_api_TreeDecl 4, none⟩,
⟨some 7, .mov (.k (.nili)), none⟩]
[0, 1, 2])
(.seq (.reg [⟨some 8, .nilrow t_api_TreeDecl 4, none⟩]
[0, 1, 2, 8])
(.block 0
(.loop [0, 1, 2, 8] [6, 8, 44, 42, 41, 40, 39, 38, 37, 36, 35, 34, 33, 32, 31]
  (.block 1
(.seq (.reg [⟨some 9, .mov (.k (.int .i64 0)), none⟩]
[0, 1, 2, 8, 9])
(.seq (.block 2
(.loop [0, 1, 2, 8, 9] [6, 8, 42, 41, 40, 39, 38, 37, 36, 35, 34, 33, 32, 31]
  (.seq (.seq (.reg [⟨some 12, .mov (.t 9), none⟩,
⟨some 13, .mov (.t 1), none⟩,
⟨some 14, .len false (.t 13), none⟩,
⟨some 15, .bin .lss (.t 12) (.t 14), none⟩,
⟨some 16, .mov (.t 15), none⟩,
⟨some 17, .mov (.t 0), (some (16, true))⟩,
⟨some 18, .mov (.t 1), (some (16, true))⟩,
⟨some 19, .mov (.t 9), (some (16, true))⟩,
⟨some 20, .iaddr 1 (.t 18) (.t 19), (some (16, true))⟩,
⟨some 21, .load (.t 20), (some (16, true))⟩,
⟨some 22, .call n_parse_parser_take [.t 17, .t 21], (some (16, true))⟩,
⟨some 23, .un .not (.t 22), (some (16, true))⟩,
⟨some 24, .pick (.t 16) (.t 23) (.k (.bool false)), none⟩]
[0, 1, 2, 8, 9, 24])
(.cond (.t 24)
.skip
(.exit 2)))
(.block 3
(.reg [⟨some 25, .mov (.t 9), none⟩,
⟨some 26, .bin .add (.t 25) (.k (.int .i64 1)), none⟩,
⟨some 9, .mov (.t 26), none⟩]
[0, 1, 2, 8, 9])))))
(.seq (.seq (.reg [⟨some 27, .mov (.t 9), none⟩,
⟨some 28, .mov (.t 1), none⟩,
⟨some 29, .len false (.t 28), none⟩,
⟨some 30, .bin .eql (.t 27) (.t 29), none⟩]
[0, 1, 2, 8, 9, 30])
(.cond (.t 30)
(.seq (.reg [⟨some 31, .mov (.t 8), none⟩,
⟨some 6, .mov (.t 31), none⟩,
⟨some 7, .mov (.k (.nili)), none⟩]
[6, 7])
.ret)
.skip))
(.seq (.reg [⟨some 33, .mov (.t 2), none⟩,
⟨some 34, .mov (.t 9), none⟩,
⟨some 35, .callv (.t 33) [.t 34], none⟩,
⟨some 32, .mov (.t 35), none⟩,
⟨some 36, .ext (.t 32) 0, none⟩,
⟨some 37, .ext (.t 32) 1, none⟩,
⟨some 10, .alloc t_api_TreeDecl 4 (.agg [.str [], .int .i64 0, .int .i64 0, .nils]), none⟩,
⟨none, .store (.t 10) (.t 36) 4, none⟩,
⟨some 11, .mov (.t 37), none⟩]
[0, 1, 2, 8, 10, 11])
(.seq (.seq (.reg [⟨some 38, .mov (.t 11), none⟩,
⟨some 39, .eqI true (.t 38) (.k (.nili)), none⟩]
[0, 1, 2, 8, 10, 11, 39])
(.cond (.t 39)
(.seq (.reg [⟨some 40, .mov (.t 11), none⟩,
⟨some 6, .nilrow t_api_TreeDecl 4, none⟩,
⟨some 7, .mov (.t 40), none⟩]
[6, 7])
.ret)
.skip))
(.reg [⟨some 41, .mov (.t 8), none⟩,
⟨some 42, .loadN (.t 10) 4, none⟩,
⟨some 43, .mkrow t_api_TreeDecl 4 1 (.agg [.str [], .int .i64 0, .int .i64 0, .nils]) [(0, .t 42)], none⟩,
⟨some 44, .app t_api_TreeDecl 4 56 (.t 41) (.t 43), none⟩,
⟨some 8, .mov (.t 44), none⟩]
[0, 1, 2, 8])))))))))))⟩
theorem k_parse_many_api_TreeDecl : chkF Go.Proofs.Tryz.prog Go.Proofs.Tryz.f97 c_parse_many_api_TreeDecl = true := by kernel_rfl
def c_parse_many_api_TreeQuant : AFun := ⟨45, 3, [.t 6, .t 7],
  (.seq (.reg [⟨some 6, .nilrow t_api_TreeQuant 5, none⟩,
⟨some 7, .mov (.k (.nili)), none⟩]
[0, 1, 2])
(.seq (.reg [⟨some 8, .nilrow t_api_TreeQuant 5, none⟩]
[0, 1, 2, 8])
(.block 0
(.loop [0, 1, 2, 8] [6, 8, 44, 42, 41, 40, 39, 38, 37, 36, 35, 34, 33, 32, 31]
  (.block 1
(.seq (.reg [⟨some 9, .mov (.k (.int .i64 0)), none⟩]
[0, 1, 2, 8, 9])
(.seq (.block 2
(.loop [0, 1, 2, 8, 9] [6, 8, 42, 41, 40, 39, 38, 37, 36, 35, 34, 33, 32, 31]
  (.seq (.seq (.reg [⟨some 12, .mov (.t 9), none⟩,
⟨some 13, .mov (.t 1), none⟩,
⟨some 14, .len false (.t 13), none⟩,
⟨some 15, .bin .lss (.t 12) (.t 14), none⟩,
⟨some 16, .mov (.t 15), none⟩,
⟨some 17, .mov (.t 0), (some (16, true))⟩,
⟨some 18, .mov (.t 1), (some (16, true))⟩,
⟨some 19, .mov (.t 9), (some (16, true))⟩,
⟨some 20, .iaddr 1 (.t 18) (.t 19), (some (16, true))⟩,
⟨some 21, .load (.t 20), (some (16, true))⟩,
⟨some 22, .call n_parse_parser_take [.t 17, .t 21], (some (16, true))⟩,
⟨some 23, .un .not (.t 22), (some (16, true))⟩,
⟨some 24, .pick (.t 16) (.t 23) (.k (.bool false)), none⟩]
[0, 1, 2, 8, 9, 24])
(.cond (.t 24)
.skip
(.exit 2)))
(.block 3
(.reg [⟨some 25, .mov (.t 9), none⟩,
⟨some 26, .bin .add (.t 25) (.k (.int .i64 1)), none⟩,
⟨some 9, .mov (.t 26), none⟩]
[0, 1, 2, 8, 9])))))
(.seq (.seq (.reg [⟨some 27, .mov (.t 9), none⟩,
⟨some 28, .mov (.t 1), none⟩,
⟨some 29, .len false (.t 28), none⟩,
⟨some 30, .bin .eql (.t 27) (.t 29), none⟩]
[0, 1, 2, 8, 9, 30])
(.cond (.t 30)
(.seq (.reg [⟨some 31, .mov (.t 8), none⟩,
⟨some 6, .mov (.t 31), none⟩,
⟨some 7, .mov (.k (.nili)), none⟩]
[6, 7])
.ret)
.skip))
(.seq (.reg [⟨some 33, .mov (.t 2), none⟩,
⟨some 34, .mov (.t 9), none⟩,
⟨some 35, .callv (.t 33) [.t 34], none⟩,
⟨some 32, .mov (.t 35), none⟩,
⟨some 36, .ext (.t 32) 0, none⟩,
⟨some 37, .ext (.t 32) 1, none⟩,
⟨some 10, .alloc t_api_TreeQuant 5 (.agg [.bool false, .str [], .int .i64 0, .int .i64 0, .int .i64 0]), none⟩,
⟨none, .store (.t 10) (.t 36) 5, none⟩,
⟨some 11, .mov (.t 37), none⟩]
[0, 1, 2, 8, 10, 11])
(.seq (.seq (.reg [⟨some 38, .mov (.t 11), none⟩,
⟨some 39, .eqI true (.t 38) (.k (.nili)), none⟩]
[0, 1, 2, 8, 10, 11, 39])
(.cond (.t 39)
(.seq (.reg [⟨some 40, .mov (.t 11), none⟩,
⟨some 6, .nilrow t_api_TreeQuant 5, none⟩,
⟨some 7, .mov (.t 40), none⟩]
[6, 7])
.ret)
.skip))
(.reg [⟨some 41, .mov (.t 8), none⟩,
⟨some 42, .loadN (.t 10) 5, none⟩,
⟨some 43, .mkrow t_api_TreeQuant 5 1 (.agg [.bool false, .str [], .int .i64 0, .int .i64 0, .int .i64 0]) [(0, .t 42)], none⟩,
⟨some 44, .app t_api_TreeQuant 5 48 (.t 41) (.t 43), none⟩,
⟨some 8, .mov (.t 44), none⟩]
[0, 1, 2, 8])))))))))))⟩
theorem k_parse_many_api_TreeQuant : chkF Go.Proofs.Tryz.prog Go.Proofs.Tryz.f101 c_parse_many_api_TreeQuant = true := by kernel_rfl
def c_parse_many_api_TreeFree : AFun := ⟨45, 3, [.t 6, .t 7],
  (.seq (.reg [⟨some 6, .nilrow t_api_TreeFree 7, none⟩,
⟨some 7, .mov (.k (.nili)), none⟩]
[0, 1, 2])
(.seq (.reg [⟨some 8, .nilrow t_api_TreeFree 7, none⟩]
[0, 1, 2, 8])
(.block 0
(.loop [0, 1, 2, 8] [6, 8, 44, 42, 41, 40, 39, 38, 37, 36, 35, 34, 33, 32, 31]
  (.block 1
(.seq (.reg [⟨some 9, .mov (.k (.int .i64 0)), none⟩]
[0, 1, 2, 8, 9])
(.seq (.block 2
(.loop [0, 1, 2, 8, 9] [6, 8, 42, 41, 40, 39, 38, 37, 36, 35, 34, 33, 32, 31]
  (.seq (.seq (.reg [⟨some 12, .mov (.t 9), none⟩,
⟨some 13, .mov (.t 1), none⟩,
⟨some 14, .len false (.t 13), none⟩,
⟨some 15, .bin .lss (.t 12) (.t 14), none⟩,
⟨some 16, .mov (.t 15), none⟩,
⟨some 17, .mov (.t 0), (some (16, true))⟩,
⟨some 18, .mov (.t 1), (some (16, true))⟩,
⟨some 19, .mov (.t 9), (some (16, true))⟩,
⟨some 20, .iaddr 1 (.t 18) (.t 19), (some (16, true))⟩,
⟨some 21, .load (.t 20), (some (16, true))⟩,
⟨some 22, .call n_parse_parser_take [.t 17, .t 21], (some (16, true))⟩,
⟨some 23, .un .not (.t 22), (some (16, true))⟩,
⟨some 24, .pick (.t 16) (.t 23) (.k (.bool false)), none⟩]
[0, 1, 2, 8, 9, 24])
(.cond (.t 24)
.skip
(.exit 2)))
(.block 3
(.reg [⟨some 25, .mov (.t 9), none⟩,
⟨some 26, .bin .add (.t 25) (.k (.int .i64 1)), none⟩,
⟨some 9, .mov (.t 26), none⟩]
[0, 1, 2, 8, 9])))))
(.seq (.seq (.reg [⟨some 27, .mov (.t 9), none⟩,
⟨some 28, .mov (.t 1), none⟩,
⟨some 29, .len false (.t 28), none⟩,
⟨some 30, .bin .eql (.t 27) (.t 29), none⟩]
[0, 1, 2, 8, 9, 30])
(.cond (.t 30)
(.seq (.reg [⟨some 31, .mov (.t 8), none⟩,
⟨some 6, .mov (.t 31), none⟩,
⟨some 7, .mov (.k (.nili)), none⟩]
[6, 7])
.ret)
.skip))
(.seq (.reg [⟨some 33, .mov (.t 2), none⟩,
⟨some 34, .mov (.t 9), none⟩,
⟨some 35, .callv (.t 33) [.t 34], none⟩,
⟨some 32, .mov (.t 35), none⟩,
⟨some 36, .ext (.t 32) 0, none⟩,
⟨some 37, .ext (.t 32) 1, none⟩,
⟨some 10, .alloc t_api_TreeFree 7 (.agg [.str [], .int .i64 0, .int .i64 0, .int .i64 0, .int .i64 0, .str [], .bool false]), none⟩,
⟨none, .store (.t 10) (.t 36) 7, none⟩,
⟨some 11, .mov (.t 37), none⟩]
[0, 1, 2, 8, 10, 11])
(.seq (.seq (.reg [⟨some 38, .mov (.t 11), none⟩,
⟨some 39, .eqI true (.t 38) (.k (.nili)), none⟩]
[0, 1, 2, 8, 10, 11, 39])
(.cond (.t 39)
(.seq (.reg [⟨some 40, .mov (.t 11), none⟩,
⟨some 6, .nilrow t_api_TreeFree 7, none⟩,
⟨some 7, .mov (.t 40), none⟩]
[6, 7])
.ret)
.skip))
(.reg [⟨some 41, .mov (.t 8), none⟩,
⟨some 42, .loadN (.t 10) 7, none⟩,
⟨some 43, .mkrow t_api_TreeFree 7 1 (.agg [.str [], .int .i64 0, .int .i64 0, .int .i64 0, .int .i64 0, .str [], .bool false]) [(0, .t 42)], none⟩,
⟨some 44, .app t_api_TreeFree 7 72 (.t 41) (.t 43), none⟩,
⟨some 8, .mov (.t 44), none⟩]
[0, 1, 2, 8])))))))))))⟩
theorem k_parse_many_api_TreeFree : chkF Go.Proofs.Tryz.prog Go.Proofs.Tryz.f105 c_parse_many_api_TreeFree = true := by kernel_rfl
def c_parse_many_api_TreeState : AFun := ⟨45, 3, [.t 6, .t 7],
  (.seq (.reg [⟨some 6, .nilrow t_api_TreeState 5, none⟩,
⟨some 7, .mov (.k (.nili)), none⟩]
[0, 1, 2])
(.seq (.reg [⟨some 8, .nilrow t_api_TreeState 5, none⟩]
[0, 1, 2, 8])
(.block 0
(.loop [0, 1, 2, 8] [6, 8, 44, 42, 41, 40, 39, 38, 37, 36, 35, 34, 33, 32, 31]
  (.block 1
(.seq (.reg [⟨some 9, .mov (.k (.int .i64 0)), none⟩]
[0, 1, 2, 8, 9])
(.seq (.block 2
(.loop [0, 1, 2, 8, 9] [6, 8, 42, 41, 40, 39, 38, 37, 36, 35, 34, 33, 32, 31]
  (.seq (.seq (.reg [⟨some 12, .mov (.t 9), none⟩,
⟨some 13, .mov (.t 1), none⟩,
⟨some 14, .len false (.t 13), none⟩,
⟨some 15, .bin .lss (.t 12) (.t 14), none⟩,
⟨some 16, .mov (.t 15), none⟩,
⟨some 17, .mov (.t 0), (some (16, true))⟩,
⟨some 18, .mov (.t 1), (some (16, true))⟩,
⟨some 19, .mov (.t 9), (some (16, true))⟩,
⟨some 20, .iaddr 1 (.t 18) (.t 19), (some (16, true))⟩,
⟨some 21, .load (.t 20), (some (16, true))⟩,
⟨some 22, .call n_parse_parser_take [.t 17, .t 21], (some (16, true))⟩,
⟨some 23, .un .not (.t 22), (some (16, true))⟩,
⟨some 24, .pick (.t 16) (.t 23) (.k (.bool false)), none⟩]
[0, 1, 2, 8, 9, 24])
(.cond (.t 24)
.skip
(.exit 2)))
(.block 3
(.reg [⟨some 25, .mov (.t 9), none⟩,
⟨some 26, .bin .add (.t 25) (.k (.int .i64 1)), none⟩,
⟨some 9, .mov (.t 26), none⟩]
[0, 1, 2, 8, 9])))))
(.seq (.seq (.reg [⟨some 27, .mov (.t 9), none⟩,
⟨some 28, .mov (.t 1), none⟩,
⟨some 29, .len false (.t 28), none⟩,
⟨some 30, .bin .eql (.t 27) (.t 29), none⟩]
[0, 1, 2, 8, 9, 30])
(.cond (.t 30)
(.seq (.reg [⟨some 31, .mov (.t 8), none⟩,
⟨some 6, .mov (.t 31), none⟩,
⟨some 7, .mov (.k (.nili)), none⟩]
[6, 7])
.ret)
.skip))
(.seq (.reg [⟨some 33, .mov (.t 2), none⟩,
⟨some 34, .mov (.t 9), none⟩,
⟨some 35, .callv (.t 33) [.t 34], none⟩,
⟨some 32, .mov (.t 35), none⟩,
⟨some 36, .ext (.t 32) 0, none⟩,
⟨some 37, .ext (.t 32) 1, none⟩,
⟨some 10, .alloc t_api_TreeState 5 (.agg [.str [], .int .i64 0, .int .i64 0, .bool false, .bool false]), none⟩,
⟨none, .store (.t 10) (.t 36) 5, none⟩,
⟨some 11, .mov (.t 37), none⟩]
[0, 1, 2, 8, 10, 11])
(.seq (.seq (.reg [⟨some 38, .mov (.t 11), none⟩,
⟨some 39, .eqI true (.t 38) (.k (.nili)), none⟩]
[0, 1, 2, 8, 10, 11, 39])
(.cond (.t 39)
(.seq (.reg [⟨some 40, .mov (.t 11), none⟩,
⟨some 6, .nilrow t_api_TreeState 5, none⟩,
⟨some 7, .mov (.t 40), none⟩]
[6, 7])
.ret)
.skip))
(.reg [⟨some 41, .mov (.t 8), none⟩,
⟨some 42, .loadN (.t 10) 5, none⟩,
⟨some 43, .mkrow t_api_TreeState 5 1 (.agg [.str [], .int .i64 0, .int .i64 0, .bool false, .bool false]) [(0, .t 42)], none⟩,
⟨some 44, .app t_api_TreeState 5 40 (.t 41) (.t 43), none⟩,
⟨some 8, .mov (.t 44), none⟩]
[0, 1, 2, 8])))))))))))⟩
theorem k_parse_many_api_TreeState : chkF Go.Proofs.Tryz.prog Go.Proofs.Tryz.f109 c_parse_many_api_TreeState = true := by kernel_rfl
def c_parse_many_api_TreeSymbol : AFun := ⟨45, 3, [.t 6, .t 7],
  (.seq (.reg [⟨some 6, .nilrow t_api_TreeSymbol 4, none⟩,
⟨some 7, .mov (.k (.nili)), none⟩]
[0, 1, 2])
(.seq (.reg [⟨some 8, .nilrow t_api_TreeSymbol 4, none⟩]
[0, 1, 2, 8])
(.block 0
(.loop [0, 1, 2, 8] [6, 8, 44, 42, 41, 40, 39, 38, 37, 36, 35, 34, 33, 32, 31]
  (.block 1
(.seq (.reg [⟨some 9, .mov (.k (.int .i64 0)), none⟩]
[0, 1, 2, 8, 9])
(.seq (.block 2
(.loop [0, 1, 2, 8, 9] [6, 8, 42, 41, 40, 39, 38, 37, 36, 35, 34, 33, 32, 31]
  (.seq (.seq (.reg [⟨some 12, .mov (.t 9), none⟩,
⟨some 13, .mov (.t 1), none⟩,
⟨some 14, .len false (.t 13), none⟩,
⟨some 15, .bin .lss (.t 12) (.t 14), none⟩,
⟨some 16, .mov (.t 15), none⟩,
⟨some 17, .mov (.t 0), (some (16, true))⟩,
⟨some 18, .mov (.t 1), (some (16, true))⟩,
⟨some 19, .mov (.t 9), (some (16, true))⟩,
⟨some 20, .iaddr 1 (.t 18) (.t 19), (some (16, true))⟩,
⟨some 21, .load (.t 20), (some (16, true))⟩,
⟨some 22, .call n_parse_parser_take [.t 17, .t 21], (some (16, true))⟩,
⟨some 23, .un .not (.t 22), (some (16, true))⟩,
⟨some 24, .pick (.t 16) (.t 23) (.k (.bool false)), none⟩]
[0, 1, 2, 8, 9, 24])
(.cond (.t 24)
.skip
(.exit 2)))
(.block 3
(.reg [⟨some 25, .mov (.t 9), none⟩,
⟨some 26, .bin .add (.t 25) (.k (.int .i64 1)), none⟩,
⟨some 9, .mov (.t 26), none⟩]
[0, 1, 2, 8, 9])))))
(.seq (.seq (.reg [⟨some 27, .mov (.t 9), none⟩,
⟨some 28, .mov (.t 1), none⟩,
⟨some 29, .len false (.t 28), none⟩,
⟨some 30, .bin .eql (.t 27) (.t 29), none⟩]
[0, 1, 2, 8, 9, 30])
(.cond (.t 30)
(.seq (.reg [⟨some 31, .mov (.t 8), none⟩,
⟨some 6, .mov (.t 31), none⟩,
⟨some 7, .mov (.k (.nili)), none⟩]
[6, 7])
.ret)
.skip))
(.seq (.reg [⟨some 33, .mov (.t 2), none⟩,
⟨some 34, .mov (.t 9), none⟩,
⟨some 35, .callv (.t 33) [.t 34], none⟩,
⟨some 32, .mov (.t 35), none⟩,
⟨some 36, .ext (.t 32) 0, none⟩,
⟨some 37, .ext (.t 32) 1, none⟩,
⟨some 10, .alloc t_api_TreeSymbol 4 (.agg [.str [], .nils, .int .i64 0, .int .i64 0]), none⟩,
⟨none, .store (.t 10) (.t 36) 4, none⟩,
⟨some 11, .mov (.t 37), none⟩]
[0, 1, 2, 8, 10, 11])
(.seq (.seq (.reg [⟨some 38, .mov (.t 11), none⟩,
⟨some 39, .eqI true (.t 38) (.k (.nili)), none⟩]
[0, 1, 2, 8, 10, 11, 39])
(.cond (.t 39)
(.seq (.reg [⟨some 40, .mov (.t 11), none⟩,
⟨some 6, .nilrow t_api_TreeSymbol 4, none⟩,
⟨some 7, .mov (.t 40), none⟩]
[6, 7])
.ret)
.skip))
(.reg [⟨some 41, .mov (.t 8), none⟩,
⟨some 42, .loadN (.t 10) 4, none⟩,
⟨some 43, .mkrow t_api_TreeSymbol 4 1 (.agg [.str [], .nils, .int .i64 0, .int .i64 0]) [(0, .t 42)], none⟩,
⟨some 44, .app t_api_TreeSymbol 4 56 (.t 41) (.t 43), none⟩,
⟨some 8, .mov (.t 44), none⟩]
[0, 1, 2, 8])))))))))))⟩
theorem k_parse_many_api_TreeSymbol : chkF Go.Proofs.Tryz.prog Go.Proofs.Tryz.f115 c_parse_many_api_TreeSymbol = true := by kernel_rfl
def c_check_Lower : AFun := ⟨39, 1, [.cells 2 9, .cells 3 3],
  (.seq (.reg [⟨some 1, .box t_api_Tree 12 (.t 0), none⟩,
⟨some 2, .alloc t_api_Qea 9 (.agg [.str [], .nils, .nils, .nils, .nils, .int .i64 0, .nils, .nils, .nils]), none⟩,
⟨some 3, .alloc t_api_Fail 3 (.agg [.int .i64 0, .int .i64 0, .int .i64 0]), none⟩]
[1, 2, 3])
(.seq (.seq (.reg [⟨some 6, .loadN (.t 1) 12, none⟩,
⟨some 7, .call n_tree_Right [.t 6], none⟩,
⟨some 8, .un .not (.t 7), none⟩]
[1, 2, 3, 8])
(.cond (.t 8)
(.seq (.reg [⟨some 9, .build [.str [], .nils, .nils, .nils, .nils, .int .i64 0, .nils, .nils, .nils] [], none⟩,
⟨some 10, .build [.int .i64 0, .int .i64 0, .int .i64 0] [(0, 1, .k (.int .i64 1))], none⟩,
⟨none, .store (.t 2) (.t 9) 9, none⟩,
⟨none, .store (.t 3) (.t 10) 3, none⟩]
[2, 3])
.ret)
.skip))
(.seq (.reg [⟨some 11, .mkmap, none⟩,
⟨some 12, .mkmap, none⟩,
⟨some 13, .mkmap, none⟩,
⟨some 14, .build [.str [], .nils, .nils, .nils, .nils, .int .i64 0, .nils, .nils, .nils, .nilm, .nilm, .nilm] [(9, 1, .t 11), (10, 1, .t 12), (11, 1, .t 13)], none⟩,
⟨some 15, .box t_check_checker 12 (.t 14), none⟩,
⟨some 4, .mov (.t 15), none⟩]
[1, 2, 3, 4])
(.seq (.reg [⟨some 5, .alloc t_Pcheck_misuse 1 (.nilp), none⟩]
[1, 2, 3, 4, 5])
(.seq (.seq (.reg [⟨some 16, .mov (.t 4), none⟩,
⟨some 17, .loadN (.t 1) 12, none⟩,
⟨some 18, .call n_check_checker_run [.t 16, .t 17], none⟩,
⟨some 19, .mki t_PPcheck_misuse (.t 5), none⟩,
⟨some 20, .call n_errors_As [.t 18, .t 19], none⟩]
[2, 3, 4, 5, 20])
(.cond (.t 20)
(.seq (.dregC [⟨some 21, .build [.str [], .nils, .nils, .nils, .nils, .int .i64 0, .nils, .nils, .nils] [], none⟩,
⟨some 22, .load (.t 5), none⟩,
⟨some 23, .mki t_Pcheck_misuse (.t 22), none⟩,
⟨some 24, .call n_check_errno [.t 23], none⟩,
⟨some 25, .load (.t 5), none⟩,
⟨some 26, .nchk (.t 25), none⟩,
⟨some 27, .faddr (.t 26) 1, none⟩,
⟨some 28, .load (.t 27), none⟩,
⟨some 29, .load (.t 5), none⟩,
⟨some 30, .nchk (.t 29), none⟩,
⟨some 31, .faddr (.t 30) 2, none⟩,
⟨some 32, .load (.t 31), none⟩,
⟨some 33, .build [.int .i64 0, .int .i64 0, .int .i64 0] [(0, 1, .t 24), (1, 1, .t 28), (2, 1, .t 32)], none⟩,
⟨none, .store (.t 2) (.t 21) 9, none⟩,
⟨none, .store (.t 3) (.t 33) 3, none⟩]
[13, 14] [0, 0, 0, 0, 0, 0, 0, 0, 0, 0, 0, 0, 0, 1, 2] [0, 0, 0, 0, 1, 1, 1, 1, 1, 1, 1, 1, 1, 2, 2] [([0, 1, 2, 3, 4, 5, 6, 7, 8, 9, 10, 11, 12], []), ([], [4, 5, 6, 7, 8, 9, 10, 11, 12]), ([], [])] [2, 3, 5, 21, 22, 23, 24, 25, 26, 27, 28, 29, 30, 31, 32, 33]
[2, 3])
.ret)
.skip))
(.seq (.reg [⟨some 34, .mov (.t 4), none⟩,
⟨some 35, .nchk (.t 34), none⟩,
⟨some 36, .faddr (.t 35) 0, none⟩,
⟨some 37, .loadN (.t 36) 9, none⟩,
⟨some 38, .build [.int .i64 0, .int .i64 0, .int .i64 0] [], none⟩,
⟨none, .store (.t 2) (.t 37) 9, none⟩,
⟨none, .store (.t 3) (.t 38) 3, none⟩]
[2, 3])
.ret))))))⟩
theorem k_check_Lower : chkF Go.Proofs.Tryz.prog Go.Proofs.Tryz.f16 c_check_Lower = true := by kernel_rfl
end Go.Proofs.YtgdlgdchdohdoaaGreatDoor.Ab
