/-
  The functions' abstract code, by program (acgen.py), and that the model's code is it, reckoned by the kernel. No claim is proved here.
-/
import Derived.Test.YtjbcfpkibnhodaaGreatDoorWAcR0
namespace Go.Proofs.YtjbcfpkibnhodaaGreatDoor.Ab
open Go
def c_proctorlaw28_SubsetHits : AFun := ⟨93, 4, [.t 8],
  (.seq (.reg [op 4 (.box taQ_ 9 (.t 0)),op 7 (.box t_api_Event 2 (.t 3)),op 8 (.mov (.k (.bool false)))]
[1, 2, 4, 7])
(.seq (.seq (.reg [op 14 (.loadN (.t 4) 9),op 15 (.call n_proctorref13_Few [.t 14]),op 16 (.bin .eql (.t 15) (.k (.int .i64 0))),op 17 (.mov (.t 16)),
⟨some 18, .mov (.t 1), (some (17, false))⟩,
⟨some 19, .len false (.t 18), (some (17, false))⟩,
⟨some 20, .bin .gtr (.t 19) (.k (.int .i64 8)), (some (17, false))⟩,op 21 (.pick (.t 17) (.k (.bool true)) (.t 20)),op 22 (.mov (.t 21)),
⟨some 23, .mov (.t 1), (some (22, false))⟩,
⟨some 24, .call n_proctorref05_Right [.t 23], (some (22, false))⟩,
⟨some 25, .un .not (.t 24), (some (22, false))⟩,op 26 (.pick (.t 22) (.k (.bool true)) (.t 25)),op 27 (.mov (.t 26)),
⟨some 28, .loadN (.t 4) 9, (some (27, false))⟩,
⟨some 29, .call n_proctorref13_Right [.t 28], (some (27, false))⟩,
⟨some 30, .un .not (.t 29), (some (27, false))⟩,op 31 (.pick (.t 27) (.k (.bool true)) (.t 30)),op 32 (.mov (.t 31)),
⟨some 33, .loadN (.t 4) 9, (some (32, false))⟩,
⟨some 34, .call n_proctorref28_Plain [.t 33], (some (32, false))⟩,
⟨some 35, .un .not (.t 34), (some (32, false))⟩,op 36 (.pick (.t 32) (.k (.bool true)) (.t 35)),op 37 (.mov (.t 36)),
⟨some 38, .faddr (.t 4) 1, (some (37, false))⟩,
⟨some 39, .load (.t 38), (some (37, false))⟩,
⟨some 40, .loadN (.t 7) 2, (some (37, false))⟩,
⟨some 41, .call n_proctorref08_Right [.t 39, .t 40], (some (37, false))⟩,
⟨some 42, .un .not (.t 41), (some (37, false))⟩,op 43 (.pick (.t 37) (.k (.bool true)) (.t 42)),op 44 (.mov (.t 43)),
⟨some 45, .mov (.t 2), (some (44, false))⟩,
⟨some 46, .faddr (.t 4) 4, (some (44, false))⟩,
⟨some 47, .load (.t 46), (some (44, false))⟩,
⟨some 48, .len false (.t 47), (some (44, false))⟩,
⟨some 49, .conv .u64 (.t 48), (some (44, false))⟩,
⟨some 50, .bin .shl (.k (.int .u32 1)) (.t 49), (some (44, false))⟩,
⟨some 51, .bin .geq (.t 45) (.t 50), (some (44, false))⟩,op 52 (.pick (.t 44) (.k (.bool true)) (.t 51))]
[1, 2, 4, 7, 52])
(.cond (.t 52)
(.seq (.reg [op 53 (.call np10 []),op 8 (.mov (.t 53))]
[8])
.ret)
.skip))
(.seq (.reg [op 54 (.loadN (.t 4) 9),op 55 (.call n_subset_New [.t 54]),op 9 (.mov (.t 55))]
[1, 2, 4, 7, 9])
(.seq (.seq (.reg [op 56 (.mov (.t 9)),op 57 (.eqP false (.t 56) (.k (.nilp)))]
[1, 2, 4, 7, 9, 57])
(.cond (.t 57)
(.seq (.reg [op 8 (.mov (.k (.bool false)))]
[8])
.ret)
.skip))
(.seq (.reg [op 58 (.loadN (.t 4) 9),op 59 (.loadN (.t 7) 2),op 60 (.call n_proctorref17_All [.t 58, .t 59]),op 61 (.mov (.t 1)),op 62 (.call n_proctorref17_Under [.t 60, .t 61]),op 10 (.mov (.t 62))]
[2, 4, 9, 10])
(.seq (.reg [op 63 (.mov (.t 9)),op 64 (.mov (.t 2)),op 65 (.mov (.t 10)),op 66 (.call n_subset_Auto_Hits [.t 63, .t 64, .t 65]),op 11 (.mov (.t 66))]
[2, 4, 9, 10, 11])
(.seq (.seq (.reg [op 67 (.mov (.t 10)),op 68 (.len false (.t 67)),op 69 (.bin .eql (.t 68) (.k (.int .i64 0)))]
[2, 4, 9, 10, 11, 69])
(.cond (.t 69)
(.seq (.reg [op 70 (.mov (.t 11)),op 71 (.mov (.t 2)),op 72 (.bin .eql (.t 70) (.t 71)),op 73 (.mov (.t 72)),
⟨some 74, .call np10 [], (some (73, true))⟩,op 75 (.pick (.t 73) (.t 74) (.k (.bool false))),op 8 (.mov (.t 75))]
[8])
.ret)
.skip))
(.seq (.dreg [op 77 (.loadN (.t 4) 9),op 78 (.loadN (.t 4) 9),op 79 (.mov (.t 2)),op 80 (.call n_proctorref28_Set [.t 78, .t 79]),op 81 (.mov (.t 10)),op 82 (.call n_proctorref19_All [.t 77, .t 80, .t 81]),op 76 (.mov (.t 82)),op 83 (.ext (.t 76) 0),op 84 (.ext (.t 76) 1),op 12 (.mov (.t 83)),op 13 (.mov (.t 84))]
[9, 11, 12])
(.seq (.reg [op 85 (.mov (.t 9)),op 86 (.mov (.t 11)),op 87 (.call n_subset_Auto_Set [.t 85, .t 86]),op 88 (.mov (.t 12)),op 89 (.call n_proctorref18_Same [.t 87, .t 88]),op 90 (.mov (.t 89)),
⟨some 91, .call np10 [], (some (90, true))⟩,op 92 (.pick (.t 90) (.t 91) (.k (.bool false))),op 8 (.mov (.t 92))]
[8])
.ret)))))))))⟩
theorem k_proctorlaw28_SubsetHits : chkF Tryz.prog Tryz.f5 c_proctorlaw28_SubsetHits = true := by kernel_rfl
abbrev pc_proctorlaw28_SubsetHits := @pcR n_proctorlaw28_SubsetHits _ _ Tryz.func5 k_proctorlaw28_SubsetHits
def cpa_ : AFun := ⟨28, 0, [.t 0],
  (.seq (.reg [op 0 (.mov (.k (.bool false)))]
[])
(.seq (.reg [op 2 (.build [.str [], .bool false, .bool false] [(0, 1, .k (.str [115]))]),op 3 (.build [.str [], .bool false, .bool false] [(0, 1, .k (.str [116])), (2, 1, .k (.bool true))]),op 4 (.mkrow t_api_State 3 2 (.agg [.str [], .bool false, .bool false]) [(0, .t 2), (1, .t 3)]),op 5 (.build [.str [], .nils, .nils, .nils, .nils, .int .i64 0, .nils, .nils, .nils] [(0, 1, .k (.str [113])), (4, 1, .t 4), (5, 1, .k (.int .i64 1))]),op 6 (.call n_subset_New [.t 5]),op 1 (.mov (.t 6))]
[1])
(.seq (.reg [op 7 (.mov (.t 1)),op 8 (.eqP true (.t 7) (.k (.nilp))),op 9 (.mov (.t 8)),
⟨some 10, .mov (.t 1), (some (9, true))⟩,
⟨some 11, .call n_subset_Auto_Start [.t 10], (some (9, true))⟩,
⟨some 12, .bin .eql (.t 11) (.k (.int .u32 2)), (some (9, true))⟩,op 13 (.pick (.t 9) (.t 12) (.k (.bool false))),op 14 (.mov (.t 13)),
⟨some 15, .mov (.t 1), (some (14, true))⟩,
⟨some 16, .call n_subset_Auto_Next [.t 15, .k (.int .u32 3), .k (.int .u64 1)], (some (14, true))⟩,
⟨some 17, .bin .eql (.t 16) (.k (.int .u32 3)), (some (14, true))⟩,op 18 (.pick (.t 14) (.t 17) (.k (.bool false))),op 19 (.mov (.t 18)),
⟨some 20, .mov (.t 1), (some (19, true))⟩,
⟨some 21, .call n_subset_Auto_Accepts [.t 20, .k (.int .u32 2)], (some (19, true))⟩,op 22 (.pick (.t 19) (.t 21) (.k (.bool false))),op 23 (.mov (.t 22)),
⟨some 24, .mov (.t 1), (some (23, true))⟩,
⟨some 25, .call n_subset_Auto_Known [.t 24], (some (23, true))⟩,
⟨some 26, .bin .eql (.t 25) (.k (.int .i64 0)), (some (23, true))⟩,op 27 (.pick (.t 23) (.t 26) (.k (.bool false))),op 0 (.mov (.t 27))]
[0])
.ret)))⟩
theorem k_proctorlaw28_awake : chkF Tryz.prog Tryz.f26 cpa_ = true := by kernel_rfl
theorem pc_proctorlaw28_awake {G : Nat → Option AV} {args : List AV} {r : AV} (h : ∀ c, c = cpa_ → Runs Tryz.prog G c args r) (hk : args.length = cpa_.k := by rfl) : P_ Tryz.prog G np10 args r := by
  generalize hc : cpa_ = c at *
  have k := k_proctorlaw28_awake
  rw [hc] at k
  generalize hf : Tryz.f26 = f at *
  have h := h _ rfl
  exact P_.of_runs (fn := f) (A := c) (hf ▸ Tryz.func26) k hk h
def c_proctorref01_Add : AFun := ⟨27, 2, [.t 4, .t 5],
  (.seq (.reg [op 4 (.mov (.k (.int .i64 0))),op 5 (.mov (.k (.bool false)))]
[0, 1])
(.seq (.seq (.reg [op 6 (.mov (.t 1)),op 7 (.bin .gtr (.t 6) (.k (.int .i64 0))),op 8 (.mov (.t 7)),
⟨some 9, .mov (.t 0), (some (8, true))⟩,
⟨some 10, .mov (.t 1), (some (8, true))⟩,
⟨some 11, .bin .sub (.k (.int .i64 9223372036854775807)) (.t 10), (some (8, true))⟩,
⟨some 12, .bin .gtr (.t 9) (.t 11), (some (8, true))⟩,op 13 (.pick (.t 8) (.t 12) (.k (.bool false))),op 14 (.mov (.t 13)),
⟨some 15, .mov (.t 1), (some (14, false))⟩,
⟨some 16, .bin .lss (.t 15) (.k (.int .i64 0)), (some (14, false))⟩,
⟨some 17, .mov (.t 16), (some (14, false))⟩,
⟨some 18, .mov (.t 0), (some (17, true))⟩,
⟨some 19, .mov (.t 1), (some (17, true))⟩,
⟨some 20, .bin .sub (.k (.int .i64 (-9223372036854775808))) (.t 19), (some (17, true))⟩,
⟨some 21, .bin .lss (.t 18) (.t 20), (some (17, true))⟩,
⟨some 22, .pick (.t 17) (.t 21) (.k (.bool false)), (some (14, false))⟩,op 23 (.pick (.t 14) (.k (.bool true)) (.t 22))]
[0, 1, 23])
(.cond (.t 23)
(.seq (.reg [op 4 (.mov (.k (.int .i64 0))),op 5 (.mov (.k (.bool false)))]
[4, 5])
.ret)
.skip))
(.seq (.reg [op 24 (.mov (.t 0)),op 25 (.mov (.t 1)),op 26 (.bin .add (.t 24) (.t 25)),op 4 (.mov (.t 26)),op 5 (.mov (.k (.bool true)))]
[4, 5])
.ret)))⟩
theorem k_proctorref01_Add : chkF Tryz.prog Tryz.f285 c_proctorref01_Add = true := by kernel_rfl
abbrev pc_proctorref01_Add := @pcR n_proctorref01_Add _ _ Tryz.func285 k_proctorref01_Add
def c_proctorref01_Div : AFun := ⟨27, 2, [.t 4, .t 5, .t 6],
  (.seq (.reg [op 4 (.mov (.k (.int .i64 0))),op 5 (.mov (.k (.int .i64 0))),op 6 (.mov (.k (.int .i64 0)))]
[0, 1])
(.seq (.seq (.reg [op 9 (.mov (.t 1)),op 10 (.bin .eql (.t 9) (.k (.int .i64 0)))]
[0, 1, 10])
(.cond (.t 10)
(.seq (.reg [op 4 (.mov (.k (.int .i64 0))),op 5 (.mov (.k (.int .i64 0))),op 6 (.mov (.k (.int .i64 7)))]
[4, 5, 6])
.ret)
.skip))
(.seq (.seq (.reg [op 11 (.mov (.t 1)),op 12 (.bin .eql (.t 11) (.k (.int .i64 (-1))))]
[0, 1, 12])
(.cond (.t 12)
(.seq (.reg [op 14 (.mov (.t 0)),op 15 (.call npS_ [.k (.int .i64 0), .t 14]),op 13 (.mov (.t 15)),op 16 (.ext (.t 13) 0),op 17 (.ext (.t 13) 1),op 7 (.mov (.t 16)),op 8 (.mov (.t 17))]
[7, 8])
(.seq (.seq (.reg [op 18 (.mov (.t 8)),op 19 (.un .not (.t 18))]
[7, 19])
(.cond (.t 19)
(.seq (.reg [op 4 (.mov (.k (.int .i64 0))),op 5 (.mov (.k (.int .i64 0))),op 6 (.mov (.k (.int .i64 6)))]
[4, 5, 6])
.ret)
.skip))
(.seq (.reg [op 20 (.mov (.t 7)),op 4 (.mov (.t 20)),op 5 (.mov (.k (.int .i64 0))),op 6 (.mov (.k (.int .i64 0)))]
[4, 5, 6])
.ret)))
.skip))
(.seq (.dreg [op 21 (.mov (.t 0)),op 22 (.mov (.t 1)),op 23 (.bin .quo (.t 21) (.t 22)),op 24 (.mov (.t 0)),op 25 (.mov (.t 1)),op 26 (.bin .rem (.t 24) (.t 25)),op 4 (.mov (.t 23)),op 5 (.mov (.t 26)),op 6 (.mov (.k (.int .i64 0)))]
[4, 5, 6])
.ret))))⟩
theorem k_proctorref01_Div : chkF Tryz.prog Tryz.f289 c_proctorref01_Div = true := by kernel_rfl
abbrev pc_proctorref01_Div := @pcR n_proctorref01_Div _ _ Tryz.func289 k_proctorref01_Div
def c_proctorref01_Mul : AFun := ⟨81, 2, [.t 4, .t 5],
  (.seq (.reg [op 4 (.mov (.k (.int .i64 0))),op 5 (.mov (.k (.bool false)))]
[0, 1])
(.seq (.seq (.reg [op 6 (.mov (.t 0)),op 7 (.bin .eql (.t 6) (.k (.int .i64 0))),op 8 (.mov (.t 7)),
⟨some 9, .mov (.t 1), (some (8, false))⟩,
⟨some 10, .bin .eql (.t 9) (.k (.int .i64 0)), (some (8, false))⟩,op 11 (.pick (.t 8) (.k (.bool true)) (.t 10))]
[0, 1, 11])
(.cond (.t 11)
(.seq (.reg [op 4 (.mov (.k (.int .i64 0))),op 5 (.mov (.k (.bool true)))]
[4, 5])
.ret)
.skip))
(.seq (.seq (.reg [op 12 (.mov (.t 0)),op 13 (.bin .eql (.t 12) (.k (.int .i64 (-1))))]
[0, 1, 13])
(.cond (.t 13)
(.seq (.reg [op 14 (.mov (.t 1)),op 15 (.call npS_ [.k (.int .i64 0), .t 14]),op 16 (.ext (.t 15) 0),op 17 (.ext (.t 15) 1),op 4 (.mov (.t 16)),op 5 (.mov (.t 17))]
[4, 5])
.ret)
.skip))
(.seq (.seq (.reg [op 18 (.mov (.t 1)),op 19 (.bin .eql (.t 18) (.k (.int .i64 (-1))))]
[0, 1, 19])
(.cond (.t 19)
(.seq (.reg [op 20 (.mov (.t 0)),op 21 (.call npS_ [.k (.int .i64 0), .t 20]),op 22 (.ext (.t 21) 0),op 23 (.ext (.t 21) 1),op 4 (.mov (.t 22)),op 5 (.mov (.t 23))]
[4, 5])
.ret)
.skip))
(.seq (.seq (.reg [op 24 (.mov (.t 0)),op 25 (.bin .gtr (.t 24) (.k (.int .i64 0))),op 26 (.mov (.t 25)),
⟨some 27, .mov (.t 1), (some (26, true))⟩,
⟨some 28, .bin .gtr (.t 27) (.k (.int .i64 0)), (some (26, true))⟩,op 29 (.pick (.t 26) (.t 28) (.k (.bool false))),op 30 (.mov (.t 29)),
⟨some 31, .mov (.t 0), (some (30, true))⟩,
⟨some 32, .mov (.t 1), (some (30, true))⟩,
⟨some 33, .bin .quo (.k (.int .i64 9223372036854775807)) (.t 32), (some (30, true))⟩,
⟨some 34, .bin .gtr (.t 31) (.t 33), (some (30, true))⟩,op 35 (.pick (.t 30) (.t 34) (.k (.bool false))),op 36 (.mov (.t 35)),
⟨some 37, .mov (.t 0), (some (36, false))⟩,
⟨some 38, .bin .gtr (.t 37) (.k (.int .i64 0)), (some (36, false))⟩,
⟨some 39, .mov (.t 38), (some (36, false))⟩,
⟨some 40, .mov (.t 1), (some (39, true))⟩,
⟨some 41, .bin .lss (.t 40) (.k (.int .i64 0)), (some (39, true))⟩,
⟨some 42, .pick (.t 39) (.t 41) (.k (.bool false)), (some (36, false))⟩,
⟨some 43, .mov (.t 42), (some (36, false))⟩,
⟨some 44, .mov (.t 1), (some (43, true))⟩,
⟨some 45, .mov (.t 0), (some (43, true))⟩,
⟨some 46, .bin .quo (.k (.int .i64 (-9223372036854775808))) (.t 45), (some (43, true))⟩,
⟨some 47, .bin .lss (.t 44) (.t 46), (some (43, true))⟩,
⟨some 48, .pick (.t 43) (.t 47) (.k (.bool false)), (some (36, false))⟩,op 49 (.pick (.t 36) (.k (.bool true)) (.t 48)),op 50 (.mov (.t 49)),
⟨some 51, .mov (.t 0), (some (50, false))⟩,
⟨some 52, .bin .lss (.t 51) (.k (.int .i64 0)), (some (50, false))⟩,
⟨some 53, .mov (.t 52), (some (50, false))⟩,
⟨some 54, .mov (.t 1), (some (53, true))⟩,
⟨some 55, .bin .gtr (.t 54) (.k (.int .i64 0)), (some (53, true))⟩,
⟨some 56, .pick (.t 53) (.t 55) (.k (.bool false)), (some (50, false))⟩,
⟨some 57, .mov (.t 56), (some (50, false))⟩,
⟨some 58, .mov (.t 0), (some (57, true))⟩,
⟨some 59, .mov (.t 1), (some (57, true))⟩,
⟨some 60, .bin .quo (.k (.int .i64 (-9223372036854775808))) (.t 59), (some (57, true))⟩,
⟨some 61, .bin .lss (.t 58) (.t 60), (some (57, true))⟩,
⟨some 62, .pick (.t 57) (.t 61) (.k (.bool false)), (some (50, false))⟩,op 63 (.pick (.t 50) (.k (.bool true)) (.t 62)),op 64 (.mov (.t 63)),
⟨some 65, .mov (.t 0), (some (64, false))⟩,
⟨some 66, .bin .lss (.t 65) (.k (.int .i64 0)), (some (64, false))⟩,
⟨some 67, .mov (.t 66), (some (64, false))⟩,
⟨some 68, .mov (.t 1), (some (67, true))⟩,
⟨some 69, .bin .lss (.t 68) (.k (.int .i64 0)), (some (67, true))⟩,
⟨some 70, .pick (.t 67) (.t 69) (.k (.bool false)), (some (64, false))⟩,
⟨some 71, .mov (.t 70), (some (64, false))⟩,
⟨some 72, .mov (.t 0), (some (71, true))⟩,
⟨some 73, .mov (.t 1), (some (71, true))⟩,
⟨some 74, .bin .quo (.k (.int .i64 9223372036854775807)) (.t 73), (some (71, true))⟩,
⟨some 75, .bin .lss (.t 72) (.t 74), (some (71, true))⟩,
⟨some 76, .pick (.t 71) (.t 75) (.k (.bool false)), (some (64, false))⟩,op 77 (.pick (.t 64) (.k (.bool true)) (.t 76))]
[0, 1, 77])
(.cond (.t 77)
(.seq (.reg [op 4 (.mov (.k (.int .i64 0))),op 5 (.mov (.k (.bool false)))]
[4, 5])
.ret)
.skip))
(.seq (.reg [op 78 (.mov (.t 0)),op 79 (.mov (.t 1)),op 80 (.bin .mul (.t 78) (.t 79)),op 4 (.mov (.t 80)),op 5 (.mov (.k (.bool true)))]
[4, 5])
.ret))))))⟩
theorem k_proctorref01_Mul : chkF Tryz.prog Tryz.f288 c_proctorref01_Mul = true := by kernel_rfl
abbrev pc_proctorref01_Mul := @pcR n_proctorref01_Mul _ _ Tryz.func288 k_proctorref01_Mul
def c_proctorref01_Sub : AFun := ⟨27, 2, [.t 4, .t 5],
  (.seq (.reg [op 4 (.mov (.k (.int .i64 0))),op 5 (.mov (.k (.bool false)))]
[0, 1])
(.seq (.seq (.reg [op 6 (.mov (.t 1)),op 7 (.bin .lss (.t 6) (.k (.int .i64 0))),op 8 (.mov (.t 7)),
⟨some 9, .mov (.t 0), (some (8, true))⟩,
⟨some 10, .mov (.t 1), (some (8, true))⟩,
⟨some 11, .bin .add (.k (.int .i64 9223372036854775807)) (.t 10), (some (8, true))⟩,
⟨some 12, .bin .gtr (.t 9) (.t 11), (some (8, true))⟩,op 13 (.pick (.t 8) (.t 12) (.k (.bool false))),op 14 (.mov (.t 13)),
⟨some 15, .mov (.t 1), (some (14, false))⟩,
⟨some 16, .bin .gtr (.t 15) (.k (.int .i64 0)), (some (14, false))⟩,
⟨some 17, .mov (.t 16), (some (14, false))⟩,
⟨some 18, .mov (.t 0), (some (17, true))⟩,
⟨some 19, .mov (.t 1), (some (17, true))⟩,
⟨some 20, .bin .add (.k (.int .i64 (-9223372036854775808))) (.t 19), (some (17, true))⟩,
⟨some 21, .bin .lss (.t 18) (.t 20), (some (17, true))⟩,
⟨some 22, .pick (.t 17) (.t 21) (.k (.bool false)), (some (14, false))⟩,op 23 (.pick (.t 14) (.k (.bool true)) (.t 22))]
[0, 1, 23])
(.cond (.t 23)
(.seq (.reg [op 4 (.mov (.k (.int .i64 0))),op 5 (.mov (.k (.bool false)))]
[4, 5])
.ret)
.skip))
(.seq (.reg [op 24 (.mov (.t 0)),op 25 (.mov (.t 1)),op 26 (.bin .sub (.t 24) (.t 25)),op 4 (.mov (.t 26)),op 5 (.mov (.k (.bool true)))]
[4, 5])
.ret)))⟩
theorem k_proctorref01_Sub : chkF Tryz.prog Tryz.f287 c_proctorref01_Sub = true := by kernel_rfl
abbrev pc_proctorref01_Sub := @pcR npS_ _ _ Tryz.func287 k_proctorref01_Sub
def c_proctorref03_Below : AFun := ⟨37, 2, [.t 4],
  (.seq (.reg [op 4 (.mov (.k (.bool false)))]
[0, 1])
(.seq (.seq (.reg [op 5 (.mov (.k (.int .i64 0)))]
[0, 1, 5])
(.block 0
(.loop [0, 1, 5] []
  (.seq (.seq (.reg [op 6 (.mov (.t 5)),op 7 (.mov (.t 0)),op 8 (.len true (.t 7)),op 9 (.bin .lss (.t 6) (.t 8)),op 10 (.mov (.t 9)),
⟨some 11, .mov (.t 5), (some (10, true))⟩,
⟨some 12, .mov (.t 1), (some (10, true))⟩,
⟨some 13, .len true (.t 12), (some (10, true))⟩,
⟨some 14, .bin .lss (.t 11) (.t 13), (some (10, true))⟩,op 15 (.pick (.t 10) (.t 14) (.k (.bool false)))]
[0, 1, 5, 15])
(.cond (.t 15)
.skip
(.exit 0)))
(.seq (.block 1
(.seq (.dreg [op 18 (.mov (.t 0)),op 19 (.mov (.t 5)),op 20 (.idx (.t 18) (.t 19)),op 21 (.mov (.t 1)),op 22 (.mov (.t 5)),op 23 (.idx (.t 21) (.t 22)),op 24 (.bin .neq (.t 20) (.t 23))]
[0, 1, 5, 24])
(.cond (.t 24)
(.seq (.dreg [op 25 (.mov (.t 0)),op 26 (.mov (.t 5)),op 27 (.idx (.t 25) (.t 26)),op 28 (.mov (.t 1)),op 29 (.mov (.t 5)),op 30 (.idx (.t 28) (.t 29)),op 31 (.bin .lss (.t 27) (.t 30)),op 4 (.mov (.t 31))]
[4])
.ret)
.skip)))
(.reg [op 16 (.mov (.t 5)),op 17 (.bin .add (.t 16) (.k (.int .i64 1))),op 5 (.mov (.t 17))]
[0, 1, 5]))))))
(.seq (.reg [op 32 (.mov (.t 0)),op 33 (.len true (.t 32)),op 34 (.mov (.t 1)),op 35 (.len true (.t 34)),op 36 (.bin .lss (.t 33) (.t 35)),op 4 (.mov (.t 36))]
[4])
.ret)))⟩
theorem k_proctorref03_Below : chkF Tryz.prog Tryz.f233 c_proctorref03_Below = true := by kernel_rfl
abbrev pc_proctorref03_Below := @pcR n_proctorref03_Below _ _ Tryz.func233 k_proctorref03_Below
def c_proctorref03_Less : AFun := ⟨38, 2, [.t 4],
  (.seq (.reg [op 2 (.box taV_ 4 (.t 0)),op 3 (.box taV_ 4 (.t 1)),op 4 (.mov (.k (.bool false)))]
[2, 3])
(.seq (.seq (.reg [op 5 (.faddr (.t 2) 0),op 6 (.load (.t 5)),op 7 (.faddr (.t 3) 0),op 8 (.load (.t 7)),op 9 (.bin .neq (.t 6) (.t 8))]
[2, 3, 9])
(.cond (.t 9)
(.seq (.reg [op 10 (.faddr (.t 2) 0),op 11 (.load (.t 10)),op 12 (.faddr (.t 3) 0),op 13 (.load (.t 12)),op 14 (.bin .lss (.t 11) (.t 13)),op 4 (.mov (.t 14))]
[4])
.ret)
.skip))
(.seq (.seq (.reg [op 15 (.faddr (.t 2) 0),op 16 (.load (.t 15)),op 17 (.bin .eql (.t 16) (.k (.int .i64 1)))]
[2, 3, 17])
(.cond (.t 17)
(.seq (.reg [op 18 (.faddr (.t 2) 1),op 19 (.load (.t 18)),op 20 (.faddr (.t 3) 1),op 21 (.load (.t 20)),op 22 (.bin .lss (.t 19) (.t 21)),op 4 (.mov (.t 22))]
[4])
.ret)
.skip))
(.seq (.seq (.reg [op 23 (.faddr (.t 2) 0),op 24 (.load (.t 23)),op 25 (.bin .eql (.t 24) (.k (.int .i64 2)))]
[2, 3, 25])
(.cond (.t 25)
(.seq (.reg [op 26 (.faddr (.t 2) 2),op 27 (.load (.t 26)),op 28 (.faddr (.t 3) 2),op 29 (.load (.t 28)),op 30 (.call n_proctorref03_Below [.t 27, .t 29]),op 4 (.mov (.t 30))]
[4])
.ret)
.skip))
(.seq (.reg [op 31 (.faddr (.t 2) 3),op 32 (.load (.t 31)),op 33 (.un .not (.t 32)),op 34 (.mov (.t 33)),
⟨some 35, .faddr (.t 3) 3, (some (34, true))⟩,
⟨some 36, .load (.t 35), (some (34, true))⟩,op 37 (.pick (.t 34) (.t 36) (.k (.bool false))),op 4 (.mov (.t 37))]
[4])
.ret)))))⟩
theorem k_proctorref03_Less : chkF Tryz.prog Tryz.f167 c_proctorref03_Less = true := by kernel_rfl
abbrev pc_proctorref03_Less := @pcR npL_ _ _ Tryz.func167 k_proctorref03_Less
def c_proctorref03_Op : AFun := ⟨145, 3, [.cells 6 4, .t 7],
  (.seq (.reg [op 4 (.box taV_ 4 (.t 1)),op 5 (.box taV_ 4 (.t 2)),op 6 (.alloc taV_ 4 (.agg [.int .i64 0, .int .i64 0, .str [], .bool false])),op 7 (.mov (.k (.int .i64 0)))]
[0, 4, 5, 6])
(.seq (.seq (.reg [op 8 (.mov (.t 0)),op 9 (.bin .lss (.t 8) (.k (.int .i64 4))),op 10 (.mov (.t 9)),
⟨some 11, .mov (.t 0), (some (10, false))⟩,
⟨some 12, .bin .gtr (.t 11) (.k (.int .i64 16)), (some (10, false))⟩,op 13 (.pick (.t 10) (.k (.bool true)) (.t 12))]
[0, 4, 5, 6, 13])
(.cond (.t 13)
(.seq (.reg [op 14 (.build [.int .i64 0, .int .i64 0, .str [], .bool false] []),
⟨none, .store (.t 6) (.t 14) 4, none⟩,op 7 (.mov (.k (.int .i64 1)))]
[6, 7])
.ret)
.skip))
(.seq (.seq (.reg [op 15 (.mov (.t 0)),op 16 (.bin .eql (.t 15) (.k (.int .i64 4)))]
[0, 4, 5, 6, 16])
(.cond (.t 16)
(.seq (.seq (.reg [op 17 (.faddr (.t 4) 0),op 18 (.load (.t 17)),op 19 (.bin .neq (.t 18) (.k (.int .i64 3)))]
[4, 6, 19])
(.cond (.t 19)
(.seq (.reg [op 20 (.build [.int .i64 0, .int .i64 0, .str [], .bool false] []),
⟨none, .store (.t 6) (.t 20) 4, none⟩,op 7 (.mov (.k (.int .i64 8)))]
[6, 7])
.ret)
.skip))
(.seq (.reg [op 21 (.faddr (.t 4) 3),op 22 (.load (.t 21)),op 23 (.un .not (.t 22)),op 24 (.call npt_ [.t 23]),op 25 (.ext (.t 24) 0),op 26 (.ext (.t 24) 1),
⟨none, .store (.t 6) (.t 25) 4, none⟩,op 7 (.mov (.t 26))]
[6, 7])
.ret))
.skip))
(.seq (.seq (.reg [op 27 (.mov (.t 0)),op 28 (.bin .eql (.t 27) (.k (.int .i64 5)))]
[0, 4, 5, 6, 28])
(.cond (.t 28)
(.seq (.seq (.reg [op 29 (.faddr (.t 4) 0),op 30 (.load (.t 29)),op 31 (.bin .neq (.t 30) (.k (.int .i64 1)))]
[4, 6, 31])
(.cond (.t 31)
(.seq (.reg [op 32 (.build [.int .i64 0, .int .i64 0, .str [], .bool false] []),
⟨none, .store (.t 6) (.t 32) 4, none⟩,op 7 (.mov (.k (.int .i64 8)))]
[6, 7])
.ret)
.skip))
(.seq (.reg [op 33 (.faddr (.t 4) 1),op 34 (.load (.t 33)),op 35 (.call npa_ [.k (.int .i64 9), .k (.int .i64 0), .t 34]),op 36 (.ext (.t 35) 0),op 37 (.ext (.t 35) 1),
⟨none, .store (.t 6) (.t 36) 4, none⟩,op 7 (.mov (.t 37))]
[6, 7])
.ret))
.skip))
(.seq (.seq (.reg [op 38 (.faddr (.t 4) 0),op 39 (.load (.t 38)),op 40 (.faddr (.t 5) 0),op 41 (.load (.t 40)),op 42 (.bin .neq (.t 39) (.t 41))]
[0, 4, 5, 6, 42])
(.cond (.t 42)
(.seq (.reg [op 43 (.build [.int .i64 0, .int .i64 0, .str [], .bool false] []),
⟨none, .store (.t 6) (.t 43) 4, none⟩,op 7 (.mov (.k (.int .i64 8)))]
[6, 7])
.ret)
.skip))
(.seq (.seq (.reg [op 44 (.mov (.t 0)),op 45 (.bin .eql (.t 44) (.k (.int .i64 13)))]
[0, 4, 5, 6, 45])
(.cond (.t 45)
(.seq (.reg [op 46 (.loadN (.t 4) 4),op 47 (.loadN (.t 5) 4),op 48 (.eqA false [0, 0, 1, 2] (.t 46) (.t 47)),op 49 (.call npt_ [.t 48]),op 50 (.ext (.t 49) 0),op 51 (.ext (.t 49) 1),
⟨none, .store (.t 6) (.t 50) 4, none⟩,op 7 (.mov (.t 51))]
[6, 7])
.ret)
.skip))
(.seq (.seq (.reg [op 52 (.mov (.t 0)),op 53 (.bin .eql (.t 52) (.k (.int .i64 14)))]
[0, 4, 5, 6, 53])
(.cond (.t 53)
(.seq (.reg [op 54 (.loadN (.t 4) 4),op 55 (.loadN (.t 5) 4),op 56 (.eqA true [0, 0, 1, 2] (.t 54) (.t 55)),op 57 (.call npt_ [.t 56]),op 58 (.ext (.t 57) 0),op 59 (.ext (.t 57) 1),
⟨none, .store (.t 6) (.t 58) 4, none⟩,op 7 (.mov (.t 59))]
[6, 7])
.ret)
.skip))
(.seq (.seq (.reg [op 60 (.faddr (.t 4) 0),op 61 (.load (.t 60)),op 62 (.bin .eql (.t 61) (.k (.int .i64 3)))]
[0, 4, 5, 6, 62])
(.cond (.t 62)
(.seq (.seq (.reg [op 63 (.mov (.t 0)),op 64 (.bin .eql (.t 63) (.k (.int .i64 6)))]
[0, 4, 5, 6, 64])
(.cond (.t 64)
(.seq (.reg [op 65 (.faddr (.t 4) 3),op 66 (.load (.t 65)),op 67 (.mov (.t 66)),
⟨some 68, .faddr (.t 5) 3, (some (67, true))⟩,
⟨some 69, .load (.t 68), (some (67, true))⟩,op 70 (.pick (.t 67) (.t 69) (.k (.bool false))),op 71 (.call npt_ [.t 70]),op 72 (.ext (.t 71) 0),op 73 (.ext (.t 71) 1),
⟨none, .store (.t 6) (.t 72) 4, none⟩,op 7 (.mov (.t 73))]
[6, 7])
.ret)
.skip))
(.seq (.seq (.reg [op 74 (.mov (.t 0)),op 75 (.bin .eql (.t 74) (.k (.int .i64 7)))]
[4, 5, 6, 75])
(.cond (.t 75)
(.seq (.reg [op 76 (.faddr (.t 4) 3),op 77 (.load (.t 76)),op 78 (.mov (.t 77)),
⟨some 79, .faddr (.t 5) 3, (some (78, false))⟩,
⟨some 80, .load (.t 79), (some (78, false))⟩,op 81 (.pick (.t 78) (.k (.bool true)) (.t 80)),op 82 (.call npt_ [.t 81]),op 83 (.ext (.t 82) 0),op 84 (.ext (.t 82) 1),
⟨none, .store (.t 6) (.t 83) 4, none⟩,op 7 (.mov (.t 84))]
[6, 7])
.ret)
.skip))
(.seq (.reg [op 85 (.build [.int .i64 0, .int .i64 0, .str [], .bool false] []),
⟨none, .store (.t 6) (.t 85) 4, none⟩,op 7 (.mov (.k (.int .i64 8)))]
[6, 7])
.ret)))
.skip))
(.seq (.seq (.reg [op 86 (.mov (.t 0)),op 87 (.bin .eql (.t 86) (.k (.int .i64 15)))]
[0, 4, 5, 6, 87])
(.cond (.t 87)
(.seq (.reg [op 88 (.loadN (.t 4) 4),op 89 (.loadN (.t 5) 4),op 90 (.call npL_ [.t 88, .t 89]),op 91 (.call npt_ [.t 90]),op 92 (.ext (.t 91) 0),op 93 (.ext (.t 91) 1),
⟨none, .store (.t 6) (.t 92) 4, none⟩,op 7 (.mov (.t 93))]
[6, 7])
.ret)
.skip))
(.seq (.seq (.reg [op 94 (.mov (.t 0)),op 95 (.bin .eql (.t 94) (.k (.int .i64 16)))]
[0, 4, 5, 6, 95])
(.cond (.t 95)
(.seq (.reg [op 96 (.loadN (.t 5) 4),op 97 (.loadN (.t 4) 4),op 98 (.call npL_ [.t 96, .t 97]),op 99 (.un .not (.t 98)),op 100 (.call npt_ [.t 99]),op 101 (.ext (.t 100) 0),op 102 (.ext (.t 100) 1),
⟨none, .store (.t 6) (.t 101) 4, none⟩,op 7 (.mov (.t 102))]
[6, 7])
.ret)
.skip))
(.seq (.seq (.reg [op 103 (.faddr (.t 4) 0),op 104 (.load (.t 103)),op 105 (.bin .eql (.t 104) (.k (.int .i64 1))),op 106 (.mov (.t 105)),
⟨some 107, .mov (.t 0), (some (106, true))⟩,
⟨some 108, .bin .geq (.t 107) (.k (.int .i64 8)), (some (106, true))⟩,op 109 (.pick (.t 106) (.t 108) (.k (.bool false))),op 110 (.mov (.t 109)),
⟨some 111, .mov (.t 0), (some (110, true))⟩,
⟨some 112, .bin .leq (.t 111) (.k (.int .i64 12)), (some (110, true))⟩,op 113 (.pick (.t 110) (.t 112) (.k (.bool false)))]
[0, 4, 5, 6, 113])
(.cond (.t 113)
(.seq (.reg [op 114 (.mov (.t 0)),op 115 (.faddr (.t 4) 1),op 116 (.load (.t 115)),op 117 (.faddr (.t 5) 1),op 118 (.load (.t 117)),op 119 (.call npa_ [.t 114, .t 116, .t 118]),op 120 (.ext (.t 119) 0),op 121 (.ext (.t 119) 1),
⟨none, .store (.t 6) (.t 120) 4, none⟩,op 7 (.mov (.t 121))]
[6, 7])
.ret)
.skip))
(.seq (.seq (.reg [op 122 (.faddr (.t 4) 0),op 123 (.load (.t 122)),op 124 (.bin .eql (.t 123) (.k (.int .i64 2))),op 125 (.mov (.t 124)),
⟨some 126, .mov (.t 0), (some (125, true))⟩,
⟨some 127, .bin .eql (.t 126) (.k (.int .i64 8)), (some (125, true))⟩,op 128 (.pick (.t 125) (.t 127) (.k (.bool false)))]
[4, 5, 6, 128])
(.cond (.t 128)
(.seq (.seq (.reg [op 129 (.faddr (.t 4) 2),op 130 (.load (.t 129)),op 131 (.len true (.t 130)),op 132 (.faddr (.t 5) 2),op 133 (.load (.t 132)),op 134 (.len true (.t 133)),op 135 (.bin .add (.t 131) (.t 134)),op 136 (.bin .gtr (.t 135) (.k (.int .i64 4096)))]
[4, 5, 6, 136])
(.cond (.t 136)
(.seq (.reg [op 137 (.build [.int .i64 0, .int .i64 0, .str [], .bool false] []),
⟨none, .store (.t 6) (.t 137) 4, none⟩,op 7 (.mov (.k (.int .i64 3)))]
[6, 7])
.ret)
.skip))
(.seq (.reg [op 138 (.faddr (.t 4) 2),op 139 (.load (.t 138)),op 140 (.faddr (.t 5) 2),op 141 (.load (.t 140)),op 142 (.bin .add (.t 139) (.t 141)),op 143 (.build [.int .i64 0, .int .i64 0, .str [], .bool false] [(0, 1, .k (.int .i64 2)), (2, 1, .t 142)]),
⟨none, .store (.t 6) (.t 143) 4, none⟩,op 7 (.mov (.k (.int .i64 0)))]
[6, 7])
.ret))
.skip))
(.seq (.reg [op 144 (.build [.int .i64 0, .int .i64 0, .str [], .bool false] []),
⟨none, .store (.t 6) (.t 144) 4, none⟩,op 7 (.mov (.k (.int .i64 8)))]
[6, 7])
.ret)))))))))))))⟩
theorem k_proctorref03_Op : chkF Tryz.prog Tryz.f231 c_proctorref03_Op = true := by kernel_rfl
abbrev pc_proctorref03_Op := @pcR npO_ _ _ Tryz.func231 k_proctorref03_Op
def c_proctorref03_Right : AFun := ⟨44, 1, [.t 2],
  (.seq (.reg [op 1 (.box taV_ 4 (.t 0)),op 2 (.mov (.k (.bool false)))]
[1])
(.seq (.seq (.reg [op 3 (.faddr (.t 1) 0),op 4 (.load (.t 3)),op 5 (.bin .eql (.t 4) (.k (.int .i64 1)))]
[1, 5])
(.cond (.t 5)
(.seq (.reg [op 6 (.faddr (.t 1) 2),op 7 (.load (.t 6)),op 8 (.bin .eql (.t 7) (.k (.str []))),op 9 (.mov (.t 8)),
⟨some 10, .faddr (.t 1) 3, (some (9, true))⟩,
⟨some 11, .load (.t 10), (some (9, true))⟩,
⟨some 12, .un .not (.t 11), (some (9, true))⟩,op 13 (.pick (.t 9) (.t 12) (.k (.bool false))),op 2 (.mov (.t 13))]
[2])
.ret)
.skip))
(.seq (.seq (.reg [op 14 (.faddr (.t 1) 0),op 15 (.load (.t 14)),op 16 (.bin .eql (.t 15) (.k (.int .i64 2)))]
[1, 16])
(.cond (.t 16)
(.seq (.reg [op 17 (.faddr (.t 1) 1),op 18 (.load (.t 17)),op 19 (.bin .eql (.t 18) (.k (.int .i64 0))),op 20 (.mov (.t 19)),
⟨some 21, .faddr (.t 1) 3, (some (20, true))⟩,
⟨some 22, .load (.t 21), (some (20, true))⟩,
⟨some 23, .un .not (.t 22), (some (20, true))⟩,op 24 (.pick (.t 20) (.t 23) (.k (.bool false))),op 25 (.mov (.t 24)),
⟨some 26, .faddr (.t 1) 2, (some (25, true))⟩,
⟨some 27, .load (.t 26), (some (25, true))⟩,
⟨some 28, .len true (.t 27), (some (25, true))⟩,
⟨some 29, .bin .leq (.t 28) (.k (.int .i64 4096)), (some (25, true))⟩,op 30 (.pick (.t 25) (.t 29) (.k (.bool false))),op 2 (.mov (.t 30))]
[2])
.ret)
.skip))
(.seq (.reg [op 31 (.faddr (.t 1) 0),op 32 (.load (.t 31)),op 33 (.bin .eql (.t 32) (.k (.int .i64 3))),op 34 (.mov (.t 33)),
⟨some 35, .faddr (.t 1) 1, (some (34, true))⟩,
⟨some 36, .load (.t 35), (some (34, true))⟩,
⟨some 37, .bin .eql (.t 36) (.k (.int .i64 0)), (some (34, true))⟩,op 38 (.pick (.t 34) (.t 37) (.k (.bool false))),op 39 (.mov (.t 38)),
⟨some 40, .faddr (.t 1) 2, (some (39, true))⟩,
⟨some 41, .load (.t 40), (some (39, true))⟩,
⟨some 42, .bin .eql (.t 41) (.k (.str [])), (some (39, true))⟩,op 43 (.pick (.t 39) (.t 42) (.k (.bool false))),op 2 (.mov (.t 43))]
[2])
.ret))))⟩
theorem k_proctorref03_Right : chkF Tryz.prog Tryz.f76 c_proctorref03_Right = true := by kernel_rfl
abbrev pc_proctorref03_Right := @pcR npR_ _ _ Tryz.func76 k_proctorref03_Right
def c_proctorref03_arith : AFun := ⟨76, 3, [.cells 6 4, .t 7],
  (.seq (.reg [op 6 (.alloc taV_ 4 (.agg [.int .i64 0, .int .i64 0, .str [], .bool false])),op 7 (.mov (.k (.int .i64 0)))]
[0, 1, 2, 6])
(.seq (.seq (.reg [op 17 (.mov (.t 0)),op 18 (.bin .eql (.t 17) (.k (.int .i64 8)))]
[0, 1, 2, 6, 18])
(.cond (.t 18)
(.seq (.reg [op 20 (.mov (.t 1)),op 21 (.mov (.t 2)),op 22 (.call n_proctorref01_Add [.t 20, .t 21]),op 19 (.mov (.t 22)),op 23 (.ext (.t 19) 0),op 24 (.ext (.t 19) 1),op 8 (.mov (.t 23)),op 9 (.mov (.t 24))]
[6, 8, 9])
(.seq (.reg [op 25 (.mov (.t 8)),op 26 (.mov (.t 9)),op 27 (.call npn_ [.t 25, .t 26]),op 28 (.ext (.t 27) 0),op 29 (.ext (.t 27) 1),
⟨none, .store (.t 6) (.t 28) 4, none⟩,op 7 (.mov (.t 29))]
[6, 7])
.ret))
.skip))
(.seq (.seq (.reg [op 30 (.mov (.t 0)),op 31 (.bin .eql (.t 30) (.k (.int .i64 9)))]
[0, 1, 2, 6, 31])
(.cond (.t 31)
(.seq (.reg [op 33 (.mov (.t 1)),op 34 (.mov (.t 2)),op 35 (.call npS_ [.t 33, .t 34]),op 32 (.mov (.t 35)),op 36 (.ext (.t 32) 0),op 37 (.ext (.t 32) 1),op 10 (.mov (.t 36)),op 11 (.mov (.t 37))]
[6, 10, 11])
(.seq (.reg [op 38 (.mov (.t 10)),op 39 (.mov (.t 11)),op 40 (.call npn_ [.t 38, .t 39]),op 41 (.ext (.t 40) 0),op 42 (.ext (.t 40) 1),
⟨none, .store (.t 6) (.t 41) 4, none⟩,op 7 (.mov (.t 42))]
[6, 7])
.ret))
.skip))
(.seq (.seq (.reg [op 43 (.mov (.t 0)),op 44 (.bin .eql (.t 43) (.k (.int .i64 10)))]
[0, 1, 2, 6, 44])
(.cond (.t 44)
(.seq (.reg [op 46 (.mov (.t 1)),op 47 (.mov (.t 2)),op 48 (.call n_proctorref01_Mul [.t 46, .t 47]),op 45 (.mov (.t 48)),op 49 (.ext (.t 45) 0),op 50 (.ext (.t 45) 1),op 12 (.mov (.t 49)),op 13 (.mov (.t 50))]
[6, 12, 13])
(.seq (.reg [op 51 (.mov (.t 12)),op 52 (.mov (.t 13)),op 53 (.call npn_ [.t 51, .t 52]),op 54 (.ext (.t 53) 0),op 55 (.ext (.t 53) 1),
⟨none, .store (.t 6) (.t 54) 4, none⟩,op 7 (.mov (.t 55))]
[6, 7])
.ret))
.skip))
(.seq (.reg [op 57 (.mov (.t 1)),op 58 (.mov (.t 2)),op 59 (.call n_proctorref01_Div [.t 57, .t 58]),op 56 (.mov (.t 59)),op 60 (.ext (.t 56) 0),op 61 (.ext (.t 56) 1),op 62 (.ext (.t 56) 2),op 14 (.mov (.t 60)),op 15 (.mov (.t 61)),op 16 (.mov (.t 62))]
[0, 6, 14, 15, 16])
(.seq (.seq (.reg [op 63 (.mov (.t 16)),op 64 (.bin .eql (.t 63) (.k (.int .i64 7)))]
[0, 6, 14, 15, 16, 64])
(.cond (.t 64)
(.seq (.reg [op 65 (.build [.int .i64 0, .int .i64 0, .str [], .bool false] []),
⟨none, .store (.t 6) (.t 65) 4, none⟩,op 7 (.mov (.k (.int .i64 7)))]
[6, 7])
.ret)
.skip))
(.seq (.seq (.reg [op 66 (.mov (.t 0)),op 67 (.bin .eql (.t 66) (.k (.int .i64 12)))]
[6, 14, 15, 16, 67])
(.cond (.t 67)
(.seq (.reg [op 68 (.mov (.t 15)),op 69 (.build [.int .i64 0, .int .i64 0, .str [], .bool false] [(0, 1, .k (.int .i64 1)), (1, 1, .t 68)]),
⟨none, .store (.t 6) (.t 69) 4, none⟩,op 7 (.mov (.k (.int .i64 0)))]
[6, 7])
.ret)
.skip))
(.seq (.reg [op 70 (.mov (.t 14)),op 71 (.mov (.t 16)),op 72 (.bin .eql (.t 71) (.k (.int .i64 0))),op 73 (.call npn_ [.t 70, .t 72]),op 74 (.ext (.t 73) 0),op 75 (.ext (.t 73) 1),
⟨none, .store (.t 6) (.t 74) 4, none⟩,op 7 (.mov (.t 75))]
[6, 7])
.ret))))))))⟩
theorem k_proctorref03_arith : chkF Tryz.prog Tryz.f262 c_proctorref03_arith = true := by kernel_rfl
abbrev pc_proctorref03_arith := @pcR npa_ _ _ Tryz.func262 k_proctorref03_arith
def c_proctorref03_number : AFun := ⟨11, 2, [.cells 4 4, .t 5],
  (.seq (.reg [op 4 (.alloc taV_ 4 (.agg [.int .i64 0, .int .i64 0, .str [], .bool false])),op 5 (.mov (.k (.int .i64 0)))]
[0, 1, 4])
(.seq (.seq (.reg [op 6 (.mov (.t 1)),op 7 (.un .not (.t 6))]
[0, 4, 7])
(.cond (.t 7)
(.seq (.reg [op 8 (.build [.int .i64 0, .int .i64 0, .str [], .bool false] []),
⟨none, .store (.t 4) (.t 8) 4, none⟩,op 5 (.mov (.k (.int .i64 6)))]
[4, 5])
.ret)
.skip))
(.seq (.reg [op 9 (.mov (.t 0)),op 10 (.build [.int .i64 0, .int .i64 0, .str [], .bool false] [(0, 1, .k (.int .i64 1)), (1, 1, .t 9)]),
⟨none, .store (.t 4) (.t 10) 4, none⟩,op 5 (.mov (.k (.int .i64 0)))]
[4, 5])
.ret)))⟩
theorem k_proctorref03_number : chkF Tryz.prog Tryz.f286 c_proctorref03_number = true := by kernel_rfl
abbrev pc_proctorref03_number := @pcR npn_ _ _ Tryz.func286 k_proctorref03_number
def c_proctorref03_truth : AFun := ⟨6, 1, [.cells 2 4, .t 3],
  (.seq (.reg [op 2 (.alloc taV_ 4 (.agg [.int .i64 0, .int .i64 0, .str [], .bool false])),op 3 (.mov (.k (.int .i64 0)))]
[0, 2])
(.seq (.reg [op 4 (.mov (.t 0)),op 5 (.build [.int .i64 0, .int .i64 0, .str [], .bool false] [(0, 1, .k (.int .i64 3)), (3, 1, .t 4)]),
⟨none, .store (.t 2) (.t 5) 4, none⟩,op 3 (.mov (.k (.int .i64 0)))]
[2, 3])
.ret))⟩
theorem k_proctorref03_truth : chkF Tryz.prog Tryz.f261 c_proctorref03_truth = true := by kernel_rfl
abbrev pc_proctorref03_truth := @pcR npt_ _ _ Tryz.func261 k_proctorref03_truth
def c_proctorref05_Fits : AFun := ⟨34, 2, [.t 4],
  (.seq (.reg [op 4 (.mov (.k (.bool false)))]
[0, 1])
(.seq (.seq (.reg [op 5 (.mov (.k (.int .i64 0)))]
[0, 1, 5])
(.block 0
(.loop [0, 1, 5] []
  (.seq (.seq (.reg [op 8 (.mov (.t 5)),op 9 (.mov (.t 0)),op 10 (.len false (.t 9)),op 11 (.bin .lss (.t 8) (.t 10))]
[0, 1, 5, 11])
(.cond (.t 11)
.skip
(.exit 0)))
(.seq (.block 1
(.seq (.reg [op 15 (.mov (.t 1)),op 16 (.mov (.t 0)),op 17 (.mov (.t 5)),op 18 (.iaddr 5 (.t 16) (.t 17)),op 19 (.faddr (.t 18) 0),op 20 (.load (.t 19)),op 21 (.call npG_ [.t 15, .t 20]),op 14 (.mov (.t 21)),op 22 (.ext (.t 14) 0),op 23 (.ext (.t 14) 1),op 6 (.alloc taV_ 4 (.agg [.int .i64 0, .int .i64 0, .str [], .bool false])),
⟨none, .store (.t 6) (.t 22) 4, none⟩,op 7 (.mov (.t 23))]
[0, 1, 5, 6, 7])
(.seq (.dreg [op 24 (.mov (.t 7)),op 25 (.mov (.t 24)),
⟨some 26, .loadN (.t 6) 4, (some (25, true))⟩,
⟨some 27, .mov (.t 0), (some (25, true))⟩,
⟨some 28, .mov (.t 5), (some (25, true))⟩,
⟨some 29, .iaddr 5 (.t 27) (.t 28), (some (25, true))⟩,
⟨some 30, .faddr (.t 29) 1, (some (25, true))⟩,
⟨some 31, .loadN (.t 30) 4, (some (25, true))⟩,
⟨some 32, .eqA true [0, 0, 1, 2] (.t 26) (.t 31), (some (25, true))⟩,op 33 (.pick (.t 25) (.t 32) (.k (.bool false)))]
[0, 1, 5, 33])
(.cond (.t 33)
(.seq (.reg [op 4 (.mov (.k (.bool false)))]
[4])
.ret)
.skip))))
(.reg [op 12 (.mov (.t 5)),op 13 (.bin .add (.t 12) (.k (.int .i64 1))),op 5 (.mov (.t 13))]
[0, 1, 5]))))))
(.seq (.reg [op 4 (.mov (.k (.bool true)))]
[4])
.ret)))⟩
theorem k_proctorref05_Fits : chkF Tryz.prog Tryz.f142 c_proctorref05_Fits = true := by kernel_rfl
abbrev pc_proctorref05_Fits := @pcR n_proctorref05_Fits _ _ Tryz.func142 k_proctorref05_Fits
def c_proctorref05_Get : AFun := ⟨26, 2, [.cells 4 4, .t 5],
  (.seq (.reg [op 4 (.alloc taV_ 4 (.agg [.int .i64 0, .int .i64 0, .str [], .bool false])),op 5 (.mov (.k (.bool false)))]
[0, 1, 4])
(.seq (.seq (.reg [op 6 (.mov (.k (.int .i64 0)))]
[0, 1, 4, 6])
(.block 0
(.loop [0, 1, 4, 6] [4]
  (.seq (.seq (.reg [op 7 (.mov (.t 6)),op 8 (.mov (.t 0)),op 9 (.len false (.t 8)),op 10 (.bin .lss (.t 7) (.t 9))]
[0, 1, 4, 6, 10])
(.cond (.t 10)
.skip
(.exit 0)))
(.seq (.block 1
(.seq (.reg [op 13 (.mov (.t 0)),op 14 (.mov (.t 6)),op 15 (.iaddr 5 (.t 13) (.t 14)),op 16 (.faddr (.t 15) 0),op 17 (.load (.t 16)),op 18 (.mov (.t 1)),op 19 (.bin .eql (.t 17) (.t 18))]
[0, 1, 4, 6, 19])
(.cond (.t 19)
(.seq (.reg [op 20 (.mov (.t 0)),op 21 (.mov (.t 6)),op 22 (.iaddr 5 (.t 20) (.t 21)),op 23 (.faddr (.t 22) 1),op 24 (.loadN (.t 23) 4),
⟨none, .store (.t 4) (.t 24) 4, none⟩,op 5 (.mov (.k (.bool true)))]
[4, 5])
.ret)
.skip)))
(.reg [op 11 (.mov (.t 6)),op 12 (.bin .add (.t 11) (.k (.int .i64 1))),op 6 (.mov (.t 12))]
[0, 1, 4, 6]))))))
(.seq (.reg [op 25 (.build [.int .i64 0, .int .i64 0, .str [], .bool false] []),
⟨none, .store (.t 4) (.t 25) 4, none⟩,op 5 (.mov (.k (.bool false)))]
[4, 5])
.ret)))⟩
theorem k_proctorref05_Get : chkF Tryz.prog Tryz.f141 c_proctorref05_Get = true := by kernel_rfl
abbrev pc_proctorref05_Get := @pcR npG_ _ _ Tryz.func141 k_proctorref05_Get
def c_proctorref05_Right : AFun := ⟨51, 1, [.t 2],
  (.seq (.reg [op 2 (.mov (.k (.bool false)))]
[0])
(.seq (.seq (.reg [op 3 (.mov (.k (.int .i64 0)))]
[0, 3])
(.block 0
(.loop [0, 3] []
  (.seq (.seq (.reg [op 4 (.mov (.t 3)),op 5 (.mov (.t 0)),op 6 (.len false (.t 5)),op 7 (.bin .lss (.t 4) (.t 6))]
[0, 3, 7])
(.cond (.t 7)
.skip
(.exit 0)))
(.seq (.block 1
(.seq (.dreg [op 10 (.mov (.t 0)),op 11 (.mov (.t 3)),op 12 (.iaddr 5 (.t 10) (.t 11)),op 13 (.faddr (.t 12) 0),op 14 (.load (.t 13)),op 15 (.bin .lss (.t 14) (.k (.int .i64 0))),op 16 (.mov (.t 15)),
⟨some 17, .mov (.t 0), (some (16, false))⟩,
⟨some 18, .mov (.t 3), (some (16, false))⟩,
⟨some 19, .iaddr 5 (.t 17) (.t 18), (some (16, false))⟩,
⟨some 20, .faddr (.t 19) 0, (some (16, false))⟩,
⟨some 21, .load (.t 20), (some (16, false))⟩,
⟨some 22, .bin .gtr (.t 21) (.k (.int .i64 7)), (some (16, false))⟩,op 23 (.pick (.t 16) (.k (.bool true)) (.t 22)),op 24 (.mov (.t 23)),
⟨some 25, .mov (.t 0), (some (24, false))⟩,
⟨some 26, .mov (.t 3), (some (24, false))⟩,
⟨some 27, .iaddr 5 (.t 25) (.t 26), (some (24, false))⟩,
⟨some 28, .faddr (.t 27) 1, (some (24, false))⟩,
⟨some 29, .loadN (.t 28) 4, (some (24, false))⟩,
⟨some 30, .call npR_ [.t 29], (some (24, false))⟩,
⟨some 31, .un .not (.t 30), (some (24, false))⟩,op 32 (.pick (.t 24) (.k (.bool true)) (.t 31)),op 33 (.mov (.t 32)),
⟨some 34, .mov (.t 3), (some (33, false))⟩,
⟨some 35, .bin .gtr (.t 34) (.k (.int .i64 0)), (some (33, false))⟩,
⟨some 36, .mov (.t 35), (some (33, false))⟩,
⟨some 37, .mov (.t 0), (some (36, true))⟩,
⟨some 38, .mov (.t 3), (some (36, true))⟩,
⟨some 39, .iaddr 5 (.t 37) (.t 38), (some (36, true))⟩,
⟨some 40, .faddr (.t 39) 0, (some (36, true))⟩,
⟨some 41, .load (.t 40), (some (36, true))⟩,
⟨some 42, .mov (.t 0), (some (36, true))⟩,
⟨some 43, .mov (.t 3), (some (36, true))⟩,
⟨some 44, .bin .sub (.t 43) (.k (.int .i64 1)), (some (36, true))⟩,
⟨some 45, .iaddr 5 (.t 42) (.t 44), (some (36, true))⟩,
⟨some 46, .faddr (.t 45) 0, (some (36, true))⟩,
⟨some 47, .load (.t 46), (some (36, true))⟩,
⟨some 48, .bin .leq (.t 41) (.t 47), (some (36, true))⟩,
⟨some 49, .pick (.t 36) (.t 48) (.k (.bool false)), (some (33, false))⟩,op 50 (.pick (.t 33) (.k (.bool true)) (.t 49))]
[0, 3, 50])
(.cond (.t 50)
(.seq (.reg [op 2 (.mov (.k (.bool false)))]
[2])
.ret)
.skip)))
(.reg [op 8 (.mov (.t 3)),op 9 (.bin .add (.t 8) (.k (.int .i64 1))),op 3 (.mov (.t 9))]
[0, 3]))))))
(.seq (.reg [op 2 (.mov (.k (.bool true)))]
[2])
.ret)))⟩
theorem k_proctorref05_Right : chkF Tryz.prog Tryz.f40 c_proctorref05_Right = true := by kernel_rfl
abbrev pc_proctorref05_Right := @pcR n_proctorref05_Right _ _ Tryz.func40 k_proctorref05_Right
def c_proctorref05_Under : AFun := ⟨35, 2, [.t 4],
  (.seq (.reg [op 4 (.mov (.k (.bool false)))]
[0, 1])
(.seq (.seq (.reg [op 5 (.mov (.k (.int .i64 0)))]
[0, 1, 5])
(.block 0
(.loop [0, 1, 5] []
  (.seq (.seq (.reg [op 8 (.mov (.t 5)),op 9 (.mov (.t 0)),op 10 (.len false (.t 9)),op 11 (.bin .lss (.t 8) (.t 10))]
[0, 1, 5, 11])
(.cond (.t 11)
.skip
(.exit 0)))
(.seq (.block 1
(.seq (.reg [op 15 (.mov (.t 1)),op 16 (.mov (.t 0)),op 17 (.mov (.t 5)),op 18 (.iaddr 5 (.t 16) (.t 17)),op 19 (.faddr (.t 18) 0),op 20 (.load (.t 19)),op 21 (.call npG_ [.t 15, .t 20]),op 14 (.mov (.t 21)),op 22 (.ext (.t 14) 0),op 23 (.ext (.t 14) 1),op 6 (.alloc taV_ 4 (.agg [.int .i64 0, .int .i64 0, .str [], .bool false])),
⟨none, .store (.t 6) (.t 22) 4, none⟩,op 7 (.mov (.t 23))]
[0, 1, 5, 6, 7])
(.seq (.dreg [op 24 (.mov (.t 7)),op 25 (.un .not (.t 24)),op 26 (.mov (.t 25)),
⟨some 27, .loadN (.t 6) 4, (some (26, false))⟩,
⟨some 28, .mov (.t 0), (some (26, false))⟩,
⟨some 29, .mov (.t 5), (some (26, false))⟩,
⟨some 30, .iaddr 5 (.t 28) (.t 29), (some (26, false))⟩,
⟨some 31, .faddr (.t 30) 1, (some (26, false))⟩,
⟨some 32, .loadN (.t 31) 4, (some (26, false))⟩,
⟨some 33, .eqA true [0, 0, 1, 2] (.t 27) (.t 32), (some (26, false))⟩,op 34 (.pick (.t 26) (.k (.bool true)) (.t 33))]
[0, 1, 5, 34])
(.cond (.t 34)
(.seq (.reg [op 4 (.mov (.k (.bool false)))]
[4])
.ret)
.skip))))
(.reg [op 12 (.mov (.t 5)),op 13 (.bin .add (.t 12) (.k (.int .i64 1))),op 5 (.mov (.t 13))]
[0, 1, 5]))))))
(.seq (.reg [op 4 (.mov (.k (.bool true)))]
[4])
.ret)))⟩
theorem k_proctorref05_Under : chkF Tryz.prog Tryz.f78 c_proctorref05_Under = true := by kernel_rfl
abbrev pc_proctorref05_Under := @pcR n_proctorref05_Under _ _ Tryz.func78 k_proctorref05_Under
def c_proctorref05_Union : AFun := ⟨42, 2, [.t 4],
  (.seq (.reg [op 4 (.nilrow ta10 5)]
[0, 1])
(.seq (.reg [op 5 (.nilrow ta10 5)]
[0, 1, 5])
(.seq (.seq (.reg [op 6 (.mov (.k (.int .i64 0)))]
[0, 1, 5, 6])
(.block 0
(.loop [0, 1, 5, 6] [4, 5, 33, 40]
  (.seq (.seq (.reg [op 11 (.mov (.t 6)),op 12 (.bin .lss (.t 11) (.k (.int .i64 8)))]
[0, 1, 5, 6, 12])
(.cond (.t 12)
.skip
(.exit 0)))
(.seq (.block 1
(.seq (.reg [op 16 (.mov (.t 0)),op 17 (.mov (.t 6)),op 18 (.call npG_ [.t 16, .t 17]),op 15 (.mov (.t 18)),op 19 (.ext (.t 15) 0),op 20 (.ext (.t 15) 1),op 7 (.alloc taV_ 4 (.agg [.int .i64 0, .int .i64 0, .str [], .bool false])),
⟨none, .store (.t 7) (.t 19) 4, none⟩,op 8 (.mov (.t 20))]
[0, 1, 5, 6, 7, 8])
(.seq (.reg [op 22 (.mov (.t 1)),op 23 (.mov (.t 6)),op 24 (.call npG_ [.t 22, .t 23]),op 21 (.mov (.t 24)),op 25 (.ext (.t 21) 0),op 26 (.ext (.t 21) 1),op 9 (.alloc taV_ 4 (.agg [.int .i64 0, .int .i64 0, .str [], .bool false])),
⟨none, .store (.t 9) (.t 25) 4, none⟩,op 10 (.mov (.t 26))]
[0, 1, 5, 6, 7, 8, 9, 10])
(.seq (.reg [op 27 (.mov (.t 8))]
[0, 1, 5, 6, 7, 9, 10, 27])
(.cond (.t 27)
(.reg [op 28 (.mov (.t 5)),op 29 (.mov (.t 6)),op 30 (.loadN (.t 7) 4),op 31 (.build [.int .i64 0, .int .i64 0, .int .i64 0, .str [], .bool false] [(0, 1, .t 29), (1, 4, .t 30)]),op 32 (.mkrow ta10 5 1 (.agg [.int .i64 0, .int .i64 0, .int .i64 0, .str [], .bool false]) [(0, .t 31)]),op 33 (.app ta10 5 48 (.t 28) (.t 32)),op 5 (.mov (.t 33))]
[0, 1, 5, 6])
(.seq (.reg [op 34 (.mov (.t 10))]
[0, 1, 5, 6, 9, 34])
(.cond (.t 34)
(.reg [op 35 (.mov (.t 5)),op 36 (.mov (.t 6)),op 37 (.loadN (.t 9) 4),op 38 (.build [.int .i64 0, .int .i64 0, .int .i64 0, .str [], .bool false] [(0, 1, .t 36), (1, 4, .t 37)]),op 39 (.mkrow ta10 5 1 (.agg [.int .i64 0, .int .i64 0, .int .i64 0, .str [], .bool false]) [(0, .t 38)]),op 40 (.app ta10 5 48 (.t 35) (.t 39)),op 5 (.mov (.t 40))]
[0, 1, 5, 6])
.skip)))))))
(.reg [op 13 (.mov (.t 6)),op 14 (.bin .add (.t 13) (.k (.int .i64 1))),op 6 (.mov (.t 14))]
[0, 1, 5, 6]))))))
(.seq (.reg [op 41 (.mov (.t 5)),op 4 (.mov (.t 41))]
[4])
.ret))))⟩
theorem k_proctorref05_Union : chkF Tryz.prog Tryz.f143 c_proctorref05_Union = true := by kernel_rfl
abbrev pc_proctorref05_Union := @pcR n_proctorref05_Union _ _ Tryz.func143 k_proctorref05_Union
def c_proctorref07_Check : AFun := ⟨72, 1, [.t 2, .t 3],
  (.seq (.reg [op 2 (.mov (.k (.int .i64 0))),op 3 (.mov (.k (.int .i64 0)))]
[0])
(.seq (.seq (.reg [op 6 (.mov (.t 0)),op 7 (.len false (.t 6)),op 8 (.bin .gtr (.t 7) (.k (.int .i64 32)))]
[0, 8])
(.cond (.t 8)
(.seq (.reg [op 2 (.mov (.k (.int .i64 14))),op 3 (.mov (.k (.int .i64 32)))]
[2, 3])
.ret)
.skip))
(.seq (.seq (.reg [op 4 (.mov (.k (.int .i64 0)))]
[0, 4])
(.block 0
(.loop [0, 4] [7]
  (.seq (.seq (.reg [op 9 (.mov (.t 4)),op 10 (.mov (.t 0)),op 11 (.len false (.t 10)),op 12 (.bin .lss (.t 9) (.t 11))]
[0, 4, 12])
(.cond (.t 12)
.skip
(.exit 0)))
(.seq (.block 1
(.seq (.seq (.reg [op 15 (.mov (.t 0)),op 16 (.mov (.t 4)),op 17 (.iaddr 2 (.t 15) (.t 16)),op 18 (.faddr (.t 17) 0),op 19 (.load (.t 18)),op 20 (.call npN_ [.t 19]),op 21 (.un .not (.t 20))]
[0, 4, 21])
(.cond (.t 21)
(.seq (.reg [op 22 (.mov (.t 4)),op 2 (.mov (.k (.int .i64 11))),op 3 (.mov (.t 22))]
[2, 3])
.ret)
.skip))
(.seq (.seq (.reg [op 23 (.mov (.t 0)),op 24 (.mov (.t 0)),op 25 (.mov (.t 4)),op 26 (.iaddr 2 (.t 24) (.t 25)),op 27 (.faddr (.t 26) 0),op 28 (.load (.t 27)),op 29 (.call n_proctorref07_Find [.t 23, .t 28]),op 30 (.mov (.t 4)),op 31 (.bin .lss (.t 29) (.t 30))]
[0, 4, 31])
(.cond (.t 31)
(.seq (.reg [op 32 (.mov (.t 4)),op 2 (.mov (.k (.int .i64 10))),op 3 (.mov (.t 32))]
[2, 3])
.ret)
.skip))
(.seq (.seq (.reg [op 33 (.mov (.t 0)),op 34 (.mov (.t 4)),op 35 (.iaddr 2 (.t 33) (.t 34)),op 36 (.faddr (.t 35) 1),op 37 (.load (.t 36)),op 38 (.len false (.t 37)),op 39 (.bin .gtr (.t 38) (.k (.int .i64 8)))]
[0, 4, 39])
(.cond (.t 39)
(.seq (.reg [op 40 (.mov (.t 4)),op 2 (.mov (.k (.int .i64 14))),op 3 (.mov (.t 40))]
[2, 3])
.ret)
.skip))
(.seq (.reg [op 5 (.mov (.k (.int .i64 0)))]
[0, 4, 5])
(.block 2
(.loop [0, 4, 5] [7, 11, 20, 29, 38]
  (.seq (.seq (.reg [op 41 (.mov (.t 5)),op 42 (.mov (.t 0)),op 43 (.mov (.t 4)),op 44 (.iaddr 2 (.t 42) (.t 43)),op 45 (.faddr (.t 44) 1),op 46 (.load (.t 45)),op 47 (.len false (.t 46)),op 48 (.bin .lss (.t 41) (.t 47))]
[0, 4, 5, 48])
(.cond (.t 48)
.skip
(.exit 2)))
(.seq (.block 3
(.seq (.reg [op 51 (.mov (.t 0)),op 52 (.mov (.t 4)),op 53 (.iaddr 2 (.t 51) (.t 52)),op 54 (.faddr (.t 53) 1),op 55 (.load (.t 54)),op 56 (.mov (.t 5)),op 57 (.iaddr 1 (.t 55) (.t 56)),op 58 (.load (.t 57)),op 59 (.bin .lss (.t 58) (.k (.int .i64 1))),op 60 (.mov (.t 59)),
⟨some 61, .mov (.t 0), (some (60, false))⟩,
⟨some 62, .mov (.t 4), (some (60, false))⟩,
⟨some 63, .iaddr 2 (.t 61) (.t 62), (some (60, false))⟩,
⟨some 64, .faddr (.t 63) 1, (some (60, false))⟩,
⟨some 65, .load (.t 64), (some (60, false))⟩,
⟨some 66, .mov (.t 5), (some (60, false))⟩,
⟨some 67, .iaddr 1 (.t 65) (.t 66), (some (60, false))⟩,
⟨some 68, .load (.t 67), (some (60, false))⟩,
⟨some 69, .bin .gtr (.t 68) (.k (.int .i64 3)), (some (60, false))⟩,op 70 (.pick (.t 60) (.k (.bool true)) (.t 69))]
[0, 4, 5, 70])
(.cond (.t 70)
(.seq (.reg [op 71 (.mov (.t 4)),op 2 (.mov (.k (.int .i64 8))),op 3 (.mov (.t 71))]
[2, 3])
.ret)
.skip)))
(.reg [op 49 (.mov (.t 5)),op 50 (.bin .add (.t 49) (.k (.int .i64 1))),op 5 (.mov (.t 50))]
[0, 4, 5]))))))))))
(.reg [op 13 (.mov (.t 4)),op 14 (.bin .add (.t 13) (.k (.int .i64 1))),op 4 (.mov (.t 14))]
[0, 4]))))))
(.seq (.reg [op 2 (.mov (.k (.int .i64 0))),op 3 (.mov (.k (.int .i64 (-1))))]
[2, 3])
.ret))))⟩
theorem k_proctorref07_Check : chkF Tryz.prog Tryz.f71 c_proctorref07_Check = true := by kernel_rfl
abbrev pc_proctorref07_Check := @pcR n_proctorref07_Check _ _ Tryz.func71 k_proctorref07_Check
def c_proctorref07_Find : AFun := ⟨20, 2, [.t 4],
  (.seq (.reg [op 4 (.mov (.k (.int .i64 0)))]
[0, 1])
(.seq (.seq (.reg [op 5 (.mov (.k (.int .i64 0)))]
[0, 1, 5])
(.block 0
(.loop [0, 1, 5] []
  (.seq (.seq (.reg [op 6 (.mov (.t 5)),op 7 (.mov (.t 0)),op 8 (.len false (.t 7)),op 9 (.bin .lss (.t 6) (.t 8))]
[0, 1, 5, 9])
(.cond (.t 9)
.skip
(.exit 0)))
(.seq (.block 1
(.seq (.reg [op 12 (.mov (.t 0)),op 13 (.mov (.t 5)),op 14 (.iaddr 2 (.t 12) (.t 13)),op 15 (.faddr (.t 14) 0),op 16 (.load (.t 15)),op 17 (.mov (.t 1)),op 18 (.bin .eql (.t 16) (.t 17))]
[0, 1, 5, 18])
(.cond (.t 18)
(.seq (.reg [op 19 (.mov (.t 5)),op 4 (.mov (.t 19))]
[4])
.ret)
.skip)))
(.reg [op 10 (.mov (.t 5)),op 11 (.bin .add (.t 10) (.k (.int .i64 1))),op 5 (.mov (.t 11))]
[0, 1, 5]))))))
(.seq (.reg [op 4 (.mov (.k (.int .i64 (-1))))]
[4])
.ret)))⟩
theorem k_proctorref07_Find : chkF Tryz.prog Tryz.f77 c_proctorref07_Find = true := by kernel_rfl
abbrev pc_proctorref07_Find := @pcR n_proctorref07_Find _ _ Tryz.func77 k_proctorref07_Find
end Go.Proofs.YtjbcfpkibnhodaaGreatDoor.Ab
