/-
  The functions' abstract code, by program (acgen.py), and that the model's code is it, reckoned by the kernel. No claim is proved here.
-/
import Derived.Test.YtjbcfpkibnhodaaGreatDoorWAcR0
namespace Go.Proofs.YtjbcfpkibnhodaaGreatDoor.Ab
open Go
def c_subset_Auto_Accepts : AFun := ⟨31, 2, [.t 4],
  (.seq (.reg [op 4 (.mov (.k (.bool false)))]
[0, 1])
(.seq (.seq (.reg [op 7 (.mov (.t 0)),op 8 (.eqP false (.t 7) (.k (.nilp)))]
[0, 1, 8])
(.cond (.t 8)
(.seq (.reg [op 4 (.mov (.k (.bool false)))]
[4])
.ret)
.skip))
(.seq (.seq (.reg [op 9 (.mov (.t 0)),op 10 (.nchk (.t 9)),op 11 (.faddr (.t 10) 0),op 12 (.faddr (.t 11) 4),op 13 (.load (.t 12)),op 14 (.len false (.t 13)),op 15 (.mov (.k (.int .i64 0)))]
[1, 13, 14, 15])
(.block 0
(.loop [1, 13, 14, 15] [14]
  (.seq (.reg [op 16 (.bin .lss (.t 15) (.t 14))]
[1, 13, 14, 15, 16])
(.seq (.cond (.t 16)
.skip
(.exit 0))
(.seq (.block 1
(.seq (.reg [op 17 (.mov (.t 15)),op 18 (.iaddr 3 (.t 13) (.t 15)),op 19 (.loadN (.t 18) 3),op 6 (.alloc t_api_State 3 (.agg [.str [], .bool false, .bool false])),op 5 (.mov (.t 17)),
⟨none, .store (.t 6) (.t 19) 3, none⟩]
[1, 5, 6, 13, 14, 15])
(.seq (.reg [op 20 (.faddr (.t 6) 2),op 21 (.load (.t 20)),op 22 (.mov (.t 21)),
⟨some 23, .mov (.t 1), (some (22, true))⟩,
⟨some 24, .mov (.t 5), (some (22, true))⟩,
⟨some 25, .conv .u64 (.t 24), (some (22, true))⟩,
⟨some 26, .bin .shl (.k (.int .u32 1)) (.t 25), (some (22, true))⟩,
⟨some 27, .bin .and (.t 23) (.t 26), (some (22, true))⟩,
⟨some 28, .bin .neq (.t 27) (.k (.int .u32 0)), (some (22, true))⟩,op 29 (.pick (.t 22) (.t 28) (.k (.bool false)))]
[1, 13, 14, 15, 29])
(.cond (.t 29)
(.seq (.reg [op 4 (.mov (.k (.bool true)))]
[4])
.ret)
.skip))))
(.reg [op 30 (.bin .add (.t 15) (.k (.int .i64 1))),op 15 (.mov (.t 30))]
[1, 13, 14, 15])))))))
(.seq (.reg [op 4 (.mov (.k (.bool false)))]
[4])
.ret))))⟩
theorem k_subset_Auto_Accepts : chkF Tryz.prog Tryz.f33 c_subset_Auto_Accepts = true := by kernel_rfl
abbrev pc_subset_Auto_Accepts := @pcR n_subset_Auto_Accepts _ _ Tryz.func33 k_subset_Auto_Accepts
def csAH_ : AFun := ⟨35, 3, [.t 6],
  (.seq (.reg [op 6 (.mov (.k (.int .u32 0)))]
[0, 1, 2])
(.seq (.reg [op 7 (.mov (.k (.int .u64 0)))]
[0, 1, 2, 7])
(.seq (.seq (.reg [op 10 (.mov (.t 2)),op 11 (.len false (.t 10)),op 12 (.mov (.k (.int .i64 0)))]
[0, 1, 7, 10, 11, 12])
(.block 0
(.loop [0, 1, 7, 10, 11, 12] [11]
  (.seq (.reg [op 13 (.bin .lss (.t 12) (.t 11))]
[0, 1, 7, 10, 11, 12, 13])
(.seq (.cond (.t 13)
.skip
(.exit 0))
(.seq (.block 1
(.seq (.reg [op 14 (.iaddr 3 (.t 10) (.t 12)),op 15 (.loadN (.t 14) 3),op 9 (.alloc taH_ 3 (.agg [.int .i64 0, .nils, .nils])),
⟨none, .store (.t 9) (.t 15) 3, none⟩]
[0, 1, 7, 9, 10, 11, 12])
(.seq (.reg [op 16 (.faddr (.t 9) 0),op 17 (.load (.t 16)),op 18 (.bin .geq (.t 17) (.k (.int .i64 0))),op 19 (.mov (.t 18)),
⟨some 20, .faddr (.t 9) 0, (some (19, true))⟩,
⟨some 21, .load (.t 20), (some (19, true))⟩,
⟨some 22, .bin .lss (.t 21) (.k (.int .i64 64)), (some (19, true))⟩,op 23 (.pick (.t 19) (.t 22) (.k (.bool false)))]
[0, 1, 7, 9, 10, 11, 12, 23])
(.cond (.t 23)
(.reg [op 24 (.mov (.t 7)),op 25 (.faddr (.t 9) 0),op 26 (.load (.t 25)),op 27 (.conv .u64 (.t 26)),op 28 (.bin .shl (.k (.int .u64 1)) (.t 27)),op 29 (.bin .or (.t 24) (.t 28)),op 7 (.mov (.t 29))]
[0, 1, 7, 10, 11, 12])
.skip))))
(.reg [op 30 (.bin .add (.t 12) (.k (.int .i64 1))),op 12 (.mov (.t 30))]
[0, 1, 7, 10, 11, 12])))))))
(.seq (.reg [op 31 (.mov (.t 0)),op 32 (.mov (.t 1)),op 33 (.mov (.t 7)),op 34 (.call n_subset_Auto_Next [.t 31, .t 32, .t 33]),op 6 (.mov (.t 34))]
[6])
.ret))))⟩
theorem k_subset_Auto_Hits : chkF Tryz.prog Tryz.f44 csAH_ = true := by kernel_rfl
theorem hc_subset_Auto_Hits {G : Nat → Option AV} {args : List AV} {r : AV} {H H1 : List (Nat × Box)} (h : RunsH Tryz.prog G csAH_ args H r H1) (hk : args.length = csAH_.k := by rfl) (hh : highB csAH_.N H = true := by rfl) : HeapC Tryz.prog G n_subset_Auto_Hits args H r H1 := HeapC.of_runs (fn := Tryz.f44) (A := csAH_) Tryz.func44 k_subset_Auto_Hits hk hh h
def c_subset_Auto_Known : AFun := ⟨10, 1, [.t 2],
  (.seq (.reg [op 2 (.mov (.k (.int .i64 0)))]
[0])
(.seq (.seq (.reg [op 3 (.mov (.t 0)),op 4 (.eqP false (.t 3) (.k (.nilp)))]
[0, 4])
(.cond (.t 4)
(.seq (.reg [op 2 (.mov (.k (.int .i64 0)))]
[2])
.ret)
.skip))
(.seq (.reg [op 5 (.mov (.t 0)),op 6 (.nchk (.t 5)),op 7 (.faddr (.t 6) 9),op 8 (.load (.t 7)),op 9 (.mlen (.t 8)),op 2 (.mov (.t 9))]
[2])
.ret)))⟩
theorem k_subset_Auto_Known : chkF Tryz.prog Tryz.f34 c_subset_Auto_Known = true := by kernel_rfl
abbrev pc_subset_Auto_Known := @pcR n_subset_Auto_Known _ _ Tryz.func34 k_subset_Auto_Known
def csAN_ : AFun := ⟨59, 3, [.t 6],
  (.seq (.reg [op 6 (.mov (.k (.int .u32 0)))]
[0, 1, 2])
(.seq (.seq (.reg [op 10 (.mov (.t 0)),op 11 (.eqP false (.t 10) (.k (.nilp)))]
[0, 1, 2, 11])
(.cond (.t 11)
(.seq (.reg [op 6 (.mov (.k (.int .u32 0)))]
[6])
.ret)
.skip))
(.seq (.dregA [op 12 (.mov (.t 1)),op 13 (.mov (.t 0)),op 14 (.nchk (.t 13)),op 15 (.faddr (.t 14) 10),op 16 (.faddr (.t 15) 0),op 17 (.load (.t 16)),op 18 (.bin .and (.t 12) (.t 17)),op 19 (.mov (.t 2)),op 20 (.mov (.t 0)),op 21 (.nchk (.t 20)),op 22 (.faddr (.t 21) 10),op 23 (.faddr (.t 22) 1),op 24 (.load (.t 23)),op 25 (.bin .and (.t 19) (.t 24)),op 26 (.build [.int .u32 0, .int .u64 0] [(0, 1, .t 18), (1, 1, .t 25)]),op 7 (.alloc t_subset_pair 2 (.agg [.int .u32 0, .int .u64 0])),
⟨none, .store (.t 7) (.t 26) 2, none⟩] 15 16 [0, 7, 12, 13, 14, 15, 16, 17, 18, 19, 20, 21, 22, 23, 24, 25, 26]
[0, 7])
(.seq (.seq (.reg [op 27 (.faddr (.t 7) 1),op 28 (.load (.t 27)),op 29 (.bin .eql (.t 28) (.k (.int .u64 0)))]
[0, 7, 29])
(.cond (.t 29)
(.seq (.reg [op 30 (.faddr (.t 7) 0),op 31 (.load (.t 30)),op 6 (.mov (.t 31))]
[6])
.ret)
.skip))
(.seq (.dreg [op 33 (.mov (.t 0)),op 34 (.nchk (.t 33)),op 35 (.faddr (.t 34) 9),op 36 (.load (.t 35)),op 37 (.loadN (.t 7) 2),op 38 (.mget true true [0, 0] (.int .u32 0) (.t 36) (.t 37)),op 32 (.mov (.t 38)),op 39 (.ext (.t 32) 0),op 40 (.ext (.t 32) 1),op 8 (.mov (.t 39)),op 9 (.mov (.t 40))]
[0, 7, 8, 9])
(.seq (.seq (.reg [op 41 (.mov (.t 9)),op 42 (.un .not (.t 41))]
[0, 7, 8, 42])
(.cond (.t 42)
(.seq (.dreg [op 43 (.mov (.t 0)),op 44 (.nchk (.t 43)),op 45 (.faddr (.t 44) 0),op 46 (.loadN (.t 45) 9),op 47 (.faddr (.t 7) 0),op 48 (.load (.t 47)),op 49 (.faddr (.t 7) 1),op 50 (.load (.t 49)),op 51 (.call n_joint_Next [.t 46, .t 48, .t 50]),op 8 (.mov (.t 51))]
[0, 7, 8])
(.dreg [op 52 (.mov (.t 0)),op 53 (.nchk (.t 52)),op 54 (.faddr (.t 53) 9),op 55 (.load (.t 54)),op 56 (.loadN (.t 7) 2),op 57 (.mov (.t 8)),
⟨none, .mput true [0, 0] (.t 55) (.t 56) (.t 57), none⟩]
[8]))
.skip))
(.seq (.reg [op 58 (.mov (.t 8)),op 6 (.mov (.t 58))]
[6])
.ret)))))))⟩
theorem k_subset_Auto_Next : chkF Tryz.prog Tryz.f31 csAN_ = true := by kernel_rfl
theorem hc_subset_Auto_Next {G : Nat → Option AV} {args : List AV} {r : AV} {H H1 : List (Nat × Box)} (h : RunsH Tryz.prog G csAN_ args H r H1) (hk : args.length = csAN_.k := by rfl) (hh : highB csAN_.N H = true := by rfl) : HeapC Tryz.prog G n_subset_Auto_Next args H r H1 := HeapC.of_runs (fn := Tryz.f31) (A := csAN_) Tryz.func31 k_subset_Auto_Next hk hh h
def c_subset_Auto_Set : AFun := ⟨31, 2, [.t 4],
  (.seq (.reg [op 4 (.nilrow taC_ 2)]
[0, 1])
(.seq (.seq (.reg [op 7 (.mov (.t 0)),op 8 (.eqP false (.t 7) (.k (.nilp)))]
[0, 1, 8])
(.cond (.t 8)
(.seq (.reg [op 4 (.nilrow taC_ 2)]
[4])
.ret)
.skip))
(.seq (.reg [op 5 (.nilrow taC_ 2)]
[0, 1, 5])
(.seq (.seq (.reg [op 9 (.mov (.t 0)),op 10 (.nchk (.t 9)),op 11 (.faddr (.t 10) 0),op 12 (.faddr (.t 11) 4),op 13 (.load (.t 12)),op 14 (.len false (.t 13)),op 15 (.mov (.k (.int .i64 0)))]
[1, 5, 14, 15])
(.block 0
(.loop [1, 5, 14, 15] [4, 5, 14, 28]
  (.seq (.reg [op 16 (.bin .lss (.t 15) (.t 14))]
[1, 5, 14, 15, 16])
(.seq (.cond (.t 16)
.skip
(.exit 0))
(.seq (.block 1
(.seq (.reg [op 17 (.mov (.t 15)),op 6 (.mov (.t 17))]
[1, 5, 6, 14, 15])
(.seq (.reg [op 18 (.mov (.t 1)),op 19 (.mov (.t 6)),op 20 (.conv .u64 (.t 19)),op 21 (.bin .shl (.k (.int .u32 1)) (.t 20)),op 22 (.bin .and (.t 18) (.t 21)),op 23 (.bin .neq (.t 22) (.k (.int .u32 0)))]
[1, 5, 6, 14, 15, 23])
(.cond (.t 23)
(.reg [op 24 (.mov (.t 5)),op 25 (.mov (.t 6)),op 26 (.build [.int .i64 0, .nils] [(0, 1, .t 25)]),op 27 (.mkrow taC_ 2 1 (.agg [.int .i64 0, .nils]) [(0, .t 26)]),op 28 (.app taC_ 2 32 (.t 24) (.t 27)),op 5 (.mov (.t 28))]
[1, 5, 14, 15])
.skip))))
(.reg [op 29 (.bin .add (.t 15) (.k (.int .i64 1))),op 15 (.mov (.t 29))]
[1, 5, 14, 15])))))))
(.seq (.reg [op 30 (.mov (.t 5)),op 4 (.mov (.t 30))]
[4])
.ret)))))⟩
theorem k_subset_Auto_Set : chkF Tryz.prog Tryz.f32 c_subset_Auto_Set = true := by kernel_rfl
def c_subset_Auto_Start : AFun := ⟨12, 1, [.t 2],
  (.seq (.reg [op 2 (.mov (.k (.int .u32 0)))]
[0])
(.seq (.seq (.reg [op 3 (.mov (.t 0)),op 4 (.eqP false (.t 3) (.k (.nilp)))]
[0, 4])
(.cond (.t 4)
(.seq (.reg [op 2 (.mov (.k (.int .u32 0)))]
[2])
.ret)
.skip))
(.seq (.reg [op 5 (.mov (.t 0)),op 6 (.nchk (.t 5)),op 7 (.faddr (.t 6) 0),op 8 (.faddr (.t 7) 5),op 9 (.load (.t 8)),op 10 (.conv .u64 (.t 9)),op 11 (.bin .shl (.k (.int .u32 1)) (.t 10)),op 2 (.mov (.t 11))]
[2])
.ret)))⟩
theorem k_subset_Auto_Start : chkF Tryz.prog Tryz.f30 c_subset_Auto_Start = true := by kernel_rfl
abbrev pc_subset_Auto_Start := @pcR n_subset_Auto_Start _ _ Tryz.func30 k_subset_Auto_Start
def c_core_Plain : AFun := ⟨13, 1, [.t 2],
  (.seq (.reg [op 1 (.box taQ_ 9 (.t 0)),op 2 (.mov (.k (.bool false)))]
[1])
(.seq (.reg [op 3 (.faddr (.t 1) 3),op 4 (.load (.t 3)),op 5 (.len false (.t 4)),op 6 (.bin .eql (.t 5) (.k (.int .i64 0))),op 7 (.mov (.t 6)),
⟨some 8, .faddr (.t 1) 8, (some (7, true))⟩,
⟨some 9, .load (.t 8), (some (7, true))⟩,
⟨some 10, .call nsCaTaT_ [.t 9, .f n_core_Plain_1], (some (7, true))⟩,
⟨some 11, .un .not (.t 10), (some (7, true))⟩,op 12 (.pick (.t 7) (.t 11) (.k (.bool false))),op 2 (.mov (.t 12))]
[2])
.ret))⟩
theorem k_core_Plain : chkF Tryz.prog Tryz.f70 c_core_Plain = true := by kernel_rfl
abbrev pc_core_Plain := @pcR n_core_Plain _ _ Tryz.func70 k_core_Plain
def c_core_Plain_1 : AFun := ⟨6, 1, [.t 2],
  (.seq (.reg [op 1 (.box taT_ 5 (.t 0)),op 2 (.mov (.k (.bool false)))]
[1])
(.seq (.reg [op 3 (.faddr (.t 1) 3),op 4 (.load (.t 3)),op 5 (.bin .geq (.t 4) (.k (.int .i64 0))),op 2 (.mov (.t 5))]
[2])
.ret))⟩
theorem k_core_Plain_1 : chkF Tryz.prog Tryz.f133 c_core_Plain_1 = true := by kernel_rfl
abbrev pc_core_Plain_1 := @pcR n_core_Plain_1 _ _ Tryz.func133 k_core_Plain_1
def c_core_Right : AFun := ⟨17, 1, [.t 2],
  (.seq (.reg [op 1 (.box taQ_ 9 (.t 0)),op 2 (.mov (.k (.bool false)))]
[1])
(.seq (.reg [op 3 (.loadN (.t 1) 9),op 4 (.call n_core_few [.t 3]),op 5 (.mov (.t 4)),
⟨some 6, .loadN (.t 1) 9, (some (5, true))⟩,
⟨some 7, .call n_core_head [.t 6], (some (5, true))⟩,op 8 (.pick (.t 5) (.t 7) (.k (.bool false))),op 9 (.mov (.t 8)),
⟨some 10, .loadN (.t 1) 9, (some (9, true))⟩,
⟨some 11, .call n_core_trans [.t 10], (some (9, true))⟩,op 12 (.pick (.t 9) (.t 11) (.k (.bool false))),op 13 (.mov (.t 12)),
⟨some 14, .loadN (.t 1) 9, (some (13, true))⟩,
⟨some 15, .call n_core_symbols [.t 14], (some (13, true))⟩,op 16 (.pick (.t 13) (.t 15) (.k (.bool false))),op 2 (.mov (.t 16))]
[2])
.ret))⟩
theorem k_core_Right : chkF Tryz.prog Tryz.f69 c_core_Right = true := by kernel_rfl
abbrev pc_core_Right := @pcR n_core_Right _ _ Tryz.func69 k_core_Right
def c_core_Stands : AFun := ⟨10, 2, [.t 4],
  (.seq (.reg [op 2 (.box taS_ 2 (.t 0)),op 4 (.mov (.k (.bool false)))]
[1, 2])
(.seq (.reg [op 5 (.faddr (.t 2) 1),op 6 (.load (.t 5)),op 7 (.mov (.t 1)),op 8 (.build [.int .i64 0, .int .i64 0, .int .i64 0, .int .i64 0, .str [], .bool false] [(0, 1, .k (.int .i64 2)), (1, 1, .t 7)]),op 9 (.call nsCaAaA_ [.t 6, .t 8]),op 4 (.mov (.t 9))]
[4])
.ret))⟩
theorem k_core_Stands : chkF Tryz.prog Tryz.f204 c_core_Stands = true := by kernel_rfl
abbrev pc_core_Stands := @pcR n_core_Stands _ _ Tryz.func204 k_core_Stands
def c_core_all_int : AFun := ⟨20, 2, [.t 4],
  (.seq (.reg [op 4 (.mov (.k (.bool false)))]
[0, 1])
(.seq (.seq (.reg [op 7 (.mov (.t 0)),op 8 (.len false (.t 7)),op 9 (.mov (.k (.int .i64 0)))]
[1, 7, 8, 9])
(.block 0
(.loop [1, 7, 8, 9] [8]
  (.seq (.reg [op 10 (.bin .lss (.t 9) (.t 8))]
[1, 7, 8, 9, 10])
(.seq (.cond (.t 10)
.skip
(.exit 0))
(.seq (.block 1
(.seq (.reg [op 11 (.mov (.t 9)),op 12 (.iaddr 1 (.t 7) (.t 9)),op 13 (.load (.t 12)),op 5 (.mov (.t 11)),op 6 (.mov (.t 13))]
[1, 5, 6, 7, 8, 9])
(.seq (.reg [op 14 (.mov (.t 1)),op 15 (.mov (.t 5)),op 16 (.mov (.t 6)),op 17 (.callv (.t 14) [.t 15, .t 16]),op 18 (.un .not (.t 17))]
[1, 7, 8, 9, 18])
(.cond (.t 18)
(.seq (.reg [op 4 (.mov (.k (.bool false)))]
[4])
.ret)
.skip))))
(.reg [op 19 (.bin .add (.t 9) (.k (.int .i64 1))),op 9 (.mov (.t 19))]
[1, 7, 8, 9])))))))
(.seq (.reg [op 4 (.mov (.k (.bool true)))]
[4])
.ret)))⟩
theorem k_core_all_int : chkF Tryz.prog Tryz.f210 c_core_all_int = true := by kernel_rfl
abbrev pc_core_all_int := @pcR n_core_all_int _ _ Tryz.func210 k_core_all_int
def c_core_all_api_Free : AFun := ⟨20, 2, [.t 4],
  (.seq (.reg [op 4 (.mov (.k (.bool false)))]
[0, 1])
(.seq (.seq (.reg [op 7 (.mov (.t 0)),op 8 (.len false (.t 7)),op 9 (.mov (.k (.int .i64 0)))]
[1, 7, 8, 9])
(.block 0
(.loop [1, 7, 8, 9] [8]
  (.seq (.reg [op 10 (.bin .lss (.t 9) (.t 8))]
[1, 7, 8, 9, 10])
(.seq (.cond (.t 10)
.skip
(.exit 0))
(.seq (.block 1
(.seq (.reg [op 11 (.mov (.t 9)),op 12 (.iaddr 5 (.t 7) (.t 9)),op 13 (.loadN (.t 12) 5),op 6 (.alloc t_api_Free 5 (.agg [.str [], .int .i64 0, .int .i64 0, .str [], .bool false])),op 5 (.mov (.t 11)),
⟨none, .store (.t 6) (.t 13) 5, none⟩]
[1, 5, 6, 7, 8, 9])
(.seq (.reg [op 14 (.mov (.t 1)),op 15 (.mov (.t 5)),op 16 (.loadN (.t 6) 5),op 17 (.callv (.t 14) [.t 15, .t 16]),op 18 (.un .not (.t 17))]
[1, 7, 8, 9, 18])
(.cond (.t 18)
(.seq (.reg [op 4 (.mov (.k (.bool false)))]
[4])
.ret)
.skip))))
(.reg [op 19 (.bin .add (.t 9) (.k (.int .i64 1))),op 9 (.mov (.t 19))]
[1, 7, 8, 9])))))))
(.seq (.reg [op 4 (.mov (.k (.bool true)))]
[4])
.ret)))⟩
theorem k_core_all_api_Free : chkF Tryz.prog Tryz.f194 c_core_all_api_Free = true := by kernel_rfl
abbrev pc_core_all_api_Free := @pcR n_core_all_api_Free _ _ Tryz.func194 k_core_all_api_Free
def c_core_all_api_Node : AFun := ⟨20, 2, [.t 4],
  (.seq (.reg [op 4 (.mov (.k (.bool false)))]
[0, 1])
(.seq (.seq (.reg [op 7 (.mov (.t 0)),op 8 (.len false (.t 7)),op 9 (.mov (.k (.int .i64 0)))]
[1, 7, 8, 9])
(.block 0
(.loop [1, 7, 8, 9] [8]
  (.seq (.reg [op 10 (.bin .lss (.t 9) (.t 8))]
[1, 7, 8, 9, 10])
(.seq (.cond (.t 10)
.skip
(.exit 0))
(.seq (.block 1
(.seq (.reg [op 11 (.mov (.t 9)),op 12 (.iaddr 7 (.t 7) (.t 9)),op 13 (.loadN (.t 12) 7),op 6 (.alloc t_api_Node 7 (.agg [.int .i64 0, .int .i64 0, .int .i64 0, .int .i64 0, .int .i64 0, .str [], .bool false])),op 5 (.mov (.t 11)),
⟨none, .store (.t 6) (.t 13) 7, none⟩]
[1, 5, 6, 7, 8, 9])
(.seq (.reg [op 14 (.mov (.t 1)),op 15 (.mov (.t 5)),op 16 (.loadN (.t 6) 7),op 17 (.callv (.t 14) [.t 15, .t 16]),op 18 (.un .not (.t 17))]
[1, 7, 8, 9, 18])
(.cond (.t 18)
(.seq (.reg [op 4 (.mov (.k (.bool false)))]
[4])
.ret)
.skip))))
(.reg [op 19 (.bin .add (.t 9) (.k (.int .i64 1))),op 9 (.mov (.t 19))]
[1, 7, 8, 9])))))))
(.seq (.reg [op 4 (.mov (.k (.bool true)))]
[4])
.ret)))⟩
theorem k_core_all_api_Node : chkF Tryz.prog Tryz.f202 c_core_all_api_Node = true := by kernel_rfl
abbrev pc_core_all_api_Node := @pcR n_core_all_api_Node _ _ Tryz.func202 k_core_all_api_Node
def c_core_all_api_Quant : AFun := ⟨20, 2, [.t 4],
  (.seq (.reg [op 4 (.mov (.k (.bool false)))]
[0, 1])
(.seq (.seq (.reg [op 7 (.mov (.t 0)),op 8 (.len false (.t 7)),op 9 (.mov (.k (.int .i64 0)))]
[1, 7, 8, 9])
(.block 0
(.loop [1, 7, 8, 9] [8]
  (.seq (.reg [op 10 (.bin .lss (.t 9) (.t 8))]
[1, 7, 8, 9, 10])
(.seq (.cond (.t 10)
.skip
(.exit 0))
(.seq (.block 1
(.seq (.reg [op 11 (.mov (.t 9)),op 12 (.iaddr 3 (.t 7) (.t 9)),op 13 (.loadN (.t 12) 3),op 6 (.alloc t_api_Quant 3 (.agg [.bool false, .str [], .int .i64 0])),op 5 (.mov (.t 11)),
⟨none, .store (.t 6) (.t 13) 3, none⟩]
[1, 5, 6, 7, 8, 9])
(.seq (.reg [op 14 (.mov (.t 1)),op 15 (.mov (.t 5)),op 16 (.loadN (.t 6) 3),op 17 (.callv (.t 14) [.t 15, .t 16]),op 18 (.un .not (.t 17))]
[1, 7, 8, 9, 18])
(.cond (.t 18)
(.seq (.reg [op 4 (.mov (.k (.bool false)))]
[4])
.ret)
.skip))))
(.reg [op 19 (.bin .add (.t 9) (.k (.int .i64 1))),op 9 (.mov (.t 19))]
[1, 7, 8, 9])))))))
(.seq (.reg [op 4 (.mov (.k (.bool true)))]
[4])
.ret)))⟩
theorem k_core_all_api_Quant : chkF Tryz.prog Tryz.f191 c_core_all_api_Quant = true := by kernel_rfl
abbrev pc_core_all_api_Quant := @pcR n_core_all_api_Quant _ _ Tryz.func191 k_core_all_api_Quant
def c_core_all_api_Set : AFun := ⟨20, 2, [.t 4],
  (.seq (.reg [op 4 (.mov (.k (.bool false)))]
[0, 1])
(.seq (.seq (.reg [op 7 (.mov (.t 0)),op 8 (.len false (.t 7)),op 9 (.mov (.k (.int .i64 0)))]
[1, 7, 8, 9])
(.block 0
(.loop [1, 7, 8, 9] [8]
  (.seq (.reg [op 10 (.bin .lss (.t 9) (.t 8))]
[1, 7, 8, 9, 10])
(.seq (.cond (.t 10)
.skip
(.exit 0))
(.seq (.block 1
(.seq (.reg [op 11 (.mov (.t 9)),op 12 (.iaddr 2 (.t 7) (.t 9)),op 13 (.loadN (.t 12) 2),op 6 (.alloc t_api_Set 2 (.agg [.int .i64 0, .int .i64 0])),op 5 (.mov (.t 11)),
⟨none, .store (.t 6) (.t 13) 2, none⟩]
[1, 5, 6, 7, 8, 9])
(.seq (.reg [op 14 (.mov (.t 1)),op 15 (.mov (.t 5)),op 16 (.loadN (.t 6) 2),op 17 (.callv (.t 14) [.t 15, .t 16]),op 18 (.un .not (.t 17))]
[1, 7, 8, 9, 18])
(.cond (.t 18)
(.seq (.reg [op 4 (.mov (.k (.bool false)))]
[4])
.ret)
.skip))))
(.reg [op 19 (.bin .add (.t 9) (.k (.int .i64 1))),op 9 (.mov (.t 19))]
[1, 7, 8, 9])))))))
(.seq (.reg [op 4 (.mov (.k (.bool true)))]
[4])
.ret)))⟩
theorem k_core_all_api_Set : chkF Tryz.prog Tryz.f201 c_core_all_api_Set = true := by kernel_rfl
def c_core_all_api_Symbol : AFun := ⟨20, 2, [.t 4],
  (.seq (.reg [op 4 (.mov (.k (.bool false)))]
[0, 1])
(.seq (.seq (.reg [op 7 (.mov (.t 0)),op 8 (.len false (.t 7)),op 9 (.mov (.k (.int .i64 0)))]
[1, 7, 8, 9])
(.block 0
(.loop [1, 7, 8, 9] [8]
  (.seq (.reg [op 10 (.bin .lss (.t 9) (.t 8))]
[1, 7, 8, 9, 10])
(.seq (.cond (.t 10)
.skip
(.exit 0))
(.seq (.block 1
(.seq (.reg [op 11 (.mov (.t 9)),op 12 (.iaddr 2 (.t 7) (.t 9)),op 13 (.loadN (.t 12) 2),op 6 (.alloc taS_ 2 (.agg [.int .i64 0, .nils])),op 5 (.mov (.t 11)),
⟨none, .store (.t 6) (.t 13) 2, none⟩]
[1, 5, 6, 7, 8, 9])
(.seq (.reg [op 14 (.mov (.t 1)),op 15 (.mov (.t 5)),op 16 (.loadN (.t 6) 2),op 17 (.callv (.t 14) [.t 15, .t 16]),op 18 (.un .not (.t 17))]
[1, 7, 8, 9, 18])
(.cond (.t 18)
(.seq (.reg [op 4 (.mov (.k (.bool false)))]
[4])
.ret)
.skip))))
(.reg [op 19 (.bin .add (.t 9) (.k (.int .i64 1))),op 9 (.mov (.t 19))]
[1, 7, 8, 9])))))))
(.seq (.reg [op 4 (.mov (.k (.bool true)))]
[4])
.ret)))⟩
theorem k_core_all_api_Symbol : chkF Tryz.prog Tryz.f212 c_core_all_api_Symbol = true := by kernel_rfl
abbrev pc_core_all_api_Symbol := @pcR n_core_all_api_Symbol _ _ Tryz.func212 k_core_all_api_Symbol
def c_core_all_api_Trans : AFun := ⟨20, 2, [.t 4],
  (.seq (.reg [op 4 (.mov (.k (.bool false)))]
[0, 1])
(.seq (.seq (.reg [op 7 (.mov (.t 0)),op 8 (.len false (.t 7)),op 9 (.mov (.k (.int .i64 0)))]
[1, 7, 8, 9])
(.block 0
(.loop [1, 7, 8, 9] [8]
  (.seq (.reg [op 10 (.bin .lss (.t 9) (.t 8))]
[1, 7, 8, 9, 10])
(.seq (.cond (.t 10)
.skip
(.exit 0))
(.seq (.block 1
(.seq (.reg [op 11 (.mov (.t 9)),op 12 (.iaddr 5 (.t 7) (.t 9)),op 13 (.loadN (.t 12) 5),op 6 (.alloc taT_ 5 (.agg [.int .i64 0, .int .i64 0, .int .i64 0, .int .i64 0, .nils])),op 5 (.mov (.t 11)),
⟨none, .store (.t 6) (.t 13) 5, none⟩]
[1, 5, 6, 7, 8, 9])
(.seq (.reg [op 14 (.mov (.t 1)),op 15 (.mov (.t 5)),op 16 (.loadN (.t 6) 5),op 17 (.callv (.t 14) [.t 15, .t 16]),op 18 (.un .not (.t 17))]
[1, 7, 8, 9, 18])
(.cond (.t 18)
(.seq (.reg [op 4 (.mov (.k (.bool false)))]
[4])
.ret)
.skip))))
(.reg [op 19 (.bin .add (.t 9) (.k (.int .i64 1))),op 9 (.mov (.t 19))]
[1, 7, 8, 9])))))))
(.seq (.reg [op 4 (.mov (.k (.bool true)))]
[4])
.ret)))⟩
theorem k_core_all_api_Trans : chkF Tryz.prog Tryz.f205 c_core_all_api_Trans = true := by kernel_rfl
def c_core_all_string : AFun := ⟨20, 2, [.t 4],
  (.seq (.reg [op 4 (.mov (.k (.bool false)))]
[0, 1])
(.seq (.seq (.reg [op 7 (.mov (.t 0)),op 8 (.len false (.t 7)),op 9 (.mov (.k (.int .i64 0)))]
[1, 7, 8, 9])
(.block 0
(.loop [1, 7, 8, 9] [8]
  (.seq (.reg [op 10 (.bin .lss (.t 9) (.t 8))]
[1, 7, 8, 9, 10])
(.seq (.cond (.t 10)
.skip
(.exit 0))
(.seq (.block 1
(.seq (.reg [op 11 (.mov (.t 9)),op 12 (.iaddr 1 (.t 7) (.t 9)),op 13 (.load (.t 12)),op 5 (.mov (.t 11)),op 6 (.mov (.t 13))]
[1, 5, 6, 7, 8, 9])
(.seq (.reg [op 14 (.mov (.t 1)),op 15 (.mov (.t 5)),op 16 (.mov (.t 6)),op 17 (.callv (.t 14) [.t 15, .t 16]),op 18 (.un .not (.t 17))]
[1, 7, 8, 9, 18])
(.cond (.t 18)
(.seq (.reg [op 4 (.mov (.k (.bool false)))]
[4])
.ret)
.skip))))
(.reg [op 19 (.bin .add (.t 9) (.k (.int .i64 1))),op 9 (.mov (.t 19))]
[1, 7, 8, 9])))))))
(.seq (.reg [op 4 (.mov (.k (.bool true)))]
[4])
.ret)))⟩
theorem k_core_all_string : chkF Tryz.prog Tryz.f247 c_core_all_string = true := by kernel_rfl
abbrev pc_core_all_string := @pcR n_core_all_string _ _ Tryz.func247 k_core_all_string
def c_core_arg : AFun := ⟨90, 3, [.t 6],
  (.seq (.reg [op 3 (.box taQ_ 9 (.t 0)),op 4 (.box t_api_Arg 6 (.t 1)),op 6 (.mov (.k (.bool false)))]
[2, 3, 4])
(.seq (.seq (.reg [op 7 (.faddr (.t 4) 0),op 8 (.load (.t 7))]
[2, 3, 4, 8])
(.block 0
(.seq (.reg [op 10 (.bin .eql (.t 8) (.k (.int .i64 1))),op 9 (.mov (.t 10))]
[2, 3, 4, 8, 9])
(.cond (.t 9)
(.seq (.reg [op 11 (.faddr (.t 4) 1),op 12 (.load (.t 11)),op 13 (.bin .eql (.t 12) (.k (.int .i64 0))),op 14 (.mov (.t 13)),
⟨some 15, .faddr (.t 4) 2, (some (14, true))⟩,
⟨some 16, .loadN (.t 15) 4, (some (14, true))⟩,
⟨some 17, .call n_value_Right [.t 16], (some (14, true))⟩,op 18 (.pick (.t 14) (.t 17) (.k (.bool false))),op 19 (.mov (.t 18)),
⟨some 20, .faddr (.t 4) 2, (some (19, true))⟩,
⟨some 21, .faddr (.t 20) 0, (some (19, true))⟩,
⟨some 22, .load (.t 21), (some (19, true))⟩,
⟨some 23, .mov (.t 2), (some (19, true))⟩,
⟨some 24, .bin .eql (.t 22) (.t 23), (some (19, true))⟩,op 25 (.pick (.t 19) (.t 24) (.k (.bool false))),op 6 (.mov (.t 25))]
[6])
.ret)
(.seq (.reg [op 27 (.bin .eql (.t 8) (.k (.int .i64 2))),op 26 (.mov (.t 27))]
[2, 3, 4, 8, 26])
(.cond (.t 26)
(.seq (.reg [op 28 (.faddr (.t 4) 1),op 29 (.load (.t 28)),op 30 (.bin .geq (.t 29) (.k (.int .i64 0))),op 31 (.mov (.t 30)),
⟨some 32, .faddr (.t 4) 1, (some (31, true))⟩,
⟨some 33, .load (.t 32), (some (31, true))⟩,
⟨some 34, .faddr (.t 3) 2, (some (31, true))⟩,
⟨some 35, .load (.t 34), (some (31, true))⟩,
⟨some 36, .len false (.t 35), (some (31, true))⟩,
⟨some 37, .bin .lss (.t 33) (.t 36), (some (31, true))⟩,op 38 (.pick (.t 31) (.t 37) (.k (.bool false))),op 39 (.mov (.t 38)),
⟨some 40, .faddr (.t 3) 2, (some (39, true))⟩,
⟨some 41, .load (.t 40), (some (39, true))⟩,
⟨some 42, .faddr (.t 4) 1, (some (39, true))⟩,
⟨some 43, .load (.t 42), (some (39, true))⟩,
⟨some 44, .iaddr 3 (.t 41) (.t 43), (some (39, true))⟩,
⟨some 45, .faddr (.t 44) 2, (some (39, true))⟩,
⟨some 46, .load (.t 45), (some (39, true))⟩,
⟨some 47, .mov (.t 2), (some (39, true))⟩,
⟨some 48, .bin .eql (.t 46) (.t 47), (some (39, true))⟩,op 49 (.pick (.t 39) (.t 48) (.k (.bool false))),op 50 (.mov (.t 49)),
⟨some 51, .faddr (.t 4) 2, (some (50, true))⟩,
⟨some 52, .loadN (.t 51) 4, (some (50, true))⟩,
⟨some 53, .build [.int .i64 0, .int .i64 0, .str [], .bool false] [], (some (50, true))⟩,
⟨some 54, .eqA false [0, 0, 1, 2] (.t 52) (.t 53), (some (50, true))⟩,op 55 (.pick (.t 50) (.t 54) (.k (.bool false))),op 6 (.mov (.t 55))]
[6])
.ret)
(.seq (.reg [op 57 (.bin .eql (.t 8) (.k (.int .i64 3))),op 56 (.mov (.t 57))]
[2, 3, 4, 56])
(.cond (.t 56)
(.seq (.reg [op 58 (.faddr (.t 4) 1),op 59 (.load (.t 58)),op 60 (.bin .geq (.t 59) (.k (.int .i64 0))),op 61 (.mov (.t 60)),
⟨some 62, .faddr (.t 4) 1, (some (61, true))⟩,
⟨some 63, .load (.t 62), (some (61, true))⟩,
⟨some 64, .faddr (.t 3) 3, (some (61, true))⟩,
⟨some 65, .load (.t 64), (some (61, true))⟩,
⟨some 66, .len false (.t 65), (some (61, true))⟩,
⟨some 67, .bin .lss (.t 63) (.t 66), (some (61, true))⟩,op 68 (.pick (.t 61) (.t 67) (.k (.bool false))),op 69 (.mov (.t 68)),
⟨some 70, .faddr (.t 3) 3, (some (69, true))⟩,
⟨some 71, .load (.t 70), (some (69, true))⟩,
⟨some 72, .faddr (.t 4) 1, (some (69, true))⟩,
⟨some 73, .load (.t 72), (some (69, true))⟩,
⟨some 74, .iaddr 5 (.t 71) (.t 73), (some (69, true))⟩,
⟨some 75, .faddr (.t 74) 1, (some (69, true))⟩,
⟨some 76, .faddr (.t 75) 0, (some (69, true))⟩,
⟨some 77, .load (.t 76), (some (69, true))⟩,
⟨some 78, .mov (.t 2), (some (69, true))⟩,
⟨some 79, .bin .eql (.t 77) (.t 78), (some (69, true))⟩,op 80 (.pick (.t 69) (.t 79) (.k (.bool false))),op 81 (.mov (.t 80)),
⟨some 82, .faddr (.t 4) 2, (some (81, true))⟩,
⟨some 83, .loadN (.t 82) 4, (some (81, true))⟩,
⟨some 84, .build [.int .i64 0, .int .i64 0, .str [], .bool false] [], (some (81, true))⟩,
⟨some 85, .eqA false [0, 0, 1, 2] (.t 83) (.t 84), (some (81, true))⟩,op 86 (.pick (.t 81) (.t 85) (.k (.bool false))),op 6 (.mov (.t 86))]
[6])
.ret)
.skip))))))))
(.seq (.reg [op 87 (.loadN (.t 4) 6),op 88 (.build [.int .i64 0, .int .i64 0, .int .i64 0, .int .i64 0, .str [], .bool false] [(0, 1, .k (.int .i64 4))]),op 89 (.eqA false [0, 0, 0, 0, 1, 2] (.t 87) (.t 88)),op 6 (.mov (.t 89))]
[6])
.ret)))⟩
theorem k_core_arg : chkF Tryz.prog Tryz.f254 c_core_arg = true := by kernel_rfl
abbrev pc_core_arg := @pcR n_core_arg _ _ Tryz.func254 k_core_arg
def c_core_exprs : AFun := ⟨147, 1, [.t 2],
  (.seq (.reg [op 1 (.box taQ_ 9 (.t 0)),op 2 (.nilrow tce_ 3)]
[1])
(.seq (.reg [op 10 (.faddr (.t 1) 7),op 11 (.load (.t 10)),op 12 (.len false (.t 11)),op 13 (.mks tce_ 3 24 (.agg [.int .i64 0, .int .i64 0, .int .i64 0]) (.t 12) (.t 12)),op 3 (.mov (.t 13))]
[1, 3])
(.seq (.seq (.reg [op 14 (.faddr (.t 1) 7),op 15 (.load (.t 14)),op 16 (.len false (.t 15)),op 17 (.mov (.k (.int .i64 0)))]
[1, 3, 15, 16, 17])
(.block 0
(.loop [1, 3, 15, 16, 17] [1, 2, 12, 13, 16]
  (.seq (.reg [op 18 (.bin .lss (.t 17) (.t 16))]
[1, 3, 15, 16, 17, 18])
(.seq (.cond (.t 18)
.skip
(.exit 0))
(.seq (.block 1
(.seq (.reg [op 19 (.mov (.t 17)),op 20 (.iaddr 7 (.t 15) (.t 17)),op 21 (.loadN (.t 20) 7),op 5 (.alloc t_api_Node 7 (.agg [.int .i64 0, .int .i64 0, .int .i64 0, .int .i64 0, .int .i64 0, .str [], .bool false])),op 4 (.mov (.t 19)),
⟨none, .store (.t 5) (.t 21) 7, none⟩]
[1, 3, 4, 5, 15, 16, 17])
(.seq (.seq (.reg [op 23 (.loadN (.t 1) 9),op 24 (.mov (.t 4)),op 25 (.call n_core_leaf [.t 23, .t 24]),op 22 (.mov (.t 25)),op 26 (.ext (.t 22) 0),op 27 (.ext (.t 22) 1),op 6 (.alloc tce_ 3 (.agg [.int .i64 0, .int .i64 0, .int .i64 0])),
⟨none, .store (.t 6) (.t 26) 3, none⟩,op 7 (.mov (.t 27))]
[1, 3, 4, 5, 6, 7, 15, 16, 17])
(.seq (.reg [op 28 (.mov (.t 7))]
[1, 3, 4, 5, 6, 15, 16, 17, 28])
(.cond (.t 28)
(.seq (.reg [op 29 (.mov (.t 3)),op 30 (.mov (.t 4)),op 31 (.loadN (.t 6) 3),op 32 (.iaddr 3 (.t 29) (.t 30)),
⟨none, .store (.t 32) (.t 31) 3, none⟩]
[1, 3, 15, 16, 17])
(.exit 1))
.skip)))
(.seq (.seq (.reg [op 33 (.faddr (.t 5) 0),op 34 (.load (.t 33)),op 35 (.bin .lss (.t 34) (.k (.int .i64 4))),op 36 (.mov (.t 35)),
⟨some 37, .faddr (.t 5) 0, (some (36, false))⟩,
⟨some 38, .load (.t 37), (some (36, false))⟩,
⟨some 39, .bin .gtr (.t 38) (.k (.int .i64 16)), (some (36, false))⟩,op 40 (.pick (.t 36) (.k (.bool true)) (.t 39)),op 41 (.mov (.t 40)),
⟨some 42, .mov (.t 4), (some (41, false))⟩,
⟨some 43, .bin .eql (.t 42) (.k (.int .i64 0)), (some (41, false))⟩,op 44 (.pick (.t 41) (.k (.bool true)) (.t 43)),op 45 (.mov (.t 44)),
⟨some 46, .mov (.t 3), (some (45, false))⟩,
⟨some 47, .mov (.t 4), (some (45, false))⟩,
⟨some 48, .bin .sub (.t 47) (.k (.int .i64 1)), (some (45, false))⟩,
⟨some 49, .iaddr 3 (.t 46) (.t 48), (some (45, false))⟩,
⟨some 50, .faddr (.t 49) 0, (some (45, false))⟩,
⟨some 51, .load (.t 50), (some (45, false))⟩,
⟨some 52, .bin .eql (.t 51) (.k (.int .i64 0)), (some (45, false))⟩,op 53 (.pick (.t 45) (.k (.bool true)) (.t 52)),op 54 (.mov (.t 53)),
⟨some 55, .faddr (.t 5) 3, (some (54, false))⟩,
⟨some 56, .loadN (.t 55) 4, (some (54, false))⟩,
⟨some 57, .build [.int .i64 0, .int .i64 0, .str [], .bool false] [], (some (54, false))⟩,
⟨some 58, .eqA true [0, 0, 1, 2] (.t 56) (.t 57), (some (54, false))⟩,op 59 (.pick (.t 54) (.k (.bool true)) (.t 58))]
[1, 3, 4, 5, 15, 16, 17, 59])
(.cond (.t 59)
(.exit 1)
.skip))
(.seq (.reg [op 60 (.mov (.t 3)),op 61 (.mov (.t 4)),op 62 (.bin .sub (.t 61) (.k (.int .i64 1))),op 63 (.iaddr 3 (.t 60) (.t 62)),op 64 (.loadN (.t 63) 3),op 8 (.alloc tce_ 3 (.agg [.int .i64 0, .int .i64 0, .int .i64 0])),
⟨none, .store (.t 8) (.t 64) 3, none⟩]
[1, 3, 4, 5, 8, 15, 16, 17])
(.seq (.seq (.reg [op 65 (.faddr (.t 5) 0),op 66 (.load (.t 65)),op 67 (.bin .leq (.t 66) (.k (.int .i64 5)))]
[1, 3, 4, 5, 8, 15, 16, 17, 67])
(.cond (.t 67)
(.seq (.seq (.reg [op 68 (.faddr (.t 5) 1),op 69 (.load (.t 68)),op 70 (.mov (.t 4)),op 71 (.bin .sub (.t 70) (.k (.int .i64 1))),op 72 (.bin .eql (.t 69) (.t 71)),op 73 (.mov (.t 72)),
⟨some 74, .faddr (.t 5) 2, (some (73, true))⟩,
⟨some 75, .load (.t 74), (some (73, true))⟩,
⟨some 76, .bin .eql (.t 75) (.k (.int .i64 0)), (some (73, true))⟩,op 77 (.pick (.t 73) (.t 76) (.k (.bool false)))]
[1, 3, 4, 5, 8, 15, 16, 17, 77])
(.cond (.t 77)
(.dreg [op 78 (.mov (.t 3)),op 79 (.mov (.t 4)),op 80 (.faddr (.t 5) 0),op 81 (.load (.t 80)),op 82 (.faddr (.t 8) 0),op 83 (.load (.t 82)),op 84 (.faddr (.t 8) 0),op 85 (.load (.t 84)),op 86 (.call n_value_Type [.t 81, .t 83, .t 85]),op 87 (.faddr (.t 8) 1),op 88 (.load (.t 87)),op 89 (.bin .add (.t 88) (.k (.int .i64 1))),op 90 (.faddr (.t 8) 2),op 91 (.load (.t 90)),op 92 (.build [.int .i64 0, .int .i64 0, .int .i64 0] [(0, 1, .t 86), (1, 1, .t 89), (2, 1, .t 91)]),op 93 (.iaddr 3 (.t 78) (.t 79)),
⟨none, .store (.t 93) (.t 92) 3, none⟩]
[1, 3, 15, 16, 17])
.skip))
(.exit 1))
.skip))
(.seq (.reg [op 94 (.faddr (.t 5) 2),op 95 (.load (.t 94)),op 96 (.mov (.t 4)),op 97 (.bin .sub (.t 96) (.k (.int .i64 1))),op 98 (.bin .eql (.t 95) (.t 97)),op 99 (.mov (.t 98)),
⟨some 100, .faddr (.t 5) 1, (some (99, true))⟩,
⟨some 101, .load (.t 100), (some (99, true))⟩,
⟨some 102, .faddr (.t 8) 2, (some (99, true))⟩,
⟨some 103, .load (.t 102), (some (99, true))⟩,
⟨some 104, .bin .sub (.t 103) (.k (.int .i64 1)), (some (99, true))⟩,
⟨some 105, .bin .eql (.t 101) (.t 104), (some (99, true))⟩,op 106 (.pick (.t 99) (.t 105) (.k (.bool false))),op 107 (.mov (.t 106)),
⟨some 108, .faddr (.t 5) 1, (some (107, true))⟩,
⟨some 109, .load (.t 108), (some (107, true))⟩,
⟨some 110, .bin .geq (.t 109) (.k (.int .i64 0)), (some (107, true))⟩,op 111 (.pick (.t 107) (.t 110) (.k (.bool false))),op 112 (.mov (.t 111)),
⟨some 113, .mov (.t 3), (some (112, true))⟩,
⟨some 114, .faddr (.t 5) 1, (some (112, true))⟩,
⟨some 115, .load (.t 114), (some (112, true))⟩,
⟨some 116, .iaddr 3 (.t 113) (.t 115), (some (112, true))⟩,
⟨some 117, .faddr (.t 116) 0, (some (112, true))⟩,
⟨some 118, .load (.t 117), (some (112, true))⟩,
⟨some 119, .bin .neq (.t 118) (.k (.int .i64 0)), (some (112, true))⟩,op 120 (.pick (.t 112) (.t 119) (.k (.bool false)))]
[1, 3, 4, 5, 8, 15, 16, 17, 120])
(.cond (.t 120)
(.seq (.reg [op 121 (.mov (.t 3)),op 122 (.faddr (.t 5) 1),op 123 (.load (.t 122)),op 124 (.iaddr 3 (.t 121) (.t 123)),op 125 (.loadN (.t 124) 3),op 9 (.alloc tce_ 3 (.agg [.int .i64 0, .int .i64 0, .int .i64 0])),
⟨none, .store (.t 9) (.t 125) 3, none⟩]
[1, 3, 4, 5, 8, 9, 15, 16, 17])
(.dreg [op 126 (.mov (.t 3)),op 127 (.mov (.t 4)),op 128 (.faddr (.t 5) 0),op 129 (.load (.t 128)),op 130 (.faddr (.t 9) 0),op 131 (.load (.t 130)),op 132 (.faddr (.t 8) 0),op 133 (.load (.t 132)),op 134 (.call n_value_Type [.t 129, .t 131, .t 133]),op 135 (.faddr (.t 9) 1),op 136 (.load (.t 135)),op 137 (.faddr (.t 8) 1),op 138 (.load (.t 137)),op 139 (.mx false (.t 136) (.t 138)),op 140 (.bin .add (.t 139) (.k (.int .i64 1))),op 141 (.faddr (.t 9) 2),op 142 (.load (.t 141)),op 143 (.build [.int .i64 0, .int .i64 0, .int .i64 0] [(0, 1, .t 134), (1, 1, .t 140), (2, 1, .t 142)]),op 144 (.iaddr 3 (.t 126) (.t 127)),
⟨none, .store (.t 144) (.t 143) 3, none⟩]
[1, 3, 15, 16, 17]))
.skip))))))))
(.reg [op 145 (.bin .add (.t 17) (.k (.int .i64 1))),op 17 (.mov (.t 145))]
[1, 3, 15, 16, 17])))))))
(.seq (.reg [op 146 (.mov (.t 3)),op 2 (.mov (.t 146))]
[2])
.ret))))⟩
theorem k_core_exprs : chkF Tryz.prog Tryz.f196 c_core_exprs = true := by kernel_rfl
abbrev pc_core_exprs := @pcR n_core_exprs _ _ Tryz.func196 k_core_exprs
def c_core_few : AFun := ⟨37, 1, [.t 2],
  (.seq (.reg [op 1 (.box taQ_ 9 (.t 0)),op 2 (.mov (.k (.bool false)))]
[1])
(.seq (.reg [op 3 (.faddr (.t 1) 2),op 4 (.load (.t 3)),op 5 (.len false (.t 4)),op 6 (.bin .leq (.t 5) (.k (.int .i64 8))),op 7 (.mov (.t 6)),
⟨some 8, .faddr (.t 1) 3, (some (7, true))⟩,
⟨some 9, .load (.t 8), (some (7, true))⟩,
⟨some 10, .len false (.t 9), (some (7, true))⟩,
⟨some 11, .bin .leq (.t 10) (.k (.int .i64 16)), (some (7, true))⟩,op 12 (.pick (.t 7) (.t 11) (.k (.bool false))),op 13 (.mov (.t 12)),
⟨some 14, .faddr (.t 1) 4, (some (13, true))⟩,
⟨some 15, .load (.t 14), (some (13, true))⟩,
⟨some 16, .len false (.t 15), (some (13, true))⟩,
⟨some 17, .bin .leq (.t 16) (.k (.int .i64 32)), (some (13, true))⟩,op 18 (.pick (.t 13) (.t 17) (.k (.bool false))),op 19 (.mov (.t 18)),
⟨some 20, .faddr (.t 1) 6, (some (19, true))⟩,
⟨some 21, .load (.t 20), (some (19, true))⟩,
⟨some 22, .len false (.t 21), (some (19, true))⟩,
⟨some 23, .bin .leq (.t 22) (.k (.int .i64 64)), (some (19, true))⟩,op 24 (.pick (.t 19) (.t 23) (.k (.bool false))),op 25 (.mov (.t 24)),
⟨some 26, .faddr (.t 1) 7, (some (25, true))⟩,
⟨some 27, .load (.t 26), (some (25, true))⟩,
⟨some 28, .len false (.t 27), (some (25, true))⟩,
⟨some 29, .bin .leq (.t 28) (.k (.int .i64 2048)), (some (25, true))⟩,op 30 (.pick (.t 25) (.t 29) (.k (.bool false))),op 31 (.mov (.t 30)),
⟨some 32, .faddr (.t 1) 8, (some (31, true))⟩,
⟨some 33, .load (.t 32), (some (31, true))⟩,
⟨some 34, .len false (.t 33), (some (31, true))⟩,
⟨some 35, .bin .leq (.t 34) (.k (.int .i64 256)), (some (31, true))⟩,op 36 (.pick (.t 31) (.t 35) (.k (.bool false))),op 2 (.mov (.t 36))]
[2])
.ret))⟩
theorem k_core_few : chkF Tryz.prog Tryz.f128 c_core_few = true := by kernel_rfl
abbrev pc_core_few := @pcR n_core_few _ _ Tryz.func128 k_core_few
def c_core_head : AFun := ⟨96, 1, [.t 2],
  (.seq (.reg [op 1 (.box taQ_ 9 (.t 0)),op 2 (.mov (.k (.bool false)))]
[1])
(.seq (.reg [op 3 (.nilrow ts_ 1),op 4 (.nilrow ts_ 1)]
[1, 3, 4])
(.seq (.seq (.reg [op 13 (.faddr (.t 1) 2),op 14 (.load (.t 13)),op 15 (.len false (.t 14)),op 16 (.mov (.k (.int .i64 0)))]
[1, 3, 4, 14, 15, 16])
(.block 0
(.loop [1, 3, 4, 14, 15, 16] [1, 3, 4, 15, 24]
  (.seq (.reg [op 17 (.bin .lss (.t 16) (.t 15))]
[1, 3, 4, 14, 15, 16, 17])
(.seq (.cond (.t 17)
.skip
(.exit 0))
(.seq (.block 1
(.seq (.reg [op 18 (.iaddr 3 (.t 14) (.t 16)),op 19 (.loadN (.t 18) 3),op 6 (.alloc t_api_Quant 3 (.agg [.bool false, .str [], .int .i64 0])),
⟨none, .store (.t 6) (.t 19) 3, none⟩]
[1, 3, 4, 6, 14, 15, 16])
(.reg [op 20 (.mov (.t 3)),op 21 (.faddr (.t 6) 1),op 22 (.load (.t 21)),op 23 (.mkrow ts_ 1 1 (.str []) [(0, .t 22)]),op 24 (.app ts_ 1 16 (.t 20) (.t 23)),op 3 (.mov (.t 24))]
[1, 3, 4, 14, 15, 16])))
(.reg [op 25 (.bin .add (.t 16) (.k (.int .i64 1))),op 16 (.mov (.t 25))]
[1, 3, 4, 14, 15, 16])))))))
(.seq (.seq (.reg [op 26 (.faddr (.t 1) 3),op 27 (.load (.t 26)),op 28 (.len false (.t 27)),op 29 (.mov (.k (.int .i64 0)))]
[1, 3, 4, 27, 28, 29])
(.block 2
(.loop [1, 3, 4, 27, 28, 29] [1, 3, 4, 15, 6, 23, 24, 28, 37]
  (.seq (.reg [op 30 (.bin .lss (.t 29) (.t 28))]
[1, 3, 4, 27, 28, 29, 30])
(.seq (.cond (.t 30)
.skip
(.exit 2))
(.seq (.block 3
(.seq (.reg [op 31 (.iaddr 5 (.t 27) (.t 29)),op 32 (.loadN (.t 31) 5),op 8 (.alloc t_api_Free 5 (.agg [.str [], .int .i64 0, .int .i64 0, .str [], .bool false])),
⟨none, .store (.t 8) (.t 32) 5, none⟩]
[1, 3, 4, 8, 27, 28, 29])
(.reg [op 33 (.mov (.t 3)),op 34 (.faddr (.t 8) 0),op 35 (.load (.t 34)),op 36 (.mkrow ts_ 1 1 (.str []) [(0, .t 35)]),op 37 (.app ts_ 1 16 (.t 33) (.t 36)),op 3 (.mov (.t 37))]
[1, 3, 4, 27, 28, 29])))
(.reg [op 38 (.bin .add (.t 29) (.k (.int .i64 1))),op 29 (.mov (.t 38))]
[1, 3, 4, 27, 28, 29])))))))
(.seq (.seq (.reg [op 39 (.faddr (.t 1) 4),op 40 (.load (.t 39)),op 41 (.len false (.t 40)),op 42 (.mov (.k (.int .i64 0)))]
[1, 3, 4, 40, 41, 42])
(.block 4
(.loop [1, 3, 4, 40, 41, 42] [1, 3, 4, 15, 6, 23, 24, 28, 8, 36, 37, 41, 50]
  (.seq (.reg [op 43 (.bin .lss (.t 42) (.t 41))]
[1, 3, 4, 40, 41, 42, 43])
(.seq (.cond (.t 43)
.skip
(.exit 4))
(.seq (.block 5
(.seq (.reg [op 44 (.iaddr 3 (.t 40) (.t 42)),op 45 (.loadN (.t 44) 3),op 10 (.alloc t_api_State 3 (.agg [.str [], .bool false, .bool false])),
⟨none, .store (.t 10) (.t 45) 3, none⟩]
[1, 3, 4, 10, 40, 41, 42])
(.reg [op 46 (.mov (.t 4)),op 47 (.faddr (.t 10) 0),op 48 (.load (.t 47)),op 49 (.mkrow ts_ 1 1 (.str []) [(0, .t 48)]),op 50 (.app ts_ 1 16 (.t 46) (.t 49)),op 4 (.mov (.t 50))]
[1, 3, 4, 40, 41, 42])))
(.reg [op 51 (.bin .add (.t 42) (.k (.int .i64 1))),op 42 (.mov (.t 51))]
[1, 3, 4, 40, 41, 42])))))))
(.seq (.reg [op 53 (.faddr (.t 1) 1),op 54 (.load (.t 53)),op 55 (.call n_schema_Check [.t 54]),op 52 (.mov (.t 55)),op 56 (.ext (.t 52) 0),op 57 (.ext (.t 52) 1),op 11 (.mov (.t 56)),op 12 (.mov (.t 57))]
[1, 3, 4, 12])
(.seq (.reg [op 58 (.mov (.t 12)),op 59 (.bin .eql (.t 58) (.k (.int .i64 0))),op 60 (.mov (.t 59)),
⟨some 61, .faddr (.t 1) 0, (some (60, true))⟩,
⟨some 62, .load (.t 61), (some (60, true))⟩,
⟨some 63, .call n_schema_Name [.t 62], (some (60, true))⟩,op 64 (.pick (.t 60) (.t 63) (.k (.bool false))),op 65 (.mov (.t 64)),
⟨some 66, .mov (.t 3), (some (65, true))⟩,
⟨some 67, .call n_core_names [.t 66], (some (65, true))⟩,op 68 (.pick (.t 65) (.t 67) (.k (.bool false))),op 69 (.mov (.t 68)),
⟨some 70, .mov (.t 4), (some (69, true))⟩,
⟨some 71, .call n_core_names [.t 70], (some (69, true))⟩,op 72 (.pick (.t 69) (.t 71) (.k (.bool false))),op 73 (.mov (.t 72)),
⟨some 74, .faddr (.t 1) 2, (some (73, true))⟩,
⟨some 75, .load (.t 74), (some (73, true))⟩,
⟨some 76, .call n_core_all_api_Quant [.t 75, .f n_core_head_1], (some (73, true))⟩,op 77 (.pick (.t 73) (.t 76) (.k (.bool false))),op 78 (.mov (.t 77)),
⟨some 79, .faddr (.t 1) 3, (some (78, true))⟩,
⟨some 80, .load (.t 79), (some (78, true))⟩,
⟨some 81, .call n_core_all_api_Free [.t 80, .f n_core_head_2], (some (78, true))⟩,op 82 (.pick (.t 78) (.t 81) (.k (.bool false))),op 83 (.mov (.t 82)),
⟨some 84, .faddr (.t 1) 5, (some (83, true))⟩,
⟨some 85, .load (.t 84), (some (83, true))⟩,
⟨some 86, .bin .geq (.t 85) (.k (.int .i64 0)), (some (83, true))⟩,op 87 (.pick (.t 83) (.t 86) (.k (.bool false))),op 88 (.mov (.t 87)),
⟨some 89, .faddr (.t 1) 5, (some (88, true))⟩,
⟨some 90, .load (.t 89), (some (88, true))⟩,
⟨some 91, .faddr (.t 1) 4, (some (88, true))⟩,
⟨some 92, .load (.t 91), (some (88, true))⟩,
⟨some 93, .len false (.t 92), (some (88, true))⟩,
⟨some 94, .bin .lss (.t 90) (.t 93), (some (88, true))⟩,op 95 (.pick (.t 88) (.t 94) (.k (.bool false))),op 2 (.mov (.t 95))]
[2])
.ret)))))))⟩
theorem k_core_head : chkF Tryz.prog Tryz.f129 c_core_head = true := by kernel_rfl
abbrev pc_core_head := @pcR n_core_head _ _ Tryz.func129 k_core_head
def c_core_head_1 : AFun := ⟨9, 2, [.t 4],
  (.seq (.reg [op 3 (.box t_api_Quant 3 (.t 1)),op 4 (.mov (.k (.bool false)))]
[3])
(.seq (.reg [op 5 (.faddr (.t 3) 2),op 6 (.load (.t 5)),op 7 (.call n_value_Name [.t 6]),op 8 (.bin .neq (.t 7) (.k (.str []))),op 4 (.mov (.t 8))]
[4])
.ret))⟩
theorem k_core_head_1 : chkF Tryz.prog Tryz.f192 c_core_head_1 = true := by kernel_rfl
abbrev pc_core_head_1 := @pcR n_core_head_1 _ _ Tryz.func192 k_core_head_1
def c_core_head_2 : AFun := ⟨8, 2, [.t 4],
  (.seq (.reg [op 3 (.box t_api_Free 5 (.t 1)),op 4 (.mov (.k (.bool false)))]
[3])
(.seq (.reg [op 5 (.faddr (.t 3) 1),op 6 (.loadN (.t 5) 4),op 7 (.call n_value_Right [.t 6]),op 4 (.mov (.t 7))]
[4])
.ret))⟩
theorem k_core_head_2 : chkF Tryz.prog Tryz.f195 c_core_head_2 = true := by kernel_rfl
abbrev pc_core_head_2 := @pcR n_core_head_2 _ _ Tryz.func195 k_core_head_2
def c_core_leaf : AFun := ⟨105, 2, [.cells 4 3, .t 5],
  (.seq (.reg [op 2 (.box taQ_ 9 (.t 0)),op 4 (.alloc tce_ 3 (.agg [.int .i64 0, .int .i64 0, .int .i64 0])),op 5 (.mov (.k (.bool false)))]
[1, 2, 4])
(.seq (.reg [op 8 (.faddr (.t 2) 7),op 9 (.load (.t 8)),op 10 (.mov (.t 1)),op 11 (.iaddr 7 (.t 9) (.t 10)),op 12 (.loadN (.t 11) 7),op 6 (.alloc t_api_Node 7 (.agg [.int .i64 0, .int .i64 0, .int .i64 0, .int .i64 0, .int .i64 0, .str [], .bool false])),
⟨none, .store (.t 6) (.t 12) 7, none⟩]
[1, 2, 4, 6])
(.seq (.reg [op 13 (.faddr (.t 6) 0),op 14 (.load (.t 13)),op 15 (.faddr (.t 6) 1),op 16 (.load (.t 15)),op 17 (.build [.int .i64 0, .int .i64 0, .int .i64 0, .int .i64 0, .int .i64 0, .str [], .bool false] [(0, 1, .t 14), (1, 1, .t 16)]),op 7 (.alloc t_api_Node 7 (.agg [.int .i64 0, .int .i64 0, .int .i64 0, .int .i64 0, .int .i64 0, .str [], .bool false])),
⟨none, .store (.t 7) (.t 17) 7, none⟩]
[1, 2, 4, 6, 7])
(.seq (.block 0
(.seq (.reg [op 19 (.faddr (.t 6) 0),op 20 (.load (.t 19)),op 21 (.bin .eql (.t 20) (.k (.int .i64 1))),op 22 (.mov (.t 21)),
⟨some 23, .loadN (.t 6) 7, (some (22, true))⟩,
⟨some 24, .faddr (.t 6) 0, (some (22, true))⟩,
⟨some 25, .load (.t 24), (some (22, true))⟩,
⟨some 26, .faddr (.t 6) 3, (some (22, true))⟩,
⟨some 27, .loadN (.t 26) 4, (some (22, true))⟩,
⟨some 28, .build [.int .i64 0, .int .i64 0, .int .i64 0, .int .i64 0, .int .i64 0, .str [], .bool false] [(0, 1, .t 25), (3, 4, .t 27)], (some (22, true))⟩,
⟨some 29, .eqA false [0, 0, 0, 0, 0, 1, 2] (.t 23) (.t 28), (some (22, true))⟩,op 30 (.pick (.t 22) (.t 29) (.k (.bool false))),op 31 (.mov (.t 30)),
⟨some 32, .faddr (.t 6) 3, (some (31, true))⟩,
⟨some 33, .loadN (.t 32) 4, (some (31, true))⟩,
⟨some 34, .call n_value_Right [.t 33], (some (31, true))⟩,op 35 (.pick (.t 31) (.t 34) (.k (.bool false))),op 18 (.mov (.t 35))]
[1, 2, 4, 6, 7, 18])
(.cond (.t 18)
(.seq (.reg [op 36 (.faddr (.t 6) 3),op 37 (.faddr (.t 36) 0),op 38 (.load (.t 37)),op 39 (.mov (.t 1)),op 40 (.build [.int .i64 0, .int .i64 0, .int .i64 0] [(0, 1, .t 38), (1, 1, .k (.int .i64 1)), (2, 1, .t 39)]),
⟨none, .store (.t 4) (.t 40) 3, none⟩,op 5 (.mov (.k (.bool true)))]
[4, 5])
.ret)
(.seq (.reg [op 42 (.faddr (.t 6) 0),op 43 (.load (.t 42)),op 44 (.bin .eql (.t 43) (.k (.int .i64 2))),op 45 (.mov (.t 44)),
⟨some 46, .loadN (.t 6) 7, (some (45, true))⟩,
⟨some 47, .loadN (.t 7) 7, (some (45, true))⟩,
⟨some 48, .eqA false [0, 0, 0, 0, 0, 1, 2] (.t 46) (.t 47), (some (45, true))⟩,op 49 (.pick (.t 45) (.t 48) (.k (.bool false))),op 50 (.mov (.t 49)),
⟨some 51, .faddr (.t 6) 1, (some (50, true))⟩,
⟨some 52, .load (.t 51), (some (50, true))⟩,
⟨some 53, .bin .geq (.t 52) (.k (.int .i64 0)), (some (50, true))⟩,op 54 (.pick (.t 50) (.t 53) (.k (.bool false))),op 55 (.mov (.t 54)),
⟨some 56, .faddr (.t 6) 1, (some (55, true))⟩,
⟨some 57, .load (.t 56), (some (55, true))⟩,
⟨some 58, .faddr (.t 2) 2, (some (55, true))⟩,
⟨some 59, .load (.t 58), (some (55, true))⟩,
⟨some 60, .len false (.t 59), (some (55, true))⟩,
⟨some 61, .bin .lss (.t 57) (.t 60), (some (55, true))⟩,op 62 (.pick (.t 55) (.t 61) (.k (.bool false))),op 41 (.mov (.t 62))]
[1, 2, 4, 6, 7, 41])
(.cond (.t 41)
(.seq (.reg [op 63 (.faddr (.t 2) 2),op 64 (.load (.t 63)),op 65 (.faddr (.t 6) 1),op 66 (.load (.t 65)),op 67 (.iaddr 3 (.t 64) (.t 66)),op 68 (.faddr (.t 67) 2),op 69 (.load (.t 68)),op 70 (.mov (.t 1)),op 71 (.build [.int .i64 0, .int .i64 0, .int .i64 0] [(0, 1, .t 69), (1, 1, .k (.int .i64 1)), (2, 1, .t 70)]),
⟨none, .store (.t 4) (.t 71) 3, none⟩,op 5 (.mov (.k (.bool true)))]
[4, 5])
.ret)
(.seq (.reg [op 73 (.faddr (.t 6) 0),op 74 (.load (.t 73)),op 75 (.bin .eql (.t 74) (.k (.int .i64 3))),op 76 (.mov (.t 75)),
⟨some 77, .loadN (.t 6) 7, (some (76, true))⟩,
⟨some 78, .loadN (.t 7) 7, (some (76, true))⟩,
⟨some 79, .eqA false [0, 0, 0, 0, 0, 1, 2] (.t 77) (.t 78), (some (76, true))⟩,op 80 (.pick (.t 76) (.t 79) (.k (.bool false))),op 81 (.mov (.t 80)),
⟨some 82, .faddr (.t 6) 1, (some (81, true))⟩,
⟨some 83, .load (.t 82), (some (81, true))⟩,
⟨some 84, .bin .geq (.t 83) (.k (.int .i64 0)), (some (81, true))⟩,op 85 (.pick (.t 81) (.t 84) (.k (.bool false))),op 86 (.mov (.t 85)),
⟨some 87, .faddr (.t 6) 1, (some (86, true))⟩,
⟨some 88, .load (.t 87), (some (86, true))⟩,
⟨some 89, .faddr (.t 2) 3, (some (86, true))⟩,
⟨some 90, .load (.t 89), (some (86, true))⟩,
⟨some 91, .len false (.t 90), (some (86, true))⟩,
⟨some 92, .bin .lss (.t 88) (.t 91), (some (86, true))⟩,op 93 (.pick (.t 86) (.t 92) (.k (.bool false))),op 72 (.mov (.t 93))]
[1, 2, 4, 6, 72])
(.cond (.t 72)
(.seq (.reg [op 94 (.faddr (.t 2) 3),op 95 (.load (.t 94)),op 96 (.faddr (.t 6) 1),op 97 (.load (.t 96)),op 98 (.iaddr 5 (.t 95) (.t 97)),op 99 (.faddr (.t 98) 1),op 100 (.faddr (.t 99) 0),op 101 (.load (.t 100)),op 102 (.mov (.t 1)),op 103 (.build [.int .i64 0, .int .i64 0, .int .i64 0] [(0, 1, .t 101), (1, 1, .k (.int .i64 1)), (2, 1, .t 102)]),
⟨none, .store (.t 4) (.t 103) 3, none⟩,op 5 (.mov (.k (.bool true)))]
[4, 5])
.ret)
.skip)))))))
(.seq (.reg [op 104 (.build [.int .i64 0, .int .i64 0, .int .i64 0] []),
⟨none, .store (.t 4) (.t 104) 3, none⟩,op 5 (.mov (.k (.bool false)))]
[4, 5])
.ret)))))⟩
theorem k_core_leaf : chkF Tryz.prog Tryz.f250 c_core_leaf = true := by kernel_rfl
abbrev pc_core_leaf := @pcR n_core_leaf _ _ Tryz.func250 k_core_leaf
def c_core_names : AFun := ⟨6, 1, [.t 2],
  (.seq (.reg [op 1 (.box t_Sstring 1 (.t 0)),op 2 (.mov (.k (.bool false)))]
[1])
(.seq (.reg [op 3 (.load (.t 1)),op 4 (.mkfn n_core_names_1 [.t 1]),op 5 (.call n_core_all_string [.t 3, .t 4]),op 2 (.mov (.t 5))]
[2])
.ret))⟩
theorem k_core_names : chkF Tryz.prog Tryz.f190 c_core_names = true := by kernel_rfl
abbrev pc_core_names := @pcR n_core_names _ _ Tryz.func190 k_core_names
def c_core_names_1 : AFun := ⟨15, 3, [.t 5],
  (.seq (.reg [op 5 (.mov (.k (.bool false)))]
[0, 1, 2])
(.seq (.reg [op 6 (.mov (.t 1)),op 7 (.call n_schema_Name [.t 6]),op 8 (.mov (.t 7)),
⟨some 9, .load (.t 2), (some (8, true))⟩,
⟨some 10, .mov (.t 1), (some (8, true))⟩,
⟨some 11, .call nsIss_ [.t 9, .t 10], (some (8, true))⟩,
⟨some 12, .mov (.t 0), (some (8, true))⟩,
⟨some 13, .bin .eql (.t 11) (.t 12), (some (8, true))⟩,op 14 (.pick (.t 8) (.t 13) (.k (.bool false))),op 5 (.mov (.t 14))]
[5])
.ret))⟩
theorem k_core_names_1 : chkF Tryz.prog Tryz.f248 c_core_names_1 = true := by kernel_rfl
abbrev pc_core_names_1 := @pcR n_core_names_1 _ _ Tryz.func248 k_core_names_1
def c_core_sameSymbol : AFun := ⟨17, 2, [.t 4],
  (.seq (.reg [op 2 (.box taS_ 2 (.t 0)),op 3 (.box taS_ 2 (.t 1)),op 4 (.mov (.k (.bool false)))]
[2, 3])
(.seq (.reg [op 5 (.faddr (.t 2) 0),op 6 (.load (.t 5)),op 7 (.faddr (.t 3) 0),op 8 (.load (.t 7)),op 9 (.bin .eql (.t 6) (.t 8)),op 10 (.mov (.t 9)),
⟨some 11, .faddr (.t 2) 1, (some (10, true))⟩,
⟨some 12, .load (.t 11), (some (10, true))⟩,
⟨some 13, .faddr (.t 3) 1, (some (10, true))⟩,
⟨some 14, .load (.t 13), (some (10, true))⟩,
⟨some 15, .call nsEaAaA_ [.t 12, .t 14], (some (10, true))⟩,op 16 (.pick (.t 10) (.t 15) (.k (.bool false))),op 4 (.mov (.t 16))]
[4])
.ret))⟩
theorem k_core_sameSymbol : chkF Tryz.prog Tryz.f209 c_core_sameSymbol = true := by kernel_rfl
abbrev pc_core_sameSymbol := @pcR n_core_sameSymbol _ _ Tryz.func209 k_core_sameSymbol
def c_core_symbol : AFun := ⟨27, 2, [.t 4],
  (.seq (.reg [op 2 (.box taQ_ 9 (.t 0)),op 3 (.box taS_ 2 (.t 1)),op 4 (.mov (.k (.bool false)))]
[2, 3])
(.seq (.seq (.reg [op 5 (.faddr (.t 3) 0),op 6 (.load (.t 5)),op 7 (.bin .lss (.t 6) (.k (.int .i64 0))),op 8 (.mov (.t 7)),
⟨some 9, .faddr (.t 3) 0, (some (8, false))⟩,
⟨some 10, .load (.t 9), (some (8, false))⟩,
⟨some 11, .faddr (.t 2) 1, (some (8, false))⟩,
⟨some 12, .load (.t 11), (some (8, false))⟩,
⟨some 13, .len false (.t 12), (some (8, false))⟩,
⟨some 14, .bin .geq (.t 10) (.t 13), (some (8, false))⟩,op 15 (.pick (.t 8) (.k (.bool true)) (.t 14))]
[2, 3, 15])
(.cond (.t 15)
(.seq (.reg [op 4 (.mov (.k (.bool false)))]
[4])
.ret)
.skip))
(.seq (.dreg [op 16 (.faddr (.t 3) 1),op 17 (.load (.t 16)),op 18 (.faddr (.t 2) 1),op 19 (.load (.t 18)),op 20 (.faddr (.t 3) 0),op 21 (.load (.t 20)),op 22 (.iaddr 2 (.t 19) (.t 21)),op 23 (.faddr (.t 22) 1),op 24 (.load (.t 23)),op 25 (.mkfn n_core_symbol_1 [.t 2]),op 26 (.call nsEaAiaAi_ [.t 17, .t 24, .t 25]),op 4 (.mov (.t 26))]
[4])
.ret)))⟩
theorem k_core_symbol : chkF Tryz.prog Tryz.f207 c_core_symbol = true := by kernel_rfl
abbrev pc_core_symbol := @pcR n_core_symbol _ _ Tryz.func207 k_core_symbol
def c_core_symbol_1 : AFun := ⟨10, 3, [.t 5],
  (.seq (.reg [op 3 (.box t_api_Arg 6 (.t 0)),op 5 (.mov (.k (.bool false)))]
[1, 2, 3])
(.seq (.reg [op 6 (.loadN (.t 2) 9),op 7 (.loadN (.t 3) 6),op 8 (.mov (.t 1)),op 9 (.call n_core_arg [.t 6, .t 7, .t 8]),op 5 (.mov (.t 9))]
[5])
.ret))⟩
theorem k_core_symbol_1 : chkF Tryz.prog Tryz.f253 c_core_symbol_1 = true := by kernel_rfl
abbrev pc_core_symbol_1 := @pcR n_core_symbol_1 _ _ Tryz.func253 k_core_symbol_1
def c_core_symbols : AFun := ⟨41, 1, [.t 2],
  (.seq (.reg [op 1 (.box taQ_ 9 (.t 0)),op 2 (.mov (.k (.bool false)))]
[1])
(.seq (.reg [op 3 (.alloc t_Sint 1 (.nils))]
[1, 3])
(.seq (.seq (.reg [op 7 (.faddr (.t 1) 8),op 8 (.load (.t 7)),op 9 (.len false (.t 8)),op 10 (.mov (.k (.int .i64 0)))]
[1, 3, 8, 9, 10])
(.block 0
(.loop [1, 3, 8, 9, 10] [1, 3, 9, 23]
  (.seq (.reg [op 11 (.bin .lss (.t 10) (.t 9))]
[1, 3, 8, 9, 10, 11])
(.seq (.cond (.t 11)
.skip
(.exit 0))
(.seq (.block 1
(.seq (.reg [op 12 (.iaddr 5 (.t 8) (.t 10)),op 13 (.loadN (.t 12) 5),op 5 (.alloc taT_ 5 (.agg [.int .i64 0, .int .i64 0, .int .i64 0, .int .i64 0, .nils])),
⟨none, .store (.t 5) (.t 13) 5, none⟩]
[1, 3, 5, 8, 9, 10])
(.seq (.reg [op 14 (.load (.t 3)),op 15 (.faddr (.t 5) 1),op 16 (.load (.t 15)),op 17 (.call ns12 [.t 14, .t 16]),op 18 (.un .not (.t 17))]
[1, 3, 5, 8, 9, 10, 18])
(.cond (.t 18)
(.reg [op 19 (.load (.t 3)),op 20 (.faddr (.t 5) 1),op 21 (.load (.t 20)),op 22 (.mkrow t_int 1 1 (.int .i64 0) [(0, .t 21)]),op 23 (.app t_int 1 8 (.t 19) (.t 22)),
⟨none, .store (.t 3) (.t 23) 1, none⟩]
[1, 3, 8, 9, 10])
.skip))))
(.reg [op 24 (.bin .add (.t 10) (.k (.int .i64 1))),op 10 (.mov (.t 24))]
[1, 3, 8, 9, 10])))))))
(.seq (.reg [op 25 (.mkfn n_core_symbols_1 [.t 1]),op 6 (.mov (.t 25))]
[1, 3, 6])
(.seq (.reg [op 26 (.load (.t 3)),op 27 (.mkfn n_core_symbols_2 [.t 1, .t 3]),op 28 (.call n_core_all_int [.t 26, .t 27]),op 29 (.mov (.t 28)),
⟨some 30, .faddr (.t 1) 6, (some (29, true))⟩,
⟨some 31, .load (.t 30), (some (29, true))⟩,
⟨some 32, .mov (.t 6), (some (29, true))⟩,
⟨some 33, .call n_core_all_api_Symbol [.t 31, .t 32], (some (29, true))⟩,op 34 (.pick (.t 29) (.t 33) (.k (.bool false))),op 35 (.mov (.t 34)),
⟨some 36, .faddr (.t 1) 2, (some (35, true))⟩,
⟨some 37, .load (.t 36), (some (35, true))⟩,
⟨some 38, .mkfn n_core_symbols_3 [.t 1], (some (35, true))⟩,
⟨some 39, .call n_core_all_api_Quant [.t 37, .t 38], (some (35, true))⟩,op 40 (.pick (.t 35) (.t 39) (.k (.bool false))),op 2 (.mov (.t 40))]
[2])
.ret)))))⟩
theorem k_core_symbols : chkF Tryz.prog Tryz.f131 c_core_symbols = true := by kernel_rfl
abbrev pc_core_symbols := @pcR n_core_symbols _ _ Tryz.func131 k_core_symbols
def c_core_symbols_1 : AFun := ⟨17, 3, [.t 5],
  (.seq (.reg [op 4 (.box taS_ 2 (.t 1)),op 5 (.mov (.k (.bool false)))]
[0, 2, 4])
(.seq (.reg [op 6 (.loadN (.t 2) 9),op 7 (.loadN (.t 4) 2),op 8 (.call n_core_symbol [.t 6, .t 7]),op 9 (.mov (.t 8)),
⟨some 10, .faddr (.t 2) 6, (some (9, true))⟩,
⟨some 11, .load (.t 10), (some (9, true))⟩,
⟨some 12, .mkfn n_core_symbols_1_1 [.t 4], (some (9, true))⟩,
⟨some 13, .call nsIaSaS_ [.t 11, .t 12], (some (9, true))⟩,
⟨some 14, .mov (.t 0), (some (9, true))⟩,
⟨some 15, .bin .eql (.t 13) (.t 14), (some (9, true))⟩,op 16 (.pick (.t 9) (.t 15) (.k (.bool false))),op 5 (.mov (.t 16))]
[5])
.ret))⟩
theorem k_core_symbols_1 : chkF Tryz.prog Tryz.f206 c_core_symbols_1 = true := by kernel_rfl
abbrev pc_core_symbols_1 := @pcR n_core_symbols_1 _ _ Tryz.func206 k_core_symbols_1
def c_core_symbols_1_1 : AFun := ⟨7, 2, [.t 3],
  (.seq (.reg [op 2 (.box taS_ 2 (.t 0)),op 3 (.mov (.k (.bool false)))]
[1, 2])
(.seq (.reg [op 4 (.loadN (.t 2) 2),op 5 (.loadN (.t 1) 2),op 6 (.call n_core_sameSymbol [.t 4, .t 5]),op 3 (.mov (.t 6))]
[3])
.ret))⟩
theorem k_core_symbols_1_1 : chkF Tryz.prog Tryz.f208 c_core_symbols_1_1 = true := by kernel_rfl
abbrev pc_core_symbols_1_1 := @pcR n_core_symbols_1_1 _ _ Tryz.func208 k_core_symbols_1_1
def c_core_symbols_2 : AFun := ⟨17, 4, [.t 6],
  (.seq (.reg [op 6 (.mov (.k (.bool false)))]
[0, 1, 2, 3])
(.seq (.reg [op 7 (.mov (.t 1)),op 8 (.faddr (.t 2) 6),op 9 (.load (.t 8)),op 10 (.len false (.t 9)),op 11 (.load (.t 3)),op 12 (.len false (.t 11)),op 13 (.bin .sub (.t 10) (.t 12)),op 14 (.mov (.t 0)),op 15 (.bin .add (.t 13) (.t 14)),op 16 (.bin .eql (.t 7) (.t 15)),op 6 (.mov (.t 16))]
[6])
.ret))⟩
theorem k_core_symbols_2 : chkF Tryz.prog Tryz.f211 c_core_symbols_2 = true := by kernel_rfl
abbrev pc_core_symbols_2 := @pcR n_core_symbols_2 _ _ Tryz.func211 k_core_symbols_2
def c_core_symbols_3 : AFun := ⟨10, 3, [.t 5],
  (.seq (.reg [op 3 (.box t_int 1 (.t 0)),op 4 (.box t_api_Quant 3 (.t 1)),op 5 (.mov (.k (.bool false)))]
[2, 3])
(.seq (.reg [op 6 (.faddr (.t 2) 6),op 7 (.load (.t 6)),op 8 (.mkfn n_core_symbols_3_1 [.t 3]),op 9 (.call nsCaSaS_ [.t 7, .t 8]),op 5 (.mov (.t 9))]
[5])
.ret))⟩
theorem k_core_symbols_3 : chkF Tryz.prog Tryz.f213 c_core_symbols_3 = true := by kernel_rfl
abbrev pc_core_symbols_3 := @pcR n_core_symbols_3 _ _ Tryz.func213 k_core_symbols_3
def c_core_symbols_3_1 : AFun := ⟨7, 2, [.t 3],
  (.seq (.reg [op 2 (.box taS_ 2 (.t 0)),op 3 (.mov (.k (.bool false)))]
[1, 2])
(.seq (.reg [op 4 (.loadN (.t 2) 2),op 5 (.load (.t 1)),op 6 (.call n_core_Stands [.t 4, .t 5]),op 3 (.mov (.t 6))]
[3])
.ret))⟩
theorem k_core_symbols_3_1 : chkF Tryz.prog Tryz.f214 c_core_symbols_3_1 = true := by kernel_rfl
abbrev pc_core_symbols_3_1 := @pcR n_core_symbols_3_1 _ _ Tryz.func214 k_core_symbols_3_1
def c_core_trans : AFun := ⟨21, 1, [.t 2],
  (.seq (.reg [op 1 (.box taQ_ 9 (.t 0)),op 2 (.mov (.k (.bool false)))]
[1])
(.seq (.reg [op 7 (.loadN (.t 1) 9),op 8 (.call n_core_exprs [.t 7]),op 3 (.alloc t_Score_expr 1 (.nils)),
⟨none, .store (.t 3) (.t 8) 1, none⟩]
[1, 3])
(.seq (.reg [op 4 (.alloc t_int 1 (.int .i64 0)),
⟨none, .store (.t 4) (.k (.int .i64 0)) 1, none⟩]
[1, 3, 4])
(.seq (.reg [op 9 (.mkfn n_core_trans_1 [.t 4, .t 3]),op 5 (.alloc t_func_int_int_bool 1 (.nilfn)),
⟨none, .store (.t 5) (.t 9) 1, none⟩]
[1, 3, 4, 5])
(.seq (.reg [op 10 (.mkfn n_core_trans_2 [.t 4, .t 1, .t 5]),op 6 (.mov (.t 10))]
[1, 3, 4, 6])
(.seq (.reg [op 11 (.faddr (.t 1) 8),op 12 (.load (.t 11)),op 13 (.mov (.t 6)),op 14 (.call n_core_all_api_Trans [.t 12, .t 13]),op 15 (.mov (.t 14)),
⟨some 16, .load (.t 4), (some (15, true))⟩,
⟨some 17, .load (.t 3), (some (15, true))⟩,
⟨some 18, .len false (.t 17), (some (15, true))⟩,
⟨some 19, .bin .eql (.t 16) (.t 18), (some (15, true))⟩,op 20 (.pick (.t 15) (.t 19) (.k (.bool false))),op 2 (.mov (.t 20))]
[2])
.ret))))))⟩
theorem k_core_trans : chkF Tryz.prog Tryz.f130 c_core_trans = true := by kernel_rfl
abbrev pc_core_trans := @pcR n_core_trans _ _ Tryz.func130 k_core_trans
def c_core_trans_1 : AFun := ⟨48, 4, [.t 6],
  (.seq (.reg [op 6 (.mov (.k (.bool false)))]
[0, 1, 2, 3])
(.seq (.seq (.dreg [op 7 (.mov (.t 0)),op 8 (.load (.t 2)),op 9 (.bin .lss (.t 7) (.t 8)),op 10 (.mov (.t 9)),
⟨some 11, .mov (.t 0), (some (10, false))⟩,
⟨some 12, .load (.t 3), (some (10, false))⟩,
⟨some 13, .len false (.t 12), (some (10, false))⟩,
⟨some 14, .bin .geq (.t 11) (.t 13), (some (10, false))⟩,op 15 (.pick (.t 10) (.k (.bool true)) (.t 14)),op 16 (.mov (.t 15)),
⟨some 17, .load (.t 3), (some (16, false))⟩,
⟨some 18, .mov (.t 0), (some (16, false))⟩,
⟨some 19, .iaddr 3 (.t 17) (.t 18), (some (16, false))⟩,
⟨some 20, .faddr (.t 19) 0, (some (16, false))⟩,
⟨some 21, .load (.t 20), (some (16, false))⟩,
⟨some 22, .mov (.t 1), (some (16, false))⟩,
⟨some 23, .bin .neq (.t 21) (.t 22), (some (16, false))⟩,op 24 (.pick (.t 16) (.k (.bool true)) (.t 23)),op 25 (.mov (.t 24)),
⟨some 26, .mov (.t 1), (some (25, false))⟩,
⟨some 27, .bin .eql (.t 26) (.k (.int .i64 0)), (some (25, false))⟩,op 28 (.pick (.t 25) (.k (.bool true)) (.t 27)),op 29 (.mov (.t 28)),
⟨some 30, .load (.t 3), (some (29, false))⟩,
⟨some 31, .mov (.t 0), (some (29, false))⟩,
⟨some 32, .iaddr 3 (.t 30) (.t 31), (some (29, false))⟩,
⟨some 33, .faddr (.t 32) 2, (some (29, false))⟩,
⟨some 34, .load (.t 33), (some (29, false))⟩,
⟨some 35, .load (.t 2), (some (29, false))⟩,
⟨some 36, .bin .neq (.t 34) (.t 35), (some (29, false))⟩,op 37 (.pick (.t 29) (.k (.bool true)) (.t 36)),op 38 (.mov (.t 37)),
⟨some 39, .load (.t 3), (some (38, false))⟩,
⟨some 40, .mov (.t 0), (some (38, false))⟩,
⟨some 41, .iaddr 3 (.t 39) (.t 40), (some (38, false))⟩,
⟨some 42, .faddr (.t 41) 1, (some (38, false))⟩,
⟨some 43, .load (.t 42), (some (38, false))⟩,
⟨some 44, .bin .gtr (.t 43) (.k (.int .i64 64)), (some (38, false))⟩,op 45 (.pick (.t 38) (.k (.bool true)) (.t 44))]
[0, 2, 45])
(.cond (.t 45)
(.seq (.reg [op 6 (.mov (.k (.bool false)))]
[6])
.ret)
.skip))
(.seq (.reg [op 46 (.mov (.t 0)),op 47 (.bin .add (.t 46) (.k (.int .i64 1))),
⟨none, .store (.t 2) (.t 47) 1, none⟩]
[])
(.seq (.reg [op 6 (.mov (.k (.bool true)))]
[6])
.ret))))⟩
theorem k_core_trans_1 : chkF Tryz.prog Tryz.f197 c_core_trans_1 = true := by kernel_rfl
def c_core_trans_2 : AFun := ⟨74, 5, [.t 7],
  (.seq (.reg [op 6 (.box taT_ 5 (.t 1)),op 7 (.mov (.k (.bool false)))]
[2, 3, 4, 6])
(.seq (.reg [op 10 (.load (.t 2)),op 8 (.mov (.t 10))]
[2, 3, 4, 6, 8])
(.seq (.seq (.reg [op 11 (.faddr (.t 6) 0),op 12 (.load (.t 11)),op 13 (.bin .lss (.t 12) (.k (.int .i64 0))),op 14 (.mov (.t 13)),
⟨some 15, .faddr (.t 6) 0, (some (14, false))⟩,
⟨some 16, .load (.t 15), (some (14, false))⟩,
⟨some 17, .faddr (.t 3) 4, (some (14, false))⟩,
⟨some 18, .load (.t 17), (some (14, false))⟩,
⟨some 19, .len false (.t 18), (some (14, false))⟩,
⟨some 20, .bin .geq (.t 16) (.t 19), (some (14, false))⟩,op 21 (.pick (.t 14) (.k (.bool true)) (.t 20)),op 22 (.mov (.t 21)),
⟨some 23, .faddr (.t 6) 2, (some (22, false))⟩,
⟨some 24, .load (.t 23), (some (22, false))⟩,
⟨some 25, .bin .lss (.t 24) (.k (.int .i64 0)), (some (22, false))⟩,op 26 (.pick (.t 22) (.k (.bool true)) (.t 25)),op 27 (.mov (.t 26)),
⟨some 28, .faddr (.t 6) 2, (some (27, false))⟩,
⟨some 29, .load (.t 28), (some (27, false))⟩,
⟨some 30, .faddr (.t 3) 4, (some (27, false))⟩,
⟨some 31, .load (.t 30), (some (27, false))⟩,
⟨some 32, .len false (.t 31), (some (27, false))⟩,
⟨some 33, .bin .geq (.t 29) (.t 32), (some (27, false))⟩,op 34 (.pick (.t 27) (.k (.bool true)) (.t 33)),op 35 (.mov (.t 34)),
⟨some 36, .faddr (.t 6) 1, (some (35, false))⟩,
⟨some 37, .load (.t 36), (some (35, false))⟩,
⟨some 38, .bin .lss (.t 37) (.k (.int .i64 0)), (some (35, false))⟩,op 39 (.pick (.t 35) (.k (.bool true)) (.t 38)),op 40 (.mov (.t 39)),
⟨some 41, .faddr (.t 6) 1, (some (40, false))⟩,
⟨some 42, .load (.t 41), (some (40, false))⟩,
⟨some 43, .faddr (.t 3) 6, (some (40, false))⟩,
⟨some 44, .load (.t 43), (some (40, false))⟩,
⟨some 45, .len false (.t 44), (some (40, false))⟩,
⟨some 46, .bin .geq (.t 42) (.t 45), (some (40, false))⟩,op 47 (.pick (.t 40) (.k (.bool true)) (.t 46)),op 48 (.mov (.t 47)),
⟨some 49, .faddr (.t 6) 3, (some (48, false))⟩,
⟨some 50, .load (.t 49), (some (48, false))⟩,
⟨some 51, .bin .neq (.t 50) (.k (.int .i64 (-1))), (some (48, false))⟩,
⟨some 52, .mov (.t 51), (some (48, false))⟩,
⟨some 53, .load (.t 4), (some (52, true))⟩,
⟨some 54, .faddr (.t 6) 3, (some (52, true))⟩,
⟨some 55, .load (.t 54), (some (52, true))⟩,
⟨some 56, .callv (.t 53) [.t 55, .k (.int .i64 3)], (some (52, true))⟩,
⟨some 57, .un .not (.t 56), (some (52, true))⟩,
⟨some 58, .pick (.t 52) (.t 57) (.k (.bool false)), (some (48, false))⟩,op 59 (.pick (.t 48) (.k (.bool true)) (.t 58))]
[2, 3, 4, 6, 8, 59])
(.cond (.t 59)
(.seq (.reg [op 7 (.mov (.k (.bool false)))]
[7])
.ret)
.skip))
(.seq (.reg [op 60 (.mkfn n_core_trans_2_1 [.t 6, .t 3, .t 4]),op 9 (.mov (.t 60))]
[2, 3, 6, 8, 9])
(.seq (.reg [op 61 (.faddr (.t 6) 4),op 62 (.load (.t 61)),op 63 (.mov (.t 9)),op 64 (.call n_core_all_api_Set [.t 62, .t 63]),op 65 (.mov (.t 64)),
⟨some 66, .faddr (.t 3) 7, (some (65, true))⟩,
⟨some 67, .load (.t 66), (some (65, true))⟩,
⟨some 68, .mov (.t 8), (some (65, true))⟩,
⟨some 69, .load (.t 2), (some (65, true))⟩,
⟨some 70, .slc 7 (.t 67) (some (.t 68)) (some (.t 69)), (some (65, true))⟩,
⟨some 71, .mkfn n_core_trans_2_2 [.t 3, .t 6], (some (65, true))⟩,
⟨some 72, .call n_core_all_api_Node [.t 70, .t 71], (some (65, true))⟩,op 73 (.pick (.t 65) (.t 72) (.k (.bool false))),op 7 (.mov (.t 73))]
[7])
.ret)))))⟩
theorem k_core_trans_2 : chkF Tryz.prog Tryz.f198 c_core_trans_2 = true := by kernel_rfl
def c_core_trans_2_1 : AFun := ⟨44, 5, [.t 7],
  (.seq (.reg [op 6 (.box t_api_Set 2 (.t 1)),op 7 (.mov (.k (.bool false)))]
[0, 2, 3, 4, 6])
(.seq (.reg [op 9 (.faddr (.t 2) 4),op 10 (.load (.t 9)),op 11 (.mov (.t 0)),op 12 (.slc 2 (.t 10) none (some (.t 11))),op 13 (.mkfn n_core_trans_2_1_1 [.t 6]),op 14 (.call ns10 [.t 12, .t 13]),op 8 (.mov (.t 14))]
[3, 4, 6, 8])
(.seq (.dreg [op 15 (.faddr (.t 6) 0),op 16 (.load (.t 15)),op 17 (.bin .geq (.t 16) (.k (.int .i64 0))),op 18 (.mov (.t 17)),
⟨some 19, .faddr (.t 6) 0, (some (18, true))⟩,
⟨some 20, .load (.t 19), (some (18, true))⟩,
⟨some 21, .faddr (.t 3) 3, (some (18, true))⟩,
⟨some 22, .load (.t 21), (some (18, true))⟩,
⟨some 23, .len false (.t 22), (some (18, true))⟩,
⟨some 24, .bin .lss (.t 20) (.t 23), (some (18, true))⟩,op 25 (.pick (.t 18) (.t 24) (.k (.bool false))),op 26 (.mov (.t 25)),
⟨some 27, .mov (.t 8), (some (26, true))⟩,
⟨some 28, .un .not (.t 27), (some (26, true))⟩,op 29 (.pick (.t 26) (.t 28) (.k (.bool false))),op 30 (.mov (.t 29)),
⟨some 31, .load (.t 4), (some (30, true))⟩,
⟨some 32, .faddr (.t 6) 1, (some (30, true))⟩,
⟨some 33, .load (.t 32), (some (30, true))⟩,
⟨some 34, .faddr (.t 3) 3, (some (30, true))⟩,
⟨some 35, .load (.t 34), (some (30, true))⟩,
⟨some 36, .faddr (.t 6) 0, (some (30, true))⟩,
⟨some 37, .load (.t 36), (some (30, true))⟩,
⟨some 38, .iaddr 5 (.t 35) (.t 37), (some (30, true))⟩,
⟨some 39, .faddr (.t 38) 1, (some (30, true))⟩,
⟨some 40, .faddr (.t 39) 0, (some (30, true))⟩,
⟨some 41, .load (.t 40), (some (30, true))⟩,
⟨some 42, .callvB (.t 31) [.t 33, .t 41], (some (30, true))⟩,op 43 (.pick (.t 30) (.t 42) (.k (.bool false))),op 7 (.mov (.t 43))]
[7])
.ret)))⟩
theorem k_core_trans_2_1 : chkF Tryz.prog Tryz.f199 c_core_trans_2_1 = true := by kernel_rfl
def c_core_trans_2_1_1 : AFun := ⟨9, 2, [.t 3],
  (.seq (.reg [op 2 (.box t_api_Set 2 (.t 0)),op 3 (.mov (.k (.bool false)))]
[1, 2])
(.seq (.reg [op 4 (.faddr (.t 2) 0),op 5 (.load (.t 4)),op 6 (.faddr (.t 1) 0),op 7 (.load (.t 6)),op 8 (.bin .eql (.t 5) (.t 7)),op 3 (.mov (.t 8))]
[3])
.ret))⟩
theorem k_core_trans_2_1_1 : chkF Tryz.prog Tryz.f200 c_core_trans_2_1_1 = true := by kernel_rfl
abbrev pc_core_trans_2_1_1 := @pcR n_core_trans_2_1_1 _ _ Tryz.func200 k_core_trans_2_1_1
def c_core_trans_2_2 : AFun := ⟨21, 4, [.t 6],
  (.seq (.reg [op 5 (.box t_api_Node 7 (.t 1)),op 6 (.mov (.k (.bool false)))]
[2, 3, 5])
(.seq (.dreg [op 7 (.faddr (.t 5) 0),op 8 (.load (.t 7)),op 9 (.bin .neq (.t 8) (.k (.int .i64 2))),op 10 (.mov (.t 9)),
⟨some 11, .faddr (.t 2) 6, (some (10, false))⟩,
⟨some 12, .load (.t 11), (some (10, false))⟩,
⟨some 13, .faddr (.t 3) 1, (some (10, false))⟩,
⟨some 14, .load (.t 13), (some (10, false))⟩,
⟨some 15, .iaddr 2 (.t 12) (.t 14), (some (10, false))⟩,
⟨some 16, .loadN (.t 15) 2, (some (10, false))⟩,
⟨some 17, .faddr (.t 5) 1, (some (10, false))⟩,
⟨some 18, .load (.t 17), (some (10, false))⟩,
⟨some 19, .call n_core_Stands [.t 16, .t 18], (some (10, false))⟩,op 20 (.pick (.t 10) (.k (.bool true)) (.t 19)),op 6 (.mov (.t 20))]
[6])
.ret))⟩
theorem k_core_trans_2_2 : chkF Tryz.prog Tryz.f203 c_core_trans_2_2 = true := by kernel_rfl
abbrev pc_core_trans_2_2 := @pcR n_core_trans_2_2 _ _ Tryz.func203 k_core_trans_2_2
def c_joint_Next : AFun := ⟨69, 3, [.t 6],
  (.seq (.reg [op 3 (.box taQ_ 9 (.t 0)),op 6 (.mov (.k (.int .u32 0)))]
[1, 2, 3])
(.seq (.reg [op 7 (.mov (.k (.int .u32 0)))]
[1, 2, 3, 7])
(.seq (.seq (.reg [op 13 (.faddr (.t 3) 4),op 14 (.load (.t 13)),op 15 (.len false (.t 14)),op 16 (.mov (.k (.int .i64 0)))]
[1, 2, 3, 7, 14, 15, 16])
(.block 0
(.loop [1, 2, 3, 7, 14, 15, 16] [3, 15]
  (.seq (.reg [op 17 (.bin .lss (.t 16) (.t 15))]
[1, 2, 3, 7, 14, 15, 16, 17])
(.seq (.cond (.t 17)
.skip
(.exit 0))
(.seq (.block 1
(.seq (.reg [op 18 (.mov (.t 16)),op 19 (.iaddr 3 (.t 14) (.t 16)),op 20 (.loadN (.t 19) 3),op 9 (.alloc t_api_State 3 (.agg [.str [], .bool false, .bool false])),op 8 (.mov (.t 18)),
⟨none, .store (.t 9) (.t 20) 3, none⟩]
[1, 2, 3, 7, 8, 9, 14, 15, 16])
(.seq (.seq (.reg [op 21 (.mov (.t 1)),op 22 (.mov (.t 8)),op 23 (.conv .u64 (.t 22)),op 24 (.bin .shl (.k (.int .u32 1)) (.t 23)),op 25 (.bin .and (.t 21) (.t 24)),op 26 (.bin .eql (.t 25) (.k (.int .u32 0)))]
[1, 2, 3, 7, 8, 9, 14, 15, 16, 26])
(.cond (.t 26)
(.exit 1)
.skip))
(.seq (.reg [op 10 (.mov (.k (.int .u32 0)))]
[1, 2, 3, 7, 8, 9, 10, 14, 15, 16])
(.seq (.seq (.reg [op 27 (.faddr (.t 3) 8),op 28 (.load (.t 27)),op 29 (.len false (.t 28)),op 30 (.mov (.k (.int .i64 0)))]
[1, 2, 3, 7, 8, 9, 10, 14, 15, 16, 28, 29, 30])
(.block 2
(.loop [1, 2, 3, 7, 8, 9, 10, 14, 15, 16, 28, 29, 30] [3, 15, 9, 29]
  (.seq (.reg [op 31 (.bin .lss (.t 30) (.t 29))]
[1, 2, 3, 7, 8, 9, 10, 14, 15, 16, 28, 29, 30, 31])
(.seq (.cond (.t 31)
.skip
(.exit 2))
(.seq (.block 3
(.seq (.reg [op 32 (.iaddr 5 (.t 28) (.t 30)),op 33 (.loadN (.t 32) 5),op 12 (.alloc taT_ 5 (.agg [.int .i64 0, .int .i64 0, .int .i64 0, .int .i64 0, .nils])),
⟨none, .store (.t 12) (.t 33) 5, none⟩]
[1, 2, 3, 7, 8, 9, 10, 12, 14, 15, 16, 28, 29, 30])
(.seq (.reg [op 34 (.faddr (.t 12) 0),op 35 (.load (.t 34)),op 36 (.mov (.t 8)),op 37 (.bin .eql (.t 35) (.t 36)),op 38 (.mov (.t 37)),
⟨some 39, .mov (.t 2), (some (38, true))⟩,
⟨some 40, .faddr (.t 12) 1, (some (38, true))⟩,
⟨some 41, .load (.t 40), (some (38, true))⟩,
⟨some 42, .conv .u64 (.t 41), (some (38, true))⟩,
⟨some 43, .bin .shl (.k (.int .u64 1)) (.t 42), (some (38, true))⟩,
⟨some 44, .bin .and (.t 39) (.t 43), (some (38, true))⟩,
⟨some 45, .bin .neq (.t 44) (.k (.int .u64 0)), (some (38, true))⟩,op 46 (.pick (.t 38) (.t 45) (.k (.bool false)))]
[1, 2, 3, 7, 8, 9, 10, 12, 14, 15, 16, 28, 29, 30, 46])
(.cond (.t 46)
(.reg [op 47 (.mov (.t 10)),op 48 (.faddr (.t 12) 2),op 49 (.load (.t 48)),op 50 (.conv .u64 (.t 49)),op 51 (.bin .shl (.k (.int .u32 1)) (.t 50)),op 52 (.bin .or (.t 47) (.t 51)),op 10 (.mov (.t 52))]
[1, 2, 3, 7, 8, 9, 10, 14, 15, 16, 28, 29, 30])
.skip))))
(.reg [op 53 (.bin .add (.t 30) (.k (.int .i64 1))),op 30 (.mov (.t 53))]
[1, 2, 3, 7, 8, 9, 10, 14, 15, 16, 28, 29, 30])))))))
(.seq (.seq (.reg [op 54 (.mov (.t 10)),op 55 (.bin .eql (.t 54) (.k (.int .u32 0))),op 56 (.mov (.t 55)),
⟨some 57, .faddr (.t 9) 1, (some (56, true))⟩,
⟨some 58, .load (.t 57), (some (56, true))⟩,
⟨some 59, .un .not (.t 58), (some (56, true))⟩,op 60 (.pick (.t 56) (.t 59) (.k (.bool false)))]
[1, 2, 3, 7, 8, 10, 14, 15, 16, 60])
(.cond (.t 60)
(.reg [op 61 (.mov (.t 8)),op 62 (.conv .u64 (.t 61)),op 63 (.bin .shl (.k (.int .u32 1)) (.t 62)),op 10 (.mov (.t 63))]
[1, 2, 3, 7, 10, 14, 15, 16])
.skip))
(.reg [op 64 (.mov (.t 7)),op 65 (.mov (.t 10)),op 66 (.bin .or (.t 64) (.t 65)),op 7 (.mov (.t 66))]
[1, 2, 3, 7, 14, 15, 16])))))))
(.reg [op 67 (.bin .add (.t 16) (.k (.int .i64 1))),op 16 (.mov (.t 67))]
[1, 2, 3, 7, 14, 15, 16])))))))
(.seq (.reg [op 68 (.mov (.t 7)),op 6 (.mov (.t 68))]
[6])
.ret))))⟩
theorem k_joint_Next : chkF Tryz.prog Tryz.f75 c_joint_Next = true := by kernel_rfl
abbrev pc_joint_Next := @pcR n_joint_Next _ _ Tryz.func75 k_joint_Next
end Go.Proofs.YtjbcfpkibnhodaaGreatDoor.Ab
