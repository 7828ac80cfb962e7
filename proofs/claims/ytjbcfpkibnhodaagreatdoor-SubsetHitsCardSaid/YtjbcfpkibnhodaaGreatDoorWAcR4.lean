/-
  The functions' abstract code, by program (acgen.py), and that the model's code is it, reckoned by the kernel. No claim is proved here.
-/
import Derived.Test.YtjbcfpkibnhodaaGreatDoorWAcR0
namespace Go.Proofs.YtjbcfpkibnhodaaGreatDoor.Ab
open Go
def c_proctorref28_Set : AFun := ⟨26, 2, [.t 4],
  (.seq (.reg [op 2 (.box taQ_ 9 (.t 0)),op 4 (.nilrow taC_ 2)]
[1, 2])
(.seq (.reg [op 5 (.nilrow taC_ 2)]
[1, 2, 5])
(.seq (.seq (.reg [op 6 (.mov (.k (.int .i64 0)))]
[1, 2, 5, 6])
(.block 0
(.loop [1, 2, 5, 6] [2, 4, 5, 24]
  (.seq (.seq (.reg [op 7 (.mov (.t 6)),op 8 (.faddr (.t 2) 4),op 9 (.load (.t 8)),op 10 (.len false (.t 9)),op 11 (.bin .lss (.t 7) (.t 10))]
[1, 2, 5, 6, 11])
(.cond (.t 11)
.skip
(.exit 0)))
(.seq (.block 1
(.seq (.reg [op 14 (.mov (.t 1)),op 15 (.mov (.t 6)),op 16 (.conv .u64 (.t 15)),op 17 (.bin .shr (.t 14) (.t 16)),op 18 (.bin .rem (.t 17) (.k (.int .u32 2))),op 19 (.bin .eql (.t 18) (.k (.int .u32 1)))]
[1, 2, 5, 6, 19])
(.cond (.t 19)
(.reg [op 20 (.mov (.t 5)),op 21 (.mov (.t 6)),op 22 (.build [.int .i64 0, .nils] [(0, 1, .t 21)]),op 23 (.mkrow taC_ 2 1 (.agg [.int .i64 0, .nils]) [(0, .t 22)]),op 24 (.app taC_ 2 32 (.t 20) (.t 23)),op 5 (.mov (.t 24))]
[1, 2, 5, 6])
.skip)))
(.reg [op 12 (.mov (.t 6)),op 13 (.bin .add (.t 12) (.k (.int .i64 1))),op 6 (.mov (.t 13))]
[1, 2, 5, 6]))))))
(.seq (.reg [op 25 (.mov (.t 5)),op 4 (.mov (.t 25))]
[4])
.ret))))⟩
theorem k_proctorref28_Set : chkF Tryz.prog Tryz.f39 c_proctorref28_Set = true := by kernel_rfl
abbrev pc_proctorref28_Set := @pcR n_proctorref28_Set _ _ Tryz.func39 k_proctorref28_Set
def c_schema_Check : AFun := ⟨22, 1, [.t 2, .t 3],
  (.seq (.reg [op 2 (.mov (.k (.int .i64 0))),op 3 (.mov (.k (.int .i64 0)))]
[0])
(.seq (.seq (.reg [op 6 (.mov (.t 0)),op 7 (.len false (.t 6)),op 8 (.bin .gtr (.t 7) (.k (.int .i64 32)))]
[0, 8])
(.cond (.t 8)
(.seq (.reg [op 2 (.mov (.k (.int .i64 32))),op 3 (.mov (.k (.int .i64 14)))]
[2, 3])
.ret)
.skip))
(.seq (.seq (.reg [op 9 (.mov (.t 0)),op 10 (.len false (.t 9)),op 11 (.mov (.k (.int .i64 0)))]
[0, 10, 11])
(.block 0
(.loop [0, 10, 11] [7, 10]
  (.seq (.reg [op 12 (.bin .lss (.t 11) (.t 10))]
[0, 10, 11, 12])
(.seq (.cond (.t 12)
.skip
(.exit 0))
(.seq (.block 1
(.seq (.reg [op 13 (.mov (.t 11)),op 4 (.mov (.t 13))]
[0, 4, 10, 11])
(.seq (.reg [op 14 (.mov (.t 0)),op 15 (.mov (.t 4)),op 16 (.call n_schema_one [.t 14, .t 15]),op 5 (.mov (.t 16))]
[0, 4, 5, 10, 11])
(.seq (.reg [op 17 (.mov (.t 5)),op 18 (.bin .neq (.t 17) (.k (.int .i64 0)))]
[0, 4, 5, 10, 11, 18])
(.cond (.t 18)
(.seq (.reg [op 19 (.mov (.t 4)),op 20 (.mov (.t 5)),op 2 (.mov (.t 19)),op 3 (.mov (.t 20))]
[2, 3])
.ret)
.skip)))))
(.reg [op 21 (.bin .add (.t 11) (.k (.int .i64 1))),op 11 (.mov (.t 21))]
[0, 10, 11])))))))
(.seq (.reg [op 2 (.mov (.k (.int .i64 (-1)))),op 3 (.mov (.k (.int .i64 0)))]
[2, 3])
.ret))))⟩
theorem k_schema_Check : chkF Tryz.prog Tryz.f188 c_schema_Check = true := by kernel_rfl
abbrev pc_schema_Check := @pcR n_schema_Check _ _ Tryz.func188 k_schema_Check
def c_schema_Find : AFun := ⟨14, 2, [.t 4, .t 5],
  (.seq (.reg [op 3 (.box ts_ 1 (.t 1)),op 4 (.mov (.k (.int .i64 0))),op 5 (.mov (.k (.bool false)))]
[0, 3])
(.seq (.reg [op 7 (.mov (.t 0)),op 8 (.mkfn n_schema_Find_1 [.t 3]),op 9 (.call nsIaDaD_ [.t 7, .t 8]),op 6 (.mov (.t 9))]
[6])
(.seq (.reg [op 10 (.mov (.t 6)),op 11 (.mx false (.t 10) (.k (.int .i64 0))),op 12 (.mov (.t 6)),op 13 (.bin .geq (.t 12) (.k (.int .i64 0))),op 4 (.mov (.t 11)),op 5 (.mov (.t 13))]
[4, 5])
.ret)))⟩
theorem k_schema_Find : chkF Tryz.prog Tryz.f270 c_schema_Find = true := by kernel_rfl
abbrev pc_schema_Find := @pcR n_schema_Find _ _ Tryz.func270 k_schema_Find
def c_schema_Find_1 : AFun := ⟨8, 2, [.t 3],
  (.seq (.reg [op 2 (.box t_api_Decl 2 (.t 0)),op 3 (.mov (.k (.bool false)))]
[1, 2])
(.seq (.reg [op 4 (.faddr (.t 2) 0),op 5 (.load (.t 4)),op 6 (.load (.t 1)),op 7 (.bin .eql (.t 5) (.t 6)),op 3 (.mov (.t 7))]
[3])
.ret))⟩
theorem k_schema_Find_1 : chkF Tryz.prog Tryz.f295 c_schema_Find_1 = true := by kernel_rfl
abbrev pc_schema_Find_1 := @pcR n_schema_Find_1 _ _ Tryz.func295 k_schema_Find_1
def c_schema_Name : AFun := ⟨14, 1, [.t 2],
  (.seq (.reg [op 2 (.mov (.k (.bool false)))]
[0])
(.seq (.reg [op 3 (.mov (.t 0)),op 4 (.call n_schema_Spelt [.t 3]),op 5 (.mov (.t 4)),
⟨some 6, .mov (.t 0), (some (5, true))⟩,
⟨some 7, .call n_schema_Word [.t 6], (some (5, true))⟩,
⟨some 8, .un .not (.t 7), (some (5, true))⟩,op 9 (.pick (.t 5) (.t 8) (.k (.bool false))),op 10 (.mov (.t 9)),
⟨some 11, .mov (.t 0), (some (10, true))⟩,
⟨some 12, .bin .neq (.t 11) (.k (.str [95])), (some (10, true))⟩,op 13 (.pick (.t 10) (.t 12) (.k (.bool false))),op 2 (.mov (.t 13))]
[2])
.ret))⟩
theorem k_schema_Name : chkF Tryz.prog Tryz.f189 c_schema_Name = true := by kernel_rfl
abbrev pc_schema_Name := @pcR n_schema_Name _ _ Tryz.func189 k_schema_Name
def c_schema_Spelt : AFun := ⟨25, 1, [.t 2],
  (.seq (.reg [op 2 (.mov (.k (.bool false)))]
[0])
(.seq (.seq (.reg [op 4 (.mov (.t 0)),op 5 (.bin .eql (.t 4) (.k (.str []))),op 6 (.mov (.t 5)),
⟨some 7, .mov (.t 0), (some (6, false))⟩,
⟨some 8, .len true (.t 7), (some (6, false))⟩,
⟨some 9, .bin .gtr (.t 8) (.k (.int .i64 32)), (some (6, false))⟩,op 10 (.pick (.t 6) (.k (.bool true)) (.t 9)),op 11 (.mov (.t 10)),
⟨some 12, .mov (.t 0), (some (11, false))⟩,
⟨some 13, .idx (.t 12) (.k (.int .i64 0)), (some (11, false))⟩,
⟨some 14, .bin .geq (.t 13) (.k (.int .u8 48)), (some (11, false))⟩,
⟨some 15, .mov (.t 14), (some (11, false))⟩,
⟨some 16, .mov (.t 0), (some (15, true))⟩,
⟨some 17, .idx (.t 16) (.k (.int .i64 0)), (some (15, true))⟩,
⟨some 18, .bin .leq (.t 17) (.k (.int .u8 57)), (some (15, true))⟩,
⟨some 19, .pick (.t 15) (.t 18) (.k (.bool false)), (some (11, false))⟩,op 20 (.pick (.t 11) (.k (.bool true)) (.t 19))]
[0, 20])
(.cond (.t 20)
(.seq (.reg [op 2 (.mov (.k (.bool false)))]
[2])
.ret)
.skip))
(.seq (.reg [op 3 (.mov (.f n_schema_Spelt_1))]
[0, 3])
(.seq (.reg [op 21 (.mov (.t 0)),op 22 (.mov (.t 3)),op 23 (.call n_strings_IndexFunc [.t 21, .t 22]),op 24 (.bin .lss (.t 23) (.k (.int .i64 0))),op 2 (.mov (.t 24))]
[2])
.ret))))⟩
theorem k_schema_Spelt : chkF Tryz.prog Tryz.f245 c_schema_Spelt = true := by kernel_rfl
abbrev pc_schema_Spelt := @pcR n_schema_Spelt _ _ Tryz.func245 k_schema_Spelt
def c_schema_Spelt_1 : AFun := ⟨29, 1, [.t 2],
  (.seq (.reg [op 2 (.mov (.k (.bool false)))]
[0])
(.seq (.reg [op 3 (.mov (.t 0)),op 4 (.bin .neq (.t 3) (.k (.int .i32 95))),op 5 (.mov (.t 4)),
⟨some 6, .mov (.t 0), (some (5, true))⟩,
⟨some 7, .bin .lss (.t 6) (.k (.int .i32 48)), (some (5, true))⟩,
⟨some 8, .mov (.t 7), (some (5, true))⟩,
⟨some 9, .mov (.t 0), (some (8, false))⟩,
⟨some 10, .bin .gtr (.t 9) (.k (.int .i32 57)), (some (8, false))⟩,
⟨some 11, .pick (.t 8) (.k (.bool true)) (.t 10), (some (5, true))⟩,op 12 (.pick (.t 5) (.t 11) (.k (.bool false))),op 13 (.mov (.t 12)),
⟨some 14, .mov (.t 0), (some (13, true))⟩,
⟨some 15, .bin .lss (.t 14) (.k (.int .i32 65)), (some (13, true))⟩,
⟨some 16, .mov (.t 15), (some (13, true))⟩,
⟨some 17, .mov (.t 0), (some (16, false))⟩,
⟨some 18, .bin .gtr (.t 17) (.k (.int .i32 90)), (some (16, false))⟩,
⟨some 19, .pick (.t 16) (.k (.bool true)) (.t 18), (some (13, true))⟩,op 20 (.pick (.t 13) (.t 19) (.k (.bool false))),op 21 (.mov (.t 20)),
⟨some 22, .mov (.t 0), (some (21, true))⟩,
⟨some 23, .bin .lss (.t 22) (.k (.int .i32 97)), (some (21, true))⟩,
⟨some 24, .mov (.t 23), (some (21, true))⟩,
⟨some 25, .mov (.t 0), (some (24, false))⟩,
⟨some 26, .bin .gtr (.t 25) (.k (.int .i32 122)), (some (24, false))⟩,
⟨some 27, .pick (.t 24) (.k (.bool true)) (.t 26), (some (21, true))⟩,op 28 (.pick (.t 21) (.t 27) (.k (.bool false))),op 2 (.mov (.t 28))]
[2])
.ret))⟩
theorem k_schema_Spelt_1 : chkF Tryz.prog Tryz.f272 c_schema_Spelt_1 = true := by kernel_rfl
abbrev pc_schema_Spelt_1 := @pcR n_schema_Spelt_1 _ _ Tryz.func272 k_schema_Spelt_1
def c_schema_Word : AFun := ⟨10, 1, [.t 2],
  (.seq (.reg [op 2 (.mov (.k (.bool false)))]
[0])
(.seq (.reg [op 3 (.mov (.t 0)),op 4 (.call n_schema_Spelt [.t 3]),op 5 (.mov (.t 4)),
⟨some 6, .slcG 22 (.g 5), (some (5, true))⟩,
⟨some 7, .mov (.t 0), (some (5, true))⟩,
⟨some 8, .call nsCss_ [.t 6, .t 7], (some (5, true))⟩,op 9 (.pick (.t 5) (.t 8) (.k (.bool false))),op 2 (.mov (.t 9))]
[2])
.ret))⟩
theorem k_schema_Word : chkF Tryz.prog Tryz.f246 c_schema_Word = true := by kernel_rfl
abbrev pc_schema_Word := @pcR n_schema_Word _ _ Tryz.func246 k_schema_Word
def c_schema_one : AFun := ⟨37, 2, [.t 4],
  (.seq (.reg [op 4 (.mov (.k (.int .i64 0)))]
[0, 1])
(.seq (.reg [op 8 (.mov (.t 0)),op 9 (.mov (.t 1)),op 10 (.iaddr 2 (.t 8) (.t 9)),op 11 (.loadN (.t 10) 2),op 5 (.alloc t_api_Decl 2 (.agg [.str [], .nils])),
⟨none, .store (.t 5) (.t 11) 2, none⟩]
[0, 1, 5])
(.seq (.reg [op 13 (.mov (.t 0)),op 14 (.faddr (.t 5) 0),op 15 (.load (.t 14)),op 16 (.call n_schema_Find [.t 13, .t 15]),op 12 (.mov (.t 16)),op 17 (.ext (.t 12) 0),op 18 (.ext (.t 12) 1),op 6 (.mov (.t 17)),op 7 (.mov (.t 18))]
[1, 5, 6])
(.seq (.block 0
(.seq (.reg [op 20 (.faddr (.t 5) 0),op 21 (.load (.t 20)),op 22 (.call n_schema_Name [.t 21]),op 23 (.un .not (.t 22)),op 19 (.mov (.t 23))]
[1, 5, 6, 19])
(.cond (.t 19)
(.seq (.reg [op 4 (.mov (.k (.int .i64 11)))]
[4])
.ret)
(.seq (.reg [op 25 (.mov (.t 6)),op 26 (.mov (.t 1)),op 27 (.bin .lss (.t 25) (.t 26)),op 24 (.mov (.t 27))]
[5, 24])
(.cond (.t 24)
(.seq (.reg [op 4 (.mov (.k (.int .i64 10)))]
[4])
.ret)
(.seq (.reg [op 29 (.faddr (.t 5) 1),op 30 (.load (.t 29)),op 31 (.len false (.t 30)),op 32 (.bin .gtr (.t 31) (.k (.int .i64 8))),op 28 (.mov (.t 32))]
[5, 28])
(.cond (.t 28)
(.seq (.reg [op 4 (.mov (.k (.int .i64 14)))]
[4])
.ret)
(.seq (.reg [op 34 (.faddr (.t 5) 1),op 35 (.load (.t 34)),op 36 (.call nsCii_ [.t 35, .f n_schema_one_1]),op 33 (.mov (.t 36))]
[33])
(.cond (.t 33)
(.seq (.reg [op 4 (.mov (.k (.int .i64 8)))]
[4])
.ret)
.skip)))))))))
(.seq (.reg [op 4 (.mov (.k (.int .i64 0)))]
[4])
.ret)))))⟩
theorem k_schema_one : chkF Tryz.prog Tryz.f244 c_schema_one = true := by kernel_rfl
abbrev pc_schema_one := @pcR n_schema_one _ _ Tryz.func244 k_schema_one
def c_schema_one_1 : AFun := ⟨6, 1, [.t 2],
  (.seq (.reg [op 2 (.mov (.k (.bool false)))]
[0])
(.seq (.reg [op 3 (.mov (.t 0)),op 4 (.call n_value_Name [.t 3]),op 5 (.bin .eql (.t 4) (.k (.str []))),op 2 (.mov (.t 5))]
[2])
.ret))⟩
theorem k_schema_one_1 : chkF Tryz.prog Tryz.f271 c_schema_one_1 = true := by kernel_rfl
abbrev pc_schema_one_1 := @pcR n_schema_one_1 _ _ Tryz.func271 k_schema_one_1
def c_subset_New : AFun := ⟨28, 1, [.t 2],
  (.seq (.reg [op 1 (.box taQ_ 9 (.t 0)),op 2 (.mov (.k (.nilp)))]
[1])
(.seq (.seq (.reg [op 3 (.loadN (.t 1) 9),op 4 (.call n_core_Right [.t 3]),op 5 (.un .not (.t 4)),op 6 (.mov (.t 5)),
⟨some 7, .loadN (.t 1) 9, (some (6, false))⟩,
⟨some 8, .call n_core_Plain [.t 7], (some (6, false))⟩,
⟨some 9, .un .not (.t 8), (some (6, false))⟩,op 10 (.pick (.t 6) (.k (.bool true)) (.t 9))]
[1, 10])
(.cond (.t 10)
(.seq (.reg [op 2 (.mov (.k (.nilp)))]
[2])
.ret)
.skip))
(.seq (.reg [op 11 (.loadN (.t 1) 9),op 12 .mkmap,op 13 (.faddr (.t 1) 4),op 14 (.load (.t 13)),op 15 (.len false (.t 14)),op 16 (.conv .u64 (.t 15)),op 17 (.bin .shl (.k (.int .u32 1)) (.t 16)),op 18 (.bin .sub (.t 17) (.k (.int .u32 1))),op 19 (.faddr (.t 1) 6),op 20 (.load (.t 19)),op 21 (.len false (.t 20)),op 22 (.conv .u64 (.t 21)),op 23 (.bin .shl (.k (.int .u64 1)) (.t 22)),op 24 (.bin .sub (.t 23) (.k (.int .u64 1))),op 25 (.build [.int .u32 0, .int .u64 0] [(0, 1, .t 18), (1, 1, .t 24)]),op 26 (.build [.str [], .nils, .nils, .nils, .nils, .int .i64 0, .nils, .nils, .nils, .nilm, .int .u32 0, .int .u64 0] [(0, 9, .t 11), (9, 1, .t 12), (10, 2, .t 25)]),op 27 (.box t_subset_Auto 12 (.t 26)),op 2 (.mov (.t 27))]
[2])
.ret)))⟩
theorem k_subset_New : chkF Tryz.prog Tryz.f27 c_subset_New = true := by kernel_rfl
theorem hc_subset_New {G : Nat → Option AV} {args : List AV} {r : AV} {H H1 : List (Nat × Box)} (h : RunsH Tryz.prog G c_subset_New args H r H1) (hk : args.length = c_subset_New.k := by rfl) (hh : highB c_subset_New.N H = true := by rfl) : HeapC Tryz.prog G n_subset_New args H r H1 := HeapC.of_runs (fn := Tryz.f27) (A := c_subset_New) Tryz.func27 k_subset_New hk hh h
def c_value_Bool : AFun := ⟨5, 1, [.cells 2 4],
  (.seq (.reg [op 2 (.alloc taV_ 4 (.agg [.int .i64 0, .int .i64 0, .str [], .bool false]))]
[0, 2])
(.seq (.reg [op 3 (.mov (.t 0)),op 4 (.build [.int .i64 0, .int .i64 0, .str [], .bool false] [(0, 1, .k (.int .i64 3)), (3, 1, .t 3)]),
⟨none, .store (.t 2) (.t 4) 4, none⟩]
[2])
.ret))⟩
theorem k_value_Bool : chkF Tryz.prog Tryz.f180 c_value_Bool = true := by kernel_rfl
abbrev pc_value_Bool := @pcR n_value_Bool _ _ Tryz.func180 k_value_Bool
def c_value_Int : AFun := ⟨5, 1, [.cells 2 4],
  (.seq (.reg [op 2 (.alloc taV_ 4 (.agg [.int .i64 0, .int .i64 0, .str [], .bool false]))]
[0, 2])
(.seq (.reg [op 3 (.mov (.t 0)),op 4 (.build [.int .i64 0, .int .i64 0, .str [], .bool false] [(0, 1, .k (.int .i64 1)), (1, 1, .t 3)]),
⟨none, .store (.t 2) (.t 4) 4, none⟩]
[2])
.ret))⟩
theorem k_value_Int : chkF Tryz.prog Tryz.f178 c_value_Int = true := by kernel_rfl
abbrev pc_value_Int := @pcR n_value_Int _ _ Tryz.func178 k_value_Int
def c_value_Name : AFun := ⟨10, 1, [.t 2],
  (.seq (.reg [op 2 (.mov (.k (.str [])))]
[0])
(.seq (.seq (.reg [op 3 (.mov (.t 0))]
[3])
(.block 0
(.seq (.reg [op 5 (.bin .eql (.t 3) (.k (.int .i64 1))),op 4 (.mov (.t 5))]
[3, 4])
(.cond (.t 4)
(.seq (.reg [op 2 (.mov (.k (.str [105, 110, 116])))]
[2])
.ret)
(.seq (.reg [op 7 (.bin .eql (.t 3) (.k (.int .i64 2))),op 6 (.mov (.t 7))]
[3, 6])
(.cond (.t 6)
(.seq (.reg [op 2 (.mov (.k (.str [115, 116, 114, 105, 110, 103])))]
[2])
.ret)
(.seq (.reg [op 9 (.bin .eql (.t 3) (.k (.int .i64 3))),op 8 (.mov (.t 9))]
[8])
(.cond (.t 8)
(.seq (.reg [op 2 (.mov (.k (.str [98, 111, 111, 108])))]
[2])
.ret)
.skip))))))))
(.seq (.reg [op 2 (.mov (.k (.str [])))]
[2])
.ret)))⟩
theorem k_value_Name : chkF Tryz.prog Tryz.f193 c_value_Name = true := by kernel_rfl
abbrev pc_value_Name := @pcR n_value_Name _ _ Tryz.func193 k_value_Name
def c_value_Right : AFun := ⟨32, 1, [.t 2],
  (.seq (.reg [op 1 (.box taV_ 4 (.t 0)),op 2 (.mov (.k (.bool false)))]
[1])
(.seq (.seq (.reg [op 3 (.faddr (.t 1) 0),op 4 (.load (.t 3))]
[1, 4])
(.block 0
(.seq (.reg [op 6 (.bin .eql (.t 4) (.k (.int .i64 1))),op 5 (.mov (.t 6))]
[1, 4, 5])
(.cond (.t 5)
(.seq (.dreg [op 7 (.loadN (.t 1) 4),op 8 (.faddr (.t 1) 1),op 9 (.load (.t 8)),op 10 (.call n_value_Int [.t 9]),op 11 (.eqA false [0, 0, 1, 2] (.t 7) (.t 10)),op 2 (.mov (.t 11))]
[2])
.ret)
(.seq (.reg [op 13 (.bin .eql (.t 4) (.k (.int .i64 2))),op 12 (.mov (.t 13))]
[1, 4, 12])
(.cond (.t 12)
(.seq (.dreg [op 14 (.loadN (.t 1) 4),op 15 (.faddr (.t 1) 2),op 16 (.load (.t 15)),op 17 (.call n_value_Str [.t 16]),op 18 (.eqA false [0, 0, 1, 2] (.t 14) (.t 17)),op 19 (.mov (.t 18)),
⟨some 20, .faddr (.t 1) 2, (some (19, true))⟩,
⟨some 21, .load (.t 20), (some (19, true))⟩,
⟨some 22, .len true (.t 21), (some (19, true))⟩,
⟨some 23, .bin .leq (.t 22) (.k (.int .i64 4096)), (some (19, true))⟩,op 24 (.pick (.t 19) (.t 23) (.k (.bool false))),op 2 (.mov (.t 24))]
[2])
.ret)
(.seq (.reg [op 26 (.bin .eql (.t 4) (.k (.int .i64 3))),op 25 (.mov (.t 26))]
[1, 25])
(.cond (.t 25)
(.seq (.dreg [op 27 (.loadN (.t 1) 4),op 28 (.faddr (.t 1) 3),op 29 (.load (.t 28)),op 30 (.call n_value_Bool [.t 29]),op 31 (.eqA false [0, 0, 1, 2] (.t 27) (.t 30)),op 2 (.mov (.t 31))]
[2])
.ret)
.skip))))))))
(.seq (.reg [op 2 (.mov (.k (.bool false)))]
[2])
.ret)))⟩
theorem k_value_Right : chkF Tryz.prog Tryz.f120 c_value_Right = true := by kernel_rfl
abbrev pc_value_Right := @pcR n_value_Right _ _ Tryz.func120 k_value_Right
def c_value_Str : AFun := ⟨5, 1, [.cells 2 4],
  (.seq (.reg [op 2 (.alloc taV_ 4 (.agg [.int .i64 0, .int .i64 0, .str [], .bool false]))]
[0, 2])
(.seq (.reg [op 3 (.mov (.t 0)),op 4 (.build [.int .i64 0, .int .i64 0, .str [], .bool false] [(0, 1, .k (.int .i64 2)), (2, 1, .t 3)]),
⟨none, .store (.t 2) (.t 4) 4, none⟩]
[2])
.ret))⟩
theorem k_value_Str : chkF Tryz.prog Tryz.f179 c_value_Str = true := by kernel_rfl
abbrev pc_value_Str := @pcR n_value_Str _ _ Tryz.func179 k_value_Str
def c_value_Type : AFun := ⟨81, 3, [.t 6],
  (.seq (.reg [op 6 (.mov (.k (.int .i64 0)))]
[0, 1, 2])
(.seq (.seq (.reg [op 7 (.mov (.t 0))]
[1, 2, 7])
(.block 0
(.seq (.block 7
(.seq (.block 6
(.seq (.block 5
(.seq (.block 4
(.seq (.block 3
(.seq (.block 2
(.seq (.block 1
(.seq (.seq (.seq (.reg [op 9 (.bin .eql (.t 7) (.k (.int .i64 4))),op 8 (.mov (.t 9))]
[1, 2, 7, 8])
(.cond (.t 8)
(.exit 1)
.skip))
(.seq (.seq (.seq (.reg [op 11 (.bin .eql (.t 7) (.k (.int .i64 6))),op 10 (.mov (.t 11))]
[1, 2, 7, 10])
(.cond (.t 10)
.skip
(.reg [op 12 (.bin .eql (.t 7) (.k (.int .i64 7))),op 10 (.mov (.t 12))]
[1, 2, 7, 10])))
(.cond (.t 10)
(.exit 2)
.skip))
(.seq (.seq (.reg [op 14 (.bin .eql (.t 7) (.k (.int .i64 5))),op 13 (.mov (.t 14))]
[1, 2, 7, 13])
(.cond (.t 13)
(.exit 3)
.skip))
(.seq (.seq (.seq (.reg [op 16 (.bin .eql (.t 7) (.k (.int .i64 9))),op 15 (.mov (.t 16))]
[1, 2, 7, 15])
(.cond (.t 15)
.skip
(.seq (.reg [op 17 (.bin .eql (.t 7) (.k (.int .i64 10))),op 15 (.mov (.t 17))]
[1, 2, 7, 15])
(.cond (.t 15)
.skip
(.seq (.reg [op 18 (.bin .eql (.t 7) (.k (.int .i64 11))),op 15 (.mov (.t 18))]
[1, 2, 7, 15])
(.cond (.t 15)
.skip
(.reg [op 19 (.bin .eql (.t 7) (.k (.int .i64 12))),op 15 (.mov (.t 19))]
[1, 2, 7, 15])))))))
(.cond (.t 15)
(.exit 4)
.skip))
(.seq (.seq (.reg [op 21 (.bin .eql (.t 7) (.k (.int .i64 8))),op 20 (.mov (.t 21))]
[1, 2, 7, 20])
(.cond (.t 20)
(.exit 5)
.skip))
(.seq (.seq (.seq (.reg [op 23 (.bin .eql (.t 7) (.k (.int .i64 13))),op 22 (.mov (.t 23))]
[1, 2, 7, 22])
(.cond (.t 22)
.skip
(.reg [op 24 (.bin .eql (.t 7) (.k (.int .i64 14))),op 22 (.mov (.t 24))]
[1, 2, 7, 22])))
(.cond (.t 22)
(.exit 6)
.skip))
(.seq (.seq (.reg [op 26 (.bin .eql (.t 7) (.k (.int .i64 15))),op 25 (.mov (.t 26))]
[1, 2, 7, 25])
(.cond (.t 25)
.skip
(.reg [op 27 (.bin .eql (.t 7) (.k (.int .i64 16))),op 25 (.mov (.t 27))]
[1, 2, 25])))
(.cond (.t 25)
(.exit 7)
.skip))))))))
(.exit 0)))
(.reg [op 28 (.mov (.t 1)),op 2 (.mov (.t 28))]
[1, 2])))
(.seq (.seq (.reg [op 29 (.mov (.t 1)),op 30 (.bin .eql (.t 29) (.k (.int .i64 3))),op 31 (.mov (.t 30)),
⟨some 32, .mov (.t 2), (some (31, true))⟩,
⟨some 33, .mov (.t 1), (some (31, true))⟩,
⟨some 34, .bin .eql (.t 32) (.t 33), (some (31, true))⟩,op 35 (.pick (.t 31) (.t 34) (.k (.bool false))),op 36 (.call n_value_when [.t 35, .k (.int .i64 3)]),op 6 (.mov (.t 36))]
[6])
.ret)
(.exit 0))))
(.reg [op 37 (.mov (.t 1)),op 2 (.mov (.t 37))]
[1, 2])))
(.seq (.seq (.reg [op 38 (.mov (.t 1)),op 39 (.bin .eql (.t 38) (.k (.int .i64 1))),op 40 (.mov (.t 39)),
⟨some 41, .mov (.t 2), (some (40, true))⟩,
⟨some 42, .mov (.t 1), (some (40, true))⟩,
⟨some 43, .bin .eql (.t 41) (.t 42), (some (40, true))⟩,op 44 (.pick (.t 40) (.t 43) (.k (.bool false))),op 45 (.mov (.t 1)),op 46 (.call n_value_when [.t 44, .t 45]),op 6 (.mov (.t 46))]
[6])
.ret)
(.exit 0))))
(.seq (.seq (.reg [op 47 (.mov (.t 1)),op 48 (.bin .eql (.t 47) (.k (.int .i64 1))),op 49 (.mov (.t 48)),
⟨some 50, .mov (.t 1), (some (49, false))⟩,
⟨some 51, .bin .eql (.t 50) (.k (.int .i64 2)), (some (49, false))⟩,op 52 (.pick (.t 49) (.k (.bool true)) (.t 51)),op 53 (.mov (.t 52)),
⟨some 54, .mov (.t 2), (some (53, true))⟩,
⟨some 55, .mov (.t 1), (some (53, true))⟩,
⟨some 56, .bin .eql (.t 54) (.t 55), (some (53, true))⟩,op 57 (.pick (.t 53) (.t 56) (.k (.bool false))),op 58 (.mov (.t 1)),op 59 (.call n_value_when [.t 57, .t 58]),op 6 (.mov (.t 59))]
[6])
.ret)
(.exit 0))))
(.seq (.seq (.reg [op 60 (.mov (.t 1)),op 61 (.call n_value_Name [.t 60]),op 62 (.bin .neq (.t 61) (.k (.str []))),op 63 (.mov (.t 62)),
⟨some 64, .mov (.t 2), (some (63, true))⟩,
⟨some 65, .mov (.t 1), (some (63, true))⟩,
⟨some 66, .bin .eql (.t 64) (.t 65), (some (63, true))⟩,op 67 (.pick (.t 63) (.t 66) (.k (.bool false))),op 68 (.call n_value_when [.t 67, .k (.int .i64 3)]),op 6 (.mov (.t 68))]
[6])
.ret)
(.exit 0))))
(.seq (.seq (.reg [op 69 (.mov (.t 1)),op 70 (.bin .eql (.t 69) (.k (.int .i64 1))),op 71 (.mov (.t 70)),
⟨some 72, .mov (.t 1), (some (71, false))⟩,
⟨some 73, .bin .eql (.t 72) (.k (.int .i64 2)), (some (71, false))⟩,op 74 (.pick (.t 71) (.k (.bool true)) (.t 73)),op 75 (.mov (.t 74)),
⟨some 76, .mov (.t 2), (some (75, true))⟩,
⟨some 77, .mov (.t 1), (some (75, true))⟩,
⟨some 78, .bin .eql (.t 76) (.t 77), (some (75, true))⟩,op 79 (.pick (.t 75) (.t 78) (.k (.bool false))),op 80 (.call n_value_when [.t 79, .k (.int .i64 3)]),op 6 (.mov (.t 80))]
[6])
.ret)
(.exit 0)))))
(.seq (.reg [op 6 (.mov (.k (.int .i64 0)))]
[6])
.ret)))⟩
theorem k_value_Type : chkF Tryz.prog Tryz.f251 c_value_Type = true := by kernel_rfl
abbrev pc_value_Type := @pcR n_value_Type _ _ Tryz.func251 k_value_Type
def c_value_when : AFun := ⟨8, 2, [.t 4],
  (.seq (.reg [op 4 (.mov (.k (.int .i64 0)))]
[0, 1])
(.seq (.seq (.reg [op 5 (.mov (.t 0)),op 6 (.un .not (.t 5))]
[1, 6])
(.cond (.t 6)
(.seq (.reg [op 4 (.mov (.k (.int .i64 0)))]
[4])
.ret)
.skip))
(.seq (.reg [op 7 (.mov (.t 1)),op 4 (.mov (.t 7))]
[4])
.ret)))⟩
theorem k_value_when : chkF Tryz.prog Tryz.f275 c_value_when = true := by kernel_rfl
abbrev pc_value_when := @pcR n_value_when _ _ Tryz.func275 k_value_when
def c_slices_ContainsFunc_int_int : AFun := ⟨9, 2, [.t 4],
  (.seq (.reg [op 4 (.mov (.k (.bool false)))]
[0, 1])
(.seq (.reg [op 5 (.mov (.t 0)),op 6 (.mov (.t 1)),op 7 (.call nsIii_ [.t 5, .t 6]),op 8 (.bin .geq (.t 7) (.k (.int .i64 0))),op 4 (.mov (.t 8))]
[4])
.ret))⟩
theorem k_slices_ContainsFunc_int_int : chkF Tryz.prog Tryz.f149 c_slices_ContainsFunc_int_int = true := by kernel_rfl
abbrev pc_slices_ContainsFunc_int_int := @pcR nsCii_ _ _ Tryz.func149 k_slices_ContainsFunc_int_int
def cs10 : AFun := ⟨9, 2, [.t 4],
  (.seq (.reg [op 4 (.mov (.k (.bool false)))]
[0, 1])
(.seq (.reg [op 5 (.mov (.t 0)),op 6 (.mov (.t 1)),op 7 (.call ns11 [.t 5, .t 6]),op 8 (.bin .geq (.t 7) (.k (.int .i64 0))),op 4 (.mov (.t 8))]
[4])
.ret))⟩
theorem k_slices_ContainsFunc_api_Set_api_Set : chkF Tryz.prog Tryz.f155 cs10 = true := by kernel_rfl
abbrev pc_slices_ContainsFunc_api_Set_api_Set := @pcR ns10 _ _ Tryz.func155 k_slices_ContainsFunc_api_Set_api_Set
def csCaSaS_ : AFun := ⟨9, 2, [.t 4],
  (.seq (.reg [op 4 (.mov (.k (.bool false)))]
[0, 1])
(.seq (.reg [op 5 (.mov (.t 0)),op 6 (.mov (.t 1)),op 7 (.call nsIaSaS_ [.t 5, .t 6]),op 8 (.bin .geq (.t 7) (.k (.int .i64 0))),op 4 (.mov (.t 8))]
[4])
.ret))⟩
theorem k_slices_ContainsFunc_api_Symbol_api_Symbol : chkF Tryz.prog Tryz.f99 csCaSaS_ = true := by kernel_rfl
abbrev pc_slices_ContainsFunc_api_Symbol_api_Symbol := @pcR nsCaSaS_ _ _ Tryz.func99 k_slices_ContainsFunc_api_Symbol_api_Symbol
def csCaTaT_ : AFun := ⟨9, 2, [.t 4],
  (.seq (.reg [op 4 (.mov (.k (.bool false)))]
[0, 1])
(.seq (.reg [op 5 (.mov (.t 0)),op 6 (.mov (.t 1)),op 7 (.call nsIaTaT_ [.t 5, .t 6]),op 8 (.bin .geq (.t 7) (.k (.int .i64 0))),op 4 (.mov (.t 8))]
[4])
.ret))⟩
theorem k_slices_ContainsFunc_api_Trans_api_Trans : chkF Tryz.prog Tryz.f132 csCaTaT_ = true := by kernel_rfl
abbrev pc_slices_ContainsFunc_api_Trans_api_Trans := @pcR nsCaTaT_ _ _ Tryz.func132 k_slices_ContainsFunc_api_Trans_api_Trans
def c_slices_Contains_int_int : AFun := ⟨9, 2, [.t 4],
  (.seq (.reg [op 4 (.mov (.k (.bool false)))]
[0, 1])
(.seq (.reg [op 5 (.mov (.t 0)),op 6 (.mov (.t 1)),op 7 (.call n_slices_Index_int_int [.t 5, .t 6]),op 8 (.bin .geq (.t 7) (.k (.int .i64 0))),op 4 (.mov (.t 8))]
[4])
.ret))⟩
theorem k_slices_Contains_int_int : chkF Tryz.prog Tryz.f86 c_slices_Contains_int_int = true := by kernel_rfl
abbrev pc_slices_Contains_int_int := @pcR ns12 _ _ Tryz.func86 k_slices_Contains_int_int
def csCaAaA_ : AFun := ⟨9, 2, [.t 4],
  (.seq (.reg [op 3 (.box t_api_Arg 6 (.t 1)),op 4 (.mov (.k (.bool false)))]
[0, 3])
(.seq (.reg [op 5 (.mov (.t 0)),op 6 (.loadN (.t 3) 6),op 7 (.call nsIaAaA_ [.t 5, .t 6]),op 8 (.bin .geq (.t 7) (.k (.int .i64 0))),op 4 (.mov (.t 8))]
[4])
.ret))⟩
theorem k_slices_Contains_api_Arg_api_Arg : chkF Tryz.prog Tryz.f154 csCaAaA_ = true := by kernel_rfl
abbrev pc_slices_Contains_api_Arg_api_Arg := @pcR nsCaAaA_ _ _ Tryz.func154 k_slices_Contains_api_Arg_api_Arg
def c_slices_Contains_string_string : AFun := ⟨9, 2, [.t 4],
  (.seq (.reg [op 4 (.mov (.k (.bool false)))]
[0, 1])
(.seq (.reg [op 5 (.mov (.t 0)),op 6 (.mov (.t 1)),op 7 (.call nsIss_ [.t 5, .t 6]),op 8 (.bin .geq (.t 7) (.k (.int .i64 0))),op 4 (.mov (.t 8))]
[4])
.ret))⟩
theorem k_slices_Contains_string_string : chkF Tryz.prog Tryz.f274 c_slices_Contains_string_string = true := by kernel_rfl
abbrev pc_slices_Contains_string_string := @pcR nsCss_ _ _ Tryz.func274 k_slices_Contains_string_string
def csEaAiaAi_ : AFun := ⟨32, 3, [.t 6],
  (.seq (.reg [op 6 (.mov (.k (.bool false)))]
[0, 1, 2])
(.seq (.seq (.reg [op 10 (.mov (.t 0)),op 11 (.len false (.t 10)),op 12 (.mov (.t 1)),op 13 (.len false (.t 12)),op 14 (.bin .neq (.t 11) (.t 13))]
[0, 1, 2, 14])
(.cond (.t 14)
(.seq (.reg [op 6 (.mov (.k (.bool false)))]
[6])
.ret)
.skip))
(.seq (.seq (.reg [op 15 (.mov (.t 0)),op 16 (.len false (.t 15)),op 17 (.mov (.k (.int .i64 0)))]
[1, 2, 15, 16, 17])
(.block 0
(.loop [1, 2, 15, 16, 17] [11, 13, 16]
  (.seq (.reg [op 18 (.bin .lss (.t 17) (.t 16))]
[1, 2, 15, 16, 17, 18])
(.seq (.cond (.t 18)
.skip
(.exit 0))
(.seq (.block 1
(.seq (.reg [op 19 (.mov (.t 17)),op 20 (.iaddr 6 (.t 15) (.t 17)),op 21 (.loadN (.t 20) 6),op 8 (.alloc t_api_Arg 6 (.agg [.int .i64 0, .int .i64 0, .int .i64 0, .int .i64 0, .str [], .bool false])),op 7 (.mov (.t 19)),
⟨none, .store (.t 8) (.t 21) 6, none⟩]
[1, 2, 7, 8, 15, 16, 17])
(.seq (.reg [op 22 (.mov (.t 1)),op 23 (.mov (.t 7)),op 24 (.iaddr 1 (.t 22) (.t 23)),op 25 (.load (.t 24)),op 9 (.mov (.t 25))]
[1, 2, 8, 9, 15, 16, 17])
(.seq (.reg [op 26 (.mov (.t 2)),op 27 (.loadN (.t 8) 6),op 28 (.mov (.t 9)),op 29 (.callv (.t 26) [.t 27, .t 28]),op 30 (.un .not (.t 29))]
[1, 2, 15, 16, 17, 30])
(.cond (.t 30)
(.seq (.reg [op 6 (.mov (.k (.bool false)))]
[6])
.ret)
.skip)))))
(.reg [op 31 (.bin .add (.t 17) (.k (.int .i64 1))),op 17 (.mov (.t 31))]
[1, 2, 15, 16, 17])))))))
(.seq (.reg [op 6 (.mov (.k (.bool true)))]
[6])
.ret))))⟩
theorem k_slices_EqualFunc_api_Arg_int_api_Arg_int : chkF Tryz.prog Tryz.f252 csEaAiaAi_ = true := by kernel_rfl
abbrev pc_slices_EqualFunc_api_Arg_int_api_Arg_int := @pcR nsEaAiaAi_ _ _ Tryz.func252 k_slices_EqualFunc_api_Arg_int_api_Arg_int
def c_slices_Equal_api_Arg_api_Arg : AFun := ⟨26, 2, [.t 4],
  (.seq (.reg [op 4 (.mov (.k (.bool false)))]
[0, 1])
(.seq (.seq (.reg [op 6 (.mov (.t 0)),op 7 (.len false (.t 6)),op 8 (.mov (.t 1)),op 9 (.len false (.t 8)),op 10 (.bin .neq (.t 7) (.t 9))]
[0, 1, 10])
(.cond (.t 10)
(.seq (.reg [op 4 (.mov (.k (.bool false)))]
[4])
.ret)
.skip))
(.seq (.seq (.reg [op 11 (.mov (.t 0)),op 12 (.len false (.t 11)),op 13 (.mov (.k (.int .i64 0)))]
[0, 1, 12, 13])
(.block 0
(.loop [0, 1, 12, 13] [7, 9, 12]
  (.seq (.reg [op 14 (.bin .lss (.t 13) (.t 12))]
[0, 1, 12, 13, 14])
(.seq (.cond (.t 14)
.skip
(.exit 0))
(.seq (.block 1
(.seq (.reg [op 15 (.mov (.t 13)),op 5 (.mov (.t 15))]
[0, 1, 5, 12, 13])
(.seq (.dreg [op 16 (.mov (.t 0)),op 17 (.mov (.t 5)),op 18 (.iaddr 6 (.t 16) (.t 17)),op 19 (.loadN (.t 18) 6),op 20 (.mov (.t 1)),op 21 (.mov (.t 5)),op 22 (.iaddr 6 (.t 20) (.t 21)),op 23 (.loadN (.t 22) 6),op 24 (.eqA true [0, 0, 0, 0, 1, 2] (.t 19) (.t 23))]
[0, 1, 12, 13, 24])
(.cond (.t 24)
(.seq (.reg [op 4 (.mov (.k (.bool false)))]
[4])
.ret)
.skip))))
(.reg [op 25 (.bin .add (.t 13) (.k (.int .i64 1))),op 13 (.mov (.t 25))]
[0, 1, 12, 13])))))))
(.seq (.reg [op 4 (.mov (.k (.bool true)))]
[4])
.ret))))⟩
theorem k_slices_Equal_api_Arg_api_Arg : chkF Tryz.prog Tryz.f255 c_slices_Equal_api_Arg_api_Arg = true := by kernel_rfl
abbrev pc_slices_Equal_api_Arg_api_Arg := @pcR nsEaAaA_ _ _ Tryz.func255 k_slices_Equal_api_Arg_api_Arg
def c_slices_IndexFunc_int_int : AFun := ⟨19, 2, [.t 4],
  (.seq (.reg [op 4 (.mov (.k (.int .i64 0)))]
[0, 1])
(.seq (.seq (.reg [op 6 (.mov (.t 0)),op 7 (.len false (.t 6)),op 8 (.mov (.k (.int .i64 0)))]
[0, 1, 7, 8])
(.block 0
(.loop [0, 1, 7, 8] [7]
  (.seq (.reg [op 9 (.bin .lss (.t 8) (.t 7))]
[0, 1, 7, 8, 9])
(.seq (.cond (.t 9)
.skip
(.exit 0))
(.seq (.block 1
(.seq (.reg [op 10 (.mov (.t 8)),op 5 (.mov (.t 10))]
[0, 1, 5, 7, 8])
(.seq (.reg [op 11 (.mov (.t 1)),op 12 (.mov (.t 0)),op 13 (.mov (.t 5)),op 14 (.iaddr 1 (.t 12) (.t 13)),op 15 (.load (.t 14)),op 16 (.callv (.t 11) [.t 15])]
[0, 1, 5, 7, 8, 16])
(.cond (.t 16)
(.seq (.reg [op 17 (.mov (.t 5)),op 4 (.mov (.t 17))]
[4])
.ret)
.skip))))
(.reg [op 18 (.bin .add (.t 8) (.k (.int .i64 1))),op 8 (.mov (.t 18))]
[0, 1, 7, 8])))))))
(.seq (.reg [op 4 (.mov (.k (.int .i64 (-1))))]
[4])
.ret)))⟩
theorem k_slices_IndexFunc_int_int : chkF Tryz.prog Tryz.f223 c_slices_IndexFunc_int_int = true := by kernel_rfl
abbrev pc_slices_IndexFunc_int_int := @pcR nsIii_ _ _ Tryz.func223 k_slices_IndexFunc_int_int
def csIaDaD_ : AFun := ⟨19, 2, [.t 4],
  (.seq (.reg [op 4 (.mov (.k (.int .i64 0)))]
[0, 1])
(.seq (.seq (.reg [op 6 (.mov (.t 0)),op 7 (.len false (.t 6)),op 8 (.mov (.k (.int .i64 0)))]
[0, 1, 7, 8])
(.block 0
(.loop [0, 1, 7, 8] [7]
  (.seq (.reg [op 9 (.bin .lss (.t 8) (.t 7))]
[0, 1, 7, 8, 9])
(.seq (.cond (.t 9)
.skip
(.exit 0))
(.seq (.block 1
(.seq (.reg [op 10 (.mov (.t 8)),op 5 (.mov (.t 10))]
[0, 1, 5, 7, 8])
(.seq (.reg [op 11 (.mov (.t 1)),op 12 (.mov (.t 0)),op 13 (.mov (.t 5)),op 14 (.iaddr 2 (.t 12) (.t 13)),op 15 (.loadN (.t 14) 2),op 16 (.callv (.t 11) [.t 15])]
[0, 1, 5, 7, 8, 16])
(.cond (.t 16)
(.seq (.reg [op 17 (.mov (.t 5)),op 4 (.mov (.t 17))]
[4])
.ret)
.skip))))
(.reg [op 18 (.bin .add (.t 8) (.k (.int .i64 1))),op 8 (.mov (.t 18))]
[0, 1, 7, 8])))))))
(.seq (.reg [op 4 (.mov (.k (.int .i64 (-1))))]
[4])
.ret)))⟩
theorem k_slices_IndexFunc_api_Decl_api_Decl : chkF Tryz.prog Tryz.f294 csIaDaD_ = true := by kernel_rfl
abbrev pc_slices_IndexFunc_api_Decl_api_Decl := @pcR nsIaDaD_ _ _ Tryz.func294 k_slices_IndexFunc_api_Decl_api_Decl
def cs11 : AFun := ⟨19, 2, [.t 4],
  (.seq (.reg [op 4 (.mov (.k (.int .i64 0)))]
[0, 1])
(.seq (.seq (.reg [op 6 (.mov (.t 0)),op 7 (.len false (.t 6)),op 8 (.mov (.k (.int .i64 0)))]
[0, 1, 7, 8])
(.block 0
(.loop [0, 1, 7, 8] [7]
  (.seq (.reg [op 9 (.bin .lss (.t 8) (.t 7))]
[0, 1, 7, 8, 9])
(.seq (.cond (.t 9)
.skip
(.exit 0))
(.seq (.block 1
(.seq (.reg [op 10 (.mov (.t 8)),op 5 (.mov (.t 10))]
[0, 1, 5, 7, 8])
(.seq (.reg [op 11 (.mov (.t 1)),op 12 (.mov (.t 0)),op 13 (.mov (.t 5)),op 14 (.iaddr 2 (.t 12) (.t 13)),op 15 (.loadN (.t 14) 2),op 16 (.callv (.t 11) [.t 15])]
[0, 1, 5, 7, 8, 16])
(.cond (.t 16)
(.seq (.reg [op 17 (.mov (.t 5)),op 4 (.mov (.t 17))]
[4])
.ret)
.skip))))
(.reg [op 18 (.bin .add (.t 8) (.k (.int .i64 1))),op 8 (.mov (.t 18))]
[0, 1, 7, 8])))))))
(.seq (.reg [op 4 (.mov (.k (.int .i64 (-1))))]
[4])
.ret)))⟩
theorem k_slices_IndexFunc_api_Set_api_Set : chkF Tryz.prog Tryz.f225 cs11 = true := by kernel_rfl
abbrev pc_slices_IndexFunc_api_Set_api_Set := @pcR ns11 _ _ Tryz.func225 k_slices_IndexFunc_api_Set_api_Set
def csIaSaS_ : AFun := ⟨19, 2, [.t 4],
  (.seq (.reg [op 4 (.mov (.k (.int .i64 0)))]
[0, 1])
(.seq (.seq (.reg [op 6 (.mov (.t 0)),op 7 (.len false (.t 6)),op 8 (.mov (.k (.int .i64 0)))]
[0, 1, 7, 8])
(.block 0
(.loop [0, 1, 7, 8] [7]
  (.seq (.reg [op 9 (.bin .lss (.t 8) (.t 7))]
[0, 1, 7, 8, 9])
(.seq (.cond (.t 9)
.skip
(.exit 0))
(.seq (.block 1
(.seq (.reg [op 10 (.mov (.t 8)),op 5 (.mov (.t 10))]
[0, 1, 5, 7, 8])
(.seq (.reg [op 11 (.mov (.t 1)),op 12 (.mov (.t 0)),op 13 (.mov (.t 5)),op 14 (.iaddr 2 (.t 12) (.t 13)),op 15 (.loadN (.t 14) 2),op 16 (.callv (.t 11) [.t 15])]
[0, 1, 5, 7, 8, 16])
(.cond (.t 16)
(.seq (.reg [op 17 (.mov (.t 5)),op 4 (.mov (.t 17))]
[4])
.ret)
.skip))))
(.reg [op 18 (.bin .add (.t 8) (.k (.int .i64 1))),op 8 (.mov (.t 18))]
[0, 1, 7, 8])))))))
(.seq (.reg [op 4 (.mov (.k (.int .i64 (-1))))]
[4])
.ret)))⟩
theorem k_slices_IndexFunc_api_Symbol_api_Symbol : chkF Tryz.prog Tryz.f161 csIaSaS_ = true := by kernel_rfl
abbrev pc_slices_IndexFunc_api_Symbol_api_Symbol := @pcR nsIaSaS_ _ _ Tryz.func161 k_slices_IndexFunc_api_Symbol_api_Symbol
def csIaTaT_ : AFun := ⟨19, 2, [.t 4],
  (.seq (.reg [op 4 (.mov (.k (.int .i64 0)))]
[0, 1])
(.seq (.seq (.reg [op 6 (.mov (.t 0)),op 7 (.len false (.t 6)),op 8 (.mov (.k (.int .i64 0)))]
[0, 1, 7, 8])
(.block 0
(.loop [0, 1, 7, 8] [7]
  (.seq (.reg [op 9 (.bin .lss (.t 8) (.t 7))]
[0, 1, 7, 8, 9])
(.seq (.cond (.t 9)
.skip
(.exit 0))
(.seq (.block 1
(.seq (.reg [op 10 (.mov (.t 8)),op 5 (.mov (.t 10))]
[0, 1, 5, 7, 8])
(.seq (.reg [op 11 (.mov (.t 1)),op 12 (.mov (.t 0)),op 13 (.mov (.t 5)),op 14 (.iaddr 5 (.t 12) (.t 13)),op 15 (.loadN (.t 14) 5),op 16 (.callv (.t 11) [.t 15])]
[0, 1, 5, 7, 8, 16])
(.cond (.t 16)
(.seq (.reg [op 17 (.mov (.t 5)),op 4 (.mov (.t 17))]
[4])
.ret)
.skip))))
(.reg [op 18 (.bin .add (.t 8) (.k (.int .i64 1))),op 8 (.mov (.t 18))]
[0, 1, 7, 8])))))))
(.seq (.reg [op 4 (.mov (.k (.int .i64 (-1))))]
[4])
.ret)))⟩
theorem k_slices_IndexFunc_api_Trans_api_Trans : chkF Tryz.prog Tryz.f215 csIaTaT_ = true := by kernel_rfl
abbrev pc_slices_IndexFunc_api_Trans_api_Trans := @pcR nsIaTaT_ _ _ Tryz.func215 k_slices_IndexFunc_api_Trans_api_Trans
def c_slices_Index_int_int : AFun := ⟨19, 2, [.t 4],
  (.seq (.reg [op 4 (.mov (.k (.int .i64 0)))]
[0, 1])
(.seq (.seq (.reg [op 6 (.mov (.t 0)),op 7 (.len false (.t 6)),op 8 (.mov (.k (.int .i64 0)))]
[0, 1, 7, 8])
(.block 0
(.loop [0, 1, 7, 8] [7]
  (.seq (.reg [op 9 (.bin .lss (.t 8) (.t 7))]
[0, 1, 7, 8, 9])
(.seq (.cond (.t 9)
.skip
(.exit 0))
(.seq (.block 1
(.seq (.reg [op 10 (.mov (.t 8)),op 5 (.mov (.t 10))]
[0, 1, 5, 7, 8])
(.seq (.reg [op 11 (.mov (.t 1)),op 12 (.mov (.t 0)),op 13 (.mov (.t 5)),op 14 (.iaddr 1 (.t 12) (.t 13)),op 15 (.load (.t 14)),op 16 (.bin .eql (.t 11) (.t 15))]
[0, 1, 5, 7, 8, 16])
(.cond (.t 16)
(.seq (.reg [op 17 (.mov (.t 5)),op 4 (.mov (.t 17))]
[4])
.ret)
.skip))))
(.reg [op 18 (.bin .add (.t 8) (.k (.int .i64 1))),op 8 (.mov (.t 18))]
[0, 1, 7, 8])))))))
(.seq (.reg [op 4 (.mov (.k (.int .i64 (-1))))]
[4])
.ret)))⟩
theorem k_slices_Index_int_int : chkF Tryz.prog Tryz.f147 c_slices_Index_int_int = true := by kernel_rfl
abbrev pc_slices_Index_int_int := @pcR n_slices_Index_int_int _ _ Tryz.func147 k_slices_Index_int_int
def c_slices_Index_api_Arg_api_Arg : AFun := ⟨19, 2, [.t 4],
  (.seq (.reg [op 3 (.box t_api_Arg 6 (.t 1)),op 4 (.mov (.k (.int .i64 0)))]
[0, 3])
(.seq (.seq (.reg [op 6 (.mov (.t 0)),op 7 (.len false (.t 6)),op 8 (.mov (.k (.int .i64 0)))]
[0, 3, 7, 8])
(.block 0
(.loop [0, 3, 7, 8] [3, 7]
  (.seq (.reg [op 9 (.bin .lss (.t 8) (.t 7))]
[0, 3, 7, 8, 9])
(.seq (.cond (.t 9)
.skip
(.exit 0))
(.seq (.block 1
(.seq (.reg [op 10 (.mov (.t 8)),op 5 (.mov (.t 10))]
[0, 3, 5, 7, 8])
(.seq (.dreg [op 11 (.loadN (.t 3) 6),op 12 (.mov (.t 0)),op 13 (.mov (.t 5)),op 14 (.iaddr 6 (.t 12) (.t 13)),op 15 (.loadN (.t 14) 6),op 16 (.eqA false [0, 0, 0, 0, 1, 2] (.t 11) (.t 15))]
[0, 3, 5, 7, 8, 16])
(.cond (.t 16)
(.seq (.reg [op 17 (.mov (.t 5)),op 4 (.mov (.t 17))]
[4])
.ret)
.skip))))
(.reg [op 18 (.bin .add (.t 8) (.k (.int .i64 1))),op 8 (.mov (.t 18))]
[0, 3, 7, 8])))))))
(.seq (.reg [op 4 (.mov (.k (.int .i64 (-1))))]
[4])
.ret)))⟩
theorem k_slices_Index_api_Arg_api_Arg : chkF Tryz.prog Tryz.f224 c_slices_Index_api_Arg_api_Arg = true := by kernel_rfl
abbrev pc_slices_Index_api_Arg_api_Arg := @pcR nsIaAaA_ _ _ Tryz.func224 k_slices_Index_api_Arg_api_Arg
def c_slices_Index_string_string : AFun := ⟨19, 2, [.t 4],
  (.seq (.reg [op 4 (.mov (.k (.int .i64 0)))]
[0, 1])
(.seq (.seq (.reg [op 6 (.mov (.t 0)),op 7 (.len false (.t 6)),op 8 (.mov (.k (.int .i64 0)))]
[0, 1, 7, 8])
(.block 0
(.loop [0, 1, 7, 8] [7]
  (.seq (.reg [op 9 (.bin .lss (.t 8) (.t 7))]
[0, 1, 7, 8, 9])
(.seq (.cond (.t 9)
.skip
(.exit 0))
(.seq (.block 1
(.seq (.reg [op 10 (.mov (.t 8)),op 5 (.mov (.t 10))]
[0, 1, 5, 7, 8])
(.seq (.reg [op 11 (.mov (.t 1)),op 12 (.mov (.t 0)),op 13 (.mov (.t 5)),op 14 (.iaddr 1 (.t 12) (.t 13)),op 15 (.load (.t 14)),op 16 (.bin .eql (.t 11) (.t 15))]
[0, 1, 5, 7, 8, 16])
(.cond (.t 16)
(.seq (.reg [op 17 (.mov (.t 5)),op 4 (.mov (.t 17))]
[4])
.ret)
.skip))))
(.reg [op 18 (.bin .add (.t 8) (.k (.int .i64 1))),op 8 (.mov (.t 18))]
[0, 1, 7, 8])))))))
(.seq (.reg [op 4 (.mov (.k (.int .i64 (-1))))]
[4])
.ret)))⟩
theorem k_slices_Index_string_string : chkF Tryz.prog Tryz.f249 c_slices_Index_string_string = true := by kernel_rfl
abbrev pc_slices_Index_string_string := @pcR nsIss_ _ _ Tryz.func249 k_slices_Index_string_string
def c_strings_IndexFunc : AFun := ⟨8, 2, [.t 4],
  (.seq (.reg [op 4 (.mov (.k (.int .i64 0)))]
[0, 1])
(.seq (.reg [op 5 (.mov (.t 0)),op 6 (.mov (.t 1)),op 7 (.call n_strings_indexFunc [.t 5, .t 6, .k (.bool true)]),op 4 (.mov (.t 7))]
[4])
.ret))⟩
theorem k_strings_IndexFunc : chkF Tryz.prog Tryz.f273 c_strings_IndexFunc = true := by kernel_rfl
abbrev pc_strings_IndexFunc := @pcR n_strings_IndexFunc _ _ Tryz.func273 k_strings_IndexFunc
def c_strings_indexFunc : AFun := ⟨21, 3, [.t 6],
  (.seq (.reg [op 6 (.mov (.k (.int .i64 0)))]
[0, 1, 2])
(.seq (.seq (.reg [op 9 (.mov (.t 0)),op 10 (.rng (.t 9))]
[1, 2, 10])
(.block 0
(.loop [1, 2, 10] [10]
  (.seq (.reg [op 11 (.nxt (.t 10)),op 12 (.ext (.t 11) 0)]
[1, 2, 10, 11, 12])
(.seq (.cond (.t 12)
.skip
(.exit 0))
(.block 1
(.seq (.reg [op 13 (.ext (.t 11) 1),op 14 (.ext (.t 11) 2),op 7 (.mov (.t 13)),op 8 (.mov (.t 14))]
[1, 2, 7, 8, 10])
(.seq (.reg [op 15 (.mov (.t 1)),op 16 (.mov (.t 8)),op 17 (.callv (.t 15) [.t 16]),op 18 (.mov (.t 2)),op 19 (.eqB false (.t 17) (.t 18))]
[1, 2, 7, 10, 19])
(.cond (.t 19)
(.seq (.reg [op 20 (.mov (.t 7)),op 6 (.mov (.t 20))]
[6])
.ret)
.skip)))))))))
(.seq (.reg [op 6 (.mov (.k (.int .i64 (-1))))]
[6])
.ret)))⟩
theorem k_strings_indexFunc : chkF Tryz.prog Tryz.f296 c_strings_indexFunc = true := by kernel_rfl
abbrev pc_strings_indexFunc := @pcR n_strings_indexFunc _ _ Tryz.func296 k_strings_indexFunc
end Go.Proofs.YtjbcfpkibnhodaaGreatDoor.Ab
