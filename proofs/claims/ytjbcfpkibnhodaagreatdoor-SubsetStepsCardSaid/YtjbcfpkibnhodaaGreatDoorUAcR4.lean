/-
  The functions' abstract code, by program (acgen.py), and that the model's code is it, reckoned by the kernel. No claim is proved here.
-/
import Derived.Test.YtjbcfpkibnhodaaGreatDoorUAcR0
namespace Go.Proofs.YtjbcfpkibnhodaaGreatDoor.Ab
open Go
def c_proctorref28_Set : AFun := ⟨26, 2, [.t 4],
  (.seq (.reg [⟨some 2, .box t_api_Qea 9 (.t 0), none⟩,
⟨some 4, .nilrow t_api_Config 2, none⟩]
[1, 2])
(.seq (.reg [⟨some 5, .nilrow t_api_Config 2, none⟩]
[1, 2, 5])
(.seq (.seq (.reg [⟨some 6, .mov (.k (.int .i64 0)), none⟩]
[1, 2, 5, 6])
(.block 0
(.loop [1, 2, 5, 6] [2, 4, 5, 24]
  (.seq (.seq (.reg [⟨some 7, .mov (.t 6), none⟩,
⟨some 8, .faddr (.t 2) 4, none⟩,
⟨some 9, .load (.t 8), none⟩,
⟨some 10, .len false (.t 9), none⟩,
⟨some 11, .bin .lss (.t 7) (.t 10), none⟩]
[1, 2, 5, 6, 11])
(.cond (.t 11)
.skip
(.exit 0)))
(.seq (.block 1
(.seq (.reg [⟨some 14, .mov (.t 1), none⟩,
⟨some 15, .mov (.t 6), none⟩,
⟨some 16, .conv .u64 (.t 15), none⟩,
⟨some 17, .bin .shr (.t 14) (.t 16), none⟩,
⟨some 18, .bin .rem (.t 17) (.k (.int .u32 2)), none⟩,
⟨some 19, .bin .eql (.t 18) (.k (.int .u32 1)), none⟩]
[1, 2, 5, 6, 19])
(.cond (.t 19)
(.reg [⟨some 20, .mov (.t 5), none⟩,
⟨some 21, .mov (.t 6), none⟩,
⟨some 22, .build [.int .i64 0, .nils] [(0, 1, .t 21)], none⟩,
⟨some 23, .mkrow t_api_Config 2 1 (.agg [.int .i64 0, .nils]) [(0, .t 22)], none⟩,
⟨some 24, .app t_api_Config 2 32 (.t 20) (.t 23), none⟩,
⟨some 5, .mov (.t 24), none⟩]
[1, 2, 5, 6])
.skip)))
(.reg [⟨some 12, .mov (.t 6), none⟩,
⟨some 13, .bin .add (.t 12) (.k (.int .i64 1)), none⟩,
⟨some 6, .mov (.t 13), none⟩]
[1, 2, 5, 6]))))))
(.seq (.reg [⟨some 25, .mov (.t 5), none⟩,
⟨some 4, .mov (.t 25), none⟩]
[4])
.ret))))⟩
theorem k_proctorref28_Set : chkF Tryz.prog Tryz.f39 c_proctorref28_Set = true := by kernel_rfl
theorem pc_proctorref28_Set {G : Nat → Option AV} {args : List AV} {r : AV} (h : Runs Tryz.prog G c_proctorref28_Set args r) (hk : args.length = c_proctorref28_Set.k := by rfl) : PureC Tryz.prog G n_proctorref28_Set args r := PureC.of_runs (fn := Tryz.f39) (A := c_proctorref28_Set) Tryz.func39 k_proctorref28_Set hk h
def c_schema_Check : AFun := ⟨22, 1, [.t 2, .t 3],
  (.seq (.reg [⟨some 2, .mov (.k (.int .i64 0)), none⟩,
⟨some 3, .mov (.k (.int .i64 0)), none⟩]
[0])
(.seq (.seq (.reg [⟨some 6, .mov (.t 0), none⟩,
⟨some 7, .len false (.t 6), none⟩,
⟨some 8, .bin .gtr (.t 7) (.k (.int .i64 32)), none⟩]
[0, 8])
(.cond (.t 8)
(.seq (.reg [⟨some 2, .mov (.k (.int .i64 32)), none⟩,
⟨some 3, .mov (.k (.int .i64 14)), none⟩]
[2, 3])
.ret)
.skip))
(.seq (.seq (.reg [⟨some 9, .mov (.t 0), none⟩,
⟨some 10, .len false (.t 9), none⟩,
⟨some 11, .mov (.k (.int .i64 0)), none⟩]
[0, 10, 11])
(.block 0
(.loop [0, 10, 11] [7, 10]
  (.seq (.reg [⟨some 12, .bin .lss (.t 11) (.t 10), none⟩]
[0, 10, 11, 12])
(.seq (.cond (.t 12)
.skip
(.exit 0))
(.seq (.block 1
(.seq (.reg [⟨some 13, .mov (.t 11), none⟩,
⟨some 4, .mov (.t 13), none⟩]
[0, 4, 10, 11])
(.seq (.reg [⟨some 14, .mov (.t 0), none⟩,
⟨some 15, .mov (.t 4), none⟩,
⟨some 16, .call n_schema_one [.t 14, .t 15], none⟩,
⟨some 5, .mov (.t 16), none⟩]
[0, 4, 5, 10, 11])
(.seq (.reg [⟨some 17, .mov (.t 5), none⟩,
⟨some 18, .bin .neq (.t 17) (.k (.int .i64 0)), none⟩]
[0, 4, 5, 10, 11, 18])
(.cond (.t 18)
(.seq (.reg [⟨some 19, .mov (.t 4), none⟩,
⟨some 20, .mov (.t 5), none⟩,
⟨some 2, .mov (.t 19), none⟩,
⟨some 3, .mov (.t 20), none⟩]
[2, 3])
.ret)
.skip)))))
(.reg [⟨some 21, .bin .add (.t 11) (.k (.int .i64 1)), none⟩,
⟨some 11, .mov (.t 21), none⟩]
[0, 10, 11])))))))
(.seq (.reg [⟨some 2, .mov (.k (.int .i64 (-1))), none⟩,
⟨some 3, .mov (.k (.int .i64 0)), none⟩]
[2, 3])
.ret))))⟩
theorem k_schema_Check : chkF Tryz.prog Tryz.f188 c_schema_Check = true := by kernel_rfl
theorem pc_schema_Check {G : Nat → Option AV} {args : List AV} {r : AV} (h : Runs Tryz.prog G c_schema_Check args r) (hk : args.length = c_schema_Check.k := by rfl) : PureC Tryz.prog G n_schema_Check args r := PureC.of_runs (fn := Tryz.f188) (A := c_schema_Check) Tryz.func188 k_schema_Check hk h
def c_schema_Find : AFun := ⟨14, 2, [.t 4, .t 5],
  (.seq (.reg [⟨some 3, .box t_string 1 (.t 1), none⟩,
⟨some 4, .mov (.k (.int .i64 0)), none⟩,
⟨some 5, .mov (.k (.bool false)), none⟩]
[0, 3])
(.seq (.reg [⟨some 7, .mov (.t 0), none⟩,
⟨some 8, .mkfn n_schema_Find_1 [.t 3], none⟩,
⟨some 9, .call n_slices_IndexFunc_api_Decl_api_Decl [.t 7, .t 8], none⟩,
⟨some 6, .mov (.t 9), none⟩]
[6])
(.seq (.reg [⟨some 10, .mov (.t 6), none⟩,
⟨some 11, .mx false (.t 10) (.k (.int .i64 0)), none⟩,
⟨some 12, .mov (.t 6), none⟩,
⟨some 13, .bin .geq (.t 12) (.k (.int .i64 0)), none⟩,
⟨some 4, .mov (.t 11), none⟩,
⟨some 5, .mov (.t 13), none⟩]
[4, 5])
.ret)))⟩
theorem k_schema_Find : chkF Tryz.prog Tryz.f270 c_schema_Find = true := by kernel_rfl
theorem pc_schema_Find {G : Nat → Option AV} {args : List AV} {r : AV} (h : Runs Tryz.prog G c_schema_Find args r) (hk : args.length = c_schema_Find.k := by rfl) : PureC Tryz.prog G n_schema_Find args r := PureC.of_runs (fn := Tryz.f270) (A := c_schema_Find) Tryz.func270 k_schema_Find hk h
def c_schema_Find_1 : AFun := ⟨8, 2, [.t 3],
  (.seq (.reg [⟨some 2, .box t_api_Decl 2 (.t 0), none⟩,
⟨some 3, .mov (.k (.bool false)), none⟩]
[1, 2])
(.seq (.reg [⟨some 4, .faddr (.t 2) 0, none⟩,
⟨some 5, .load (.t 4), none⟩,
⟨some 6, .load (.t 1), none⟩,
⟨some 7, .bin .eql (.t 5) (.t 6), none⟩,
⟨some 3, .mov (.t 7), none⟩]
[3])
.ret))⟩
theorem k_schema_Find_1 : chkF Tryz.prog Tryz.f295 c_schema_Find_1 = true := by kernel_rfl
theorem pc_schema_Find_1 {G : Nat → Option AV} {args : List AV} {r : AV} (h : Runs Tryz.prog G c_schema_Find_1 args r) (hk : args.length = c_schema_Find_1.k := by rfl) : PureC Tryz.prog G n_schema_Find_1 args r := PureC.of_runs (fn := Tryz.f295) (A := c_schema_Find_1) Tryz.func295 k_schema_Find_1 hk h
def c_schema_Name : AFun := ⟨14, 1, [.t 2],
  (.seq (.reg [⟨some 2, .mov (.k (.bool false)), none⟩]
[0])
(.seq (.reg [⟨some 3, .mov (.t 0), none⟩,
⟨some 4, .call n_schema_Spelt [.t 3], none⟩,
⟨some 5, .mov (.t 4), none⟩,
⟨some 6, .mov (.t 0), (some (5, true))⟩,
⟨some 7, .call n_schema_Word [.t 6], (some (5, true))⟩,
⟨some 8, .un .not (.t 7), (some (5, true))⟩,
⟨some 9, .pick (.t 5) (.t 8) (.k (.bool false)), none⟩,
⟨some 10, .mov (.t 9), none⟩,
⟨some 11, .mov (.t 0), (some (10, true))⟩,
⟨some 12, .bin .neq (.t 11) (.k (.str [95])), (some (10, true))⟩,
⟨some 13, .pick (.t 10) (.t 12) (.k (.bool false)), none⟩,
⟨some 2, .mov (.t 13), none⟩]
[2])
.ret))⟩
theorem k_schema_Name : chkF Tryz.prog Tryz.f189 c_schema_Name = true := by kernel_rfl
theorem pc_schema_Name {G : Nat → Option AV} {args : List AV} {r : AV} (h : Runs Tryz.prog G c_schema_Name args r) (hk : args.length = c_schema_Name.k := by rfl) : PureC Tryz.prog G n_schema_Name args r := PureC.of_runs (fn := Tryz.f189) (A := c_schema_Name) Tryz.func189 k_schema_Name hk h
def c_schema_Spelt : AFun := ⟨25, 1, [.t 2],
  (.seq (.reg [⟨some 2, .mov (.k (.bool false)), none⟩]
[0])
(.seq (.seq (.reg [⟨some 4, .mov (.t 0), none⟩,
⟨some 5, .bin .eql (.t 4) (.k (.str [])), none⟩,
⟨some 6, .mov (.t 5), none⟩,
⟨some 7, .mov (.t 0), (some (6, false))⟩,
⟨some 8, .len true (.t 7), (some (6, false))⟩,
⟨some 9, .bin .gtr (.t 8) (.k (.int .i64 32)), (some (6, false))⟩,
⟨some 10, .pick (.t 6) (.k (.bool true)) (.t 9), none⟩,
⟨some 11, .mov (.t 10), none⟩,
⟨some 12, .mov (.t 0), (some (11, false))⟩,
⟨some 13, .idx (.t 12) (.k (.int .i64 0)), (some (11, false))⟩,
⟨some 14, .bin .geq (.t 13) (.k (.int .u8 48)), (some (11, false))⟩,
⟨some 15, .mov (.t 14), (some (11, false))⟩,
⟨some 16, .mov (.t 0), (some (15, true))⟩,
⟨some 17, .idx (.t 16) (.k (.int .i64 0)), (some (15, true))⟩,
⟨some 18, .bin .leq (.t 17) (.k (.int .u8 57)), (some (15, true))⟩,
⟨some 19, .pick (.t 15) (.t 18) (.k (.bool false)), (some (11, false))⟩,
⟨some 20, .pick (.t 11) (.k (.bool true)) (.t 19), none⟩]
[0, 20])
(.cond (.t 20)
(.seq (.reg [⟨some 2, .mov (.k (.bool false)), none⟩]
[2])
.ret)
.skip))
(.seq (.reg [⟨some 3, .mov (.f n_schema_Spelt_1), none⟩]
[0, 3])
(.seq (.reg [⟨some 21, .mov (.t 0), none⟩,
⟨some 22, .mov (.t 3), none⟩,
⟨some 23, .call n_strings_IndexFunc [.t 21, .t 22], none⟩,
⟨some 24, .bin .lss (.t 23) (.k (.int .i64 0)), none⟩,
⟨some 2, .mov (.t 24), none⟩]
[2])
.ret))))⟩
theorem k_schema_Spelt : chkF Tryz.prog Tryz.f245 c_schema_Spelt = true := by kernel_rfl
theorem pc_schema_Spelt {G : Nat → Option AV} {args : List AV} {r : AV} (h : Runs Tryz.prog G c_schema_Spelt args r) (hk : args.length = c_schema_Spelt.k := by rfl) : PureC Tryz.prog G n_schema_Spelt args r := PureC.of_runs (fn := Tryz.f245) (A := c_schema_Spelt) Tryz.func245 k_schema_Spelt hk h
def c_schema_Spelt_1 : AFun := ⟨29, 1, [.t 2],
  (.seq (.reg [⟨some 2, .mov (.k (.bool false)), none⟩]
[0])
(.seq (.reg [⟨some 3, .mov (.t 0), none⟩,
⟨some 4, .bin .neq (.t 3) (.k (.int .i32 95)), none⟩,
⟨some 5, .mov (.t 4), none⟩,
⟨some 6, .mov (.t 0), (some (5, true))⟩,
⟨some 7, .bin .lss (.t 6) (.k (.int .i32 48)), (some (5, true))⟩,
⟨some 8, .mov (.t 7), (some (5, true))⟩,
⟨some 9, .mov (.t 0), (some (8, false))⟩,
⟨some 10, .bin .gtr (.t 9) (.k (.int .i32 57)), (some (8, false))⟩,
⟨some 11, .pick (.t 8) (.k (.bool true)) (.t 10), (some (5, true))⟩,
⟨some 12, .pick (.t 5) (.t 11) (.k (.bool false)), none⟩,
⟨some 13, .mov (.t 12), none⟩,
⟨some 14, .mov (.t 0), (some (13, true))⟩,
⟨some 15, .bin .lss (.t 14) (.k (.int .i32 65)), (some (13, true))⟩,
⟨some 16, .mov (.t 15), (some (13, true))⟩,
⟨some 17, .mov (.t 0), (some (16, false))⟩,
⟨some 18, .bin .gtr (.t 17) (.k (.int .i32 90)), (some (16, false))⟩,
⟨some 19, .pick (.t 16) (.k (.bool true)) (.t 18), (some (13, true))⟩,
⟨some 20, .pick (.t 13) (.t 19) (.k (.bool false)), none⟩,
⟨some 21, .mov (.t 20), none⟩,
⟨some 22, .mov (.t 0), (some (21, true))⟩,
⟨some 23, .bin .lss (.t 22) (.k (.int .i32 97)), (some (21, true))⟩,
⟨some 24, .mov (.t 23), (some (21, true))⟩,
⟨some 25, .mov (.t 0), (some (24, false))⟩,
⟨some 26, .bin .gtr (.t 25) (.k (.int .i32 122)), (some (24, false))⟩,
⟨some 27, .pick (.t 24) (.k (.bool true)) (.t 26), (some (21, true))⟩,
⟨some 28, .pick (.t 21) (.t 27) (.k (.bool false)), none⟩,
⟨some 2, .mov (.t 28), none⟩]
[2])
.ret))⟩
theorem k_schema_Spelt_1 : chkF Tryz.prog Tryz.f272 c_schema_Spelt_1 = true := by kernel_rfl
theorem pc_schema_Spelt_1 {G : Nat → Option AV} {args : List AV} {r : AV} (h : Runs Tryz.prog G c_schema_Spelt_1 args r) (hk : args.length = c_schema_Spelt_1.k := by rfl) : PureC Tryz.prog G n_schema_Spelt_1 args r := PureC.of_runs (fn := Tryz.f272) (A := c_schema_Spelt_1) Tryz.func272 k_schema_Spelt_1 hk h
def c_schema_Word : AFun := ⟨10, 1, [.t 2],
  (.seq (.reg [⟨some 2, .mov (.k (.bool false)), none⟩]
[0])
(.seq (.reg [⟨some 3, .mov (.t 0), none⟩,
⟨some 4, .call n_schema_Spelt [.t 3], none⟩,
⟨some 5, .mov (.t 4), none⟩,
⟨some 6, .slcG 22 (.g 5), (some (5, true))⟩,
⟨some 7, .mov (.t 0), (some (5, true))⟩,
⟨some 8, .call n_slices_Contains_string_string [.t 6, .t 7], (some (5, true))⟩,
⟨some 9, .pick (.t 5) (.t 8) (.k (.bool false)), none⟩,
⟨some 2, .mov (.t 9), none⟩]
[2])
.ret))⟩
theorem k_schema_Word : chkF Tryz.prog Tryz.f246 c_schema_Word = true := by kernel_rfl
theorem pc_schema_Word {G : Nat → Option AV} {args : List AV} {r : AV} (h : Runs Tryz.prog G c_schema_Word args r) (hk : args.length = c_schema_Word.k := by rfl) : PureC Tryz.prog G n_schema_Word args r := PureC.of_runs (fn := Tryz.f246) (A := c_schema_Word) Tryz.func246 k_schema_Word hk h
def c_schema_one : AFun := ⟨37, 2, [.t 4],
  (.seq (.reg [⟨some 4, .mov (.k (.int .i64 0)), none⟩]
[0, 1])
(.seq (.reg [⟨some 8, .mov (.t 0), none⟩,
⟨some 9, .mov (.t 1), none⟩,
⟨some 10, .iaddr 2 (.t 8) (.t 9), none⟩,
⟨some 11, .loadN (.t 10) 2, none⟩,
⟨some 5, .alloc t_api_Decl 2 (.agg [.str [], .nils]), none⟩,
⟨none, .store (.t 5) (.t 11) 2, none⟩]
[0, 1, 5])
(.seq (.reg [⟨some 13, .mov (.t 0), none⟩,
⟨some 14, .faddr (.t 5) 0, none⟩,
⟨some 15, .load (.t 14), none⟩,
⟨some 16, .call n_schema_Find [.t 13, .t 15], none⟩,
⟨some 12, .mov (.t 16), none⟩,
⟨some 17, .ext (.t 12) 0, none⟩,
⟨some 18, .ext (.t 12) 1, none⟩,
⟨some 6, .mov (.t 17), none⟩,
⟨some 7, .mov (.t 18), none⟩]
[1, 5, 6])
(.seq (.block 0
(.seq (.reg [⟨some 20, .faddr (.t 5) 0, none⟩,
⟨some 21, .load (.t 20), none⟩,
⟨some 22, .call n_schema_Name [.t 21], none⟩,
⟨some 23, .un .not (.t 22), none⟩,
⟨some 19, .mov (.t 23), none⟩]
[1, 5, 6, 19])
(.cond (.t 19)
(.seq (.reg [⟨some 4, .mov (.k (.int .i64 11)), none⟩]
[4])
.ret)
(.seq (.reg [⟨some 25, .mov (.t 6), none⟩,
⟨some 26, .mov (.t 1), none⟩,
⟨some 27, .bin .lss (.t 25) (.t 26), none⟩,
⟨some 24, .mov (.t 27), none⟩]
[5, 24])
(.cond (.t 24)
(.seq (.reg [⟨some 4, .mov (.k (.int .i64 10)), none⟩]
[4])
.ret)
(.seq (.reg [⟨some 29, .faddr (.t 5) 1, none⟩,
⟨some 30, .load (.t 29), none⟩,
⟨some 31, .len false (.t 30), none⟩,
⟨some 32, .bin .gtr (.t 31) (.k (.int .i64 8)), none⟩,
⟨some 28, .mov (.t 32), none⟩]
[5, 28])
(.cond (.t 28)
(.seq (.reg [⟨some 4, .mov (.k (.int .i64 14)), none⟩]
[4])
.ret)
(.seq (.reg [⟨some 34, .faddr (.t 5) 1, none⟩,
⟨some 35, .load (.t 34), none⟩,
⟨some 36, .call n_slices_ContainsFunc_int_int [.t 35, .f n_schema_one_1], none⟩,
⟨some 33, .mov (.t 36), none⟩]
[33])
(.cond (.t 33)
(.seq (.reg [⟨some 4, .mov (.k (.int .i64 8)), none⟩]
[4])
.ret)
.skip)))))))))
(.seq (.reg [⟨some 4, .mov (.k (.int .i64 0)), none⟩]
[4])
.ret)))))⟩
theorem k_schema_one : chkF Tryz.prog Tryz.f244 c_schema_one = true := by kernel_rfl
theorem pc_schema_one {G : Nat → Option AV} {args : List AV} {r : AV} (h : Runs Tryz.prog G c_schema_one args r) (hk : args.length = c_schema_one.k := by rfl) : PureC Tryz.prog G n_schema_one args r := PureC.of_runs (fn := Tryz.f244) (A := c_schema_one) Tryz.func244 k_schema_one hk h
def c_schema_one_1 : AFun := ⟨6, 1, [.t 2],
  (.seq (.reg [⟨some 2, .mov (.k (.bool false)), none⟩]
[0])
(.seq (.reg [⟨some 3, .mov (.t 0), none⟩,
⟨some 4, .call n_value_Name [.t 3], none⟩,
⟨some 5, .bin .eql (.t 4) (.k (.str [])), none⟩,
⟨some 2, .mov (.t 5), none⟩]
[2])
.ret))⟩
theorem k_schema_one_1 : chkF Tryz.prog Tryz.f271 c_schema_one_1 = true := by kernel_rfl
theorem pc_schema_one_1 {G : Nat → Option AV} {args : List AV} {r : AV} (h : Runs Tryz.prog G c_schema_one_1 args r) (hk : args.length = c_schema_one_1.k := by rfl) : PureC Tryz.prog G n_schema_one_1 args r := PureC.of_runs (fn := Tryz.f271) (A := c_schema_one_1) Tryz.func271 k_schema_one_1 hk h
def c_subset_New : AFun := ⟨28, 1, [.t 2],
  (.seq (.reg [⟨some 1, .box t_api_Qea 9 (.t 0), none⟩,
⟨some 2, .mov (.k (.nilp)), none⟩]
[1])
(.seq (.seq (.reg [⟨some 3, .loadN (.t 1) 9, none⟩,
⟨some 4, .call n_core_Right [.t 3], none⟩,
⟨some 5, .un .not (.t 4), none⟩,
⟨some 6, .mov (.t 5), none⟩,
⟨some 7, .loadN (.t 1) 9, (some (6, false))⟩,
⟨some 8, .call n_core_Plain [.t 7], (some (6, false))⟩,
⟨some 9, .un .not (.t 8), (some (6, false))⟩,
⟨some 10, .pick (.t 6) (.k (.bool true)) (.t 9), none⟩]
[1, 10])
(.cond (.t 10)
(.seq (.reg [⟨some 2, .mov (.k (.nilp)), none⟩]
[2])
.ret)
.skip))
(.seq (.reg [⟨some 11, .loadN (.t 1) 9, none⟩,
⟨some 12, .mkmap, none⟩,
⟨some 13, .faddr (.t 1) 4, none⟩,
⟨some 14, .load (.t 13), none⟩,
⟨some 15, .len false (.t 14), none⟩,
⟨some 16, .conv .u64 (.t 15), none⟩,
⟨some 17, .bin .shl (.k (.int .u32 1)) (.t 16), none⟩,
⟨some 18, .bin .sub (.t 17) (.k (.int .u32 1)), none⟩,
⟨some 19, .faddr (.t 1) 6, none⟩,
⟨some 20, .load (.t 19), none⟩,
⟨some 21, .len false (.t 20), none⟩,
⟨some 22, .conv .u64 (.t 21), none⟩,
⟨some 23, .bin .shl (.k (.int .u64 1)) (.t 22), none⟩,
⟨some 24, .bin .sub (.t 23) (.k (.int .u64 1)), none⟩,
⟨some 25, .build [.int .u32 0, .int .u64 0] [(0, 1, .t 18), (1, 1, .t 24)], none⟩,
⟨some 26, .build [.str [], .nils, .nils, .nils, .nils, .int .i64 0, .nils, .nils, .nils, .nilm, .int .u32 0, .int .u64 0] [(0, 9, .t 11), (9, 1, .t 12), (10, 2, .t 25)], none⟩,
⟨some 27, .box t_subset_Auto 12 (.t 26), none⟩,
⟨some 2, .mov (.t 27), none⟩]
[2])
.ret)))⟩
theorem k_subset_New : chkF Tryz.prog Tryz.f27 c_subset_New = true := by kernel_rfl
theorem pc_subset_New {G : Nat → Option AV} {args : List AV} {r : AV} (h : Runs Tryz.prog G c_subset_New args r) (hk : args.length = c_subset_New.k := by rfl) : PureC Tryz.prog G n_subset_New args r := PureC.of_runs (fn := Tryz.f27) (A := c_subset_New) Tryz.func27 k_subset_New hk h
theorem hc_subset_New {G : Nat → Option AV} {args : List AV} {r : AV} {H H1 : List (Nat × Box)} (h : RunsH Tryz.prog G c_subset_New args H r H1) (hk : args.length = c_subset_New.k := by rfl) (hh : highB c_subset_New.N H = true := by rfl) : HeapC Tryz.prog G n_subset_New args H r H1 := HeapC.of_runs (fn := Tryz.f27) (A := c_subset_New) Tryz.func27 k_subset_New hk hh h
def c_value_Bool : AFun := ⟨5, 1, [.cells 2 4],
  (.seq (.reg [⟨some 2, .alloc t_api_Value 4 (.agg [.int .i64 0, .int .i64 0, .str [], .bool false]), none⟩]
[0, 2])
(.seq (.reg [⟨some 3, .mov (.t 0), none⟩,
⟨some 4, .build [.int .i64 0, .int .i64 0, .str [], .bool false] [(0, 1, .k (.int .i64 3)), (3, 1, .t 3)], none⟩,
⟨none, .store (.t 2) (.t 4) 4, none⟩]
[2])
.ret))⟩
theorem k_value_Bool : chkF Tryz.prog Tryz.f180 c_value_Bool = true := by kernel_rfl
theorem pc_value_Bool {G : Nat → Option AV} {args : List AV} {r : AV} (h : Runs Tryz.prog G c_value_Bool args r) (hk : args.length = c_value_Bool.k := by rfl) : PureC Tryz.prog G n_value_Bool args r := PureC.of_runs (fn := Tryz.f180) (A := c_value_Bool) Tryz.func180 k_value_Bool hk h
def c_value_Int : AFun := ⟨5, 1, [.cells 2 4],
  (.seq (.reg [⟨some 2, .alloc t_api_Value 4 (.agg [.int .i64 0, .int .i64 0, .str [], .bool false]), none⟩]
[0, 2])
(.seq (.reg [⟨some 3, .mov (.t 0), none⟩,
⟨some 4, .build [.int .i64 0, .int .i64 0, .str [], .bool false] [(0, 1, .k (.int .i64 1)), (1, 1, .t 3)], none⟩,
⟨none, .store (.t 2) (.t 4) 4, none⟩]
[2])
.ret))⟩
theorem k_value_Int : chkF Tryz.prog Tryz.f178 c_value_Int = true := by kernel_rfl
theorem pc_value_Int {G : Nat → Option AV} {args : List AV} {r : AV} (h : Runs Tryz.prog G c_value_Int args r) (hk : args.length = c_value_Int.k := by rfl) : PureC Tryz.prog G n_value_Int args r := PureC.of_runs (fn := Tryz.f178) (A := c_value_Int) Tryz.func178 k_value_Int hk h
def c_value_Name : AFun := ⟨10, 1, [.t 2],
  (.seq (.reg [⟨some 2, .mov (.k (.str [])), none⟩]
[0])
(.seq (.seq (.reg [⟨some 3, .mov (.t 0), none⟩]
[3])
(.block 0
(.seq (.reg [⟨some 5, .bin .eql (.t 3) (.k (.int .i64 1)), none⟩,
⟨some 4, .mov (.t 5), none⟩]
[3, 4])
(.cond (.t 4)
(.seq (.reg [⟨some 2, .mov (.k (.str [105, 110, 116])), none⟩]
[2])
.ret)
(.seq (.reg [⟨some 7, .bin .eql (.t 3) (.k (.int .i64 2)), none⟩,
⟨some 6, .mov (.t 7), none⟩]
[3, 6])
(.cond (.t 6)
(.seq (.reg [⟨some 2, .mov (.k (.str [115, 116, 114, 105, 110, 103])), none⟩]
[2])
.ret)
(.seq (.reg [⟨some 9, .bin .eql (.t 3) (.k (.int .i64 3)), none⟩,
⟨some 8, .mov (.t 9), none⟩]
[8])
(.cond (.t 8)
(.seq (.reg [⟨some 2, .mov (.k (.str [98, 111, 111, 108])), none⟩]
[2])
.ret)
.skip))))))))
(.seq (.reg [⟨some 2, .mov (.k (.str [])), none⟩]
[2])
.ret)))⟩
theorem k_value_Name : chkF Tryz.prog Tryz.f193 c_value_Name = true := by kernel_rfl
theorem pc_value_Name {G : Nat → Option AV} {args : List AV} {r : AV} (h : Runs Tryz.prog G c_value_Name args r) (hk : args.length = c_value_Name.k := by rfl) : PureC Tryz.prog G n_value_Name args r := PureC.of_runs (fn := Tryz.f193) (A := c_value_Name) Tryz.func193 k_value_Name hk h
def c_value_Right : AFun := ⟨32, 1, [.t 2],
  (.seq (.reg [⟨some 1, .box t_api_Value 4 (.t 0), none⟩,
⟨some 2, .mov (.k (.bool false)), none⟩]
[1])
(.seq (.seq (.reg [⟨some 3, .faddr (.t 1) 0, none⟩,
⟨some 4, .load (.t 3), none⟩]
[1, 4])
(.block 0
(.seq (.reg [⟨some 6, .bin .eql (.t 4) (.k (.int .i64 1)), none⟩,
⟨some 5, .mov (.t 6), none⟩]
[1, 4, 5])
(.cond (.t 5)
(.seq (.dreg [⟨some 7, .loadN (.t 1) 4, none⟩,
⟨some 8, .faddr (.t 1) 1, none⟩,
⟨some 9, .load (.t 8), none⟩,
⟨some 10, .call n_value_Int [.t 9], none⟩,
⟨some 11, .eqA false [0, 0, 1, 2] (.t 7) (.t 10), none⟩,
⟨some 2, .mov (.t 11), none⟩]
[2])
.ret)
(.seq (.reg [⟨some 13, .bin .eql (.t 4) (.k (.int .i64 2)), none⟩,
⟨some 12, .mov (.t 13), none⟩]
[1, 4, 12])
(.cond (.t 12)
(.seq (.dreg [⟨some 14, .loadN (.t 1) 4, none⟩,
⟨some 15, .faddr (.t 1) 2, none⟩,
⟨some 16, .load (.t 15), none⟩,
⟨some 17, .call n_value_Str [.t 16], none⟩,
⟨some 18, .eqA false [0, 0, 1, 2] (.t 14) (.t 17), none⟩,
⟨some 19, .mov (.t 18), none⟩,
⟨some 20, .faddr (.t 1) 2, (some (19, true))⟩,
⟨some 21, .load (.t 20), (some (19, true))⟩,
⟨some 22, .len true (.t 21), (some (19, true))⟩,
⟨some 23, .bin .leq (.t 22) (.k (.int .i64 4096)), (some (19, true))⟩,
⟨some 24, .pick (.t 19) (.t 23) (.k (.bool false)), none⟩,
⟨some 2, .mov (.t 24), none⟩]
[2])
.ret)
(.seq (.reg [⟨some 26, .bin .eql (.t 4) (.k (.int .i64 3)), none⟩,
⟨some 25, .mov (.t 26), none⟩]
[1, 25])
(.cond (.t 25)
(.seq (.dreg [⟨some 27, .loadN (.t 1) 4, none⟩,
⟨some 28, .faddr (.t 1) 3, none⟩,
⟨some 29, .load (.t 28), none⟩,
⟨some 30, .call n_value_Bool [.t 29], none⟩,
⟨some 31, .eqA false [0, 0, 1, 2] (.t 27) (.t 30), none⟩,
⟨some 2, .mov (.t 31), none⟩]
[2])
.ret)
.skip))))))))
(.seq (.reg [⟨some 2, .mov (.k (.bool false)), none⟩]
[2])
.ret)))⟩
theorem k_value_Right : chkF Tryz.prog Tryz.f120 c_value_Right = true := by kernel_rfl
theorem pc_value_Right {G : Nat → Option AV} {args : List AV} {r : AV} (h : Runs Tryz.prog G c_value_Right args r) (hk : args.length = c_value_Right.k := by rfl) : PureC Tryz.prog G n_value_Right args r := PureC.of_runs (fn := Tryz.f120) (A := c_value_Right) Tryz.func120 k_value_Right hk h
def c_value_Str : AFun := ⟨5, 1, [.cells 2 4],
  (.seq (.reg [⟨some 2, .alloc t_api_Value 4 (.agg [.int .i64 0, .int .i64 0, .str [], .bool false]), none⟩]
[0, 2])
(.seq (.reg [⟨some 3, .mov (.t 0), none⟩,
⟨some 4, .build [.int .i64 0, .int .i64 0, .str [], .bool false] [(0, 1, .k (.int .i64 2)), (2, 1, .t 3)], none⟩,
⟨none, .store (.t 2) (.t 4) 4, none⟩]
[2])
.ret))⟩
theorem k_value_Str : chkF Tryz.prog Tryz.f179 c_value_Str = true := by kernel_rfl
theorem pc_value_Str {G : Nat → Option AV} {args : List AV} {r : AV} (h : Runs Tryz.prog G c_value_Str args r) (hk : args.length = c_value_Str.k := by rfl) : PureC Tryz.prog G n_value_Str args r := PureC.of_runs (fn := Tryz.f179) (A := c_value_Str) Tryz.func179 k_value_Str hk h
def c_value_Type : AFun := ⟨81, 3, [.t 6],
  (.seq (.reg [⟨some 6, .mov (.k (.int .i64 0)), none⟩]
[0, 1, 2])
(.seq (.seq (.reg [⟨some 7, .mov (.t 0), none⟩]
[1, 2, 7])
(.block 0
(.seq (.block 7
(.seq (.block 6
(.seq (.block 5
(.seq (.block 4
(.seq (.block 3
(.seq (.block 2
(.seq (.block 1
(.seq (.seq (.seq (.reg [⟨some 9, .bin .eql (.t 7) (.k (.int .i64 4)), none⟩,
⟨some 8, .mov (.t 9), none⟩]
[1, 2, 7, 8])
(.cond (.t 8)
(.exit 1)
.skip))
(.seq (.seq (.seq (.reg [⟨some 11, .bin .eql (.t 7) (.k (.int .i64 6)), none⟩,
⟨some 10, .mov (.t 11), none⟩]
[1, 2, 7, 10])
(.cond (.t 10)
.skip
(.reg [⟨some 12, .bin .eql (.t 7) (.k (.int .i64 7)), none⟩,
⟨some 10, .mov (.t 12), none⟩]
[1, 2, 7, 10])))
(.cond (.t 10)
(.exit 2)
.skip))
(.seq (.seq (.reg [⟨some 14, .bin .eql (.t 7) (.k (.int .i64 5)), none⟩,
⟨some 13, .mov (.t 14), none⟩]
[1, 2, 7, 13])
(.cond (.t 13)
(.exit 3)
.skip))
(.seq (.seq (.seq (.reg [⟨some 16, .bin .eql (.t 7) (.k (.int .i64 9)), none⟩,
⟨some 15, .mov (.t 16), none⟩]
[1, 2, 7, 15])
(.cond (.t 15)
.skip
(.seq (.reg [⟨some 17, .bin .eql (.t 7) (.k (.int .i64 10)), none⟩,
⟨some 15, .mov (.t 17), none⟩]
[1, 2, 7, 15])
(.cond (.t 15)
.skip
(.seq (.reg [⟨some 18, .bin .eql (.t 7) (.k (.int .i64 11)), none⟩,
⟨some 15, .mov (.t 18), none⟩]
[1, 2, 7, 15])
(.cond (.t 15)
.skip
(.reg [⟨some 19, .bin .eql (.t 7) (.k (.int .i64 12)), none⟩,
⟨some 15, .mov (.t 19), none⟩]
[1, 2, 7, 15])))))))
(.cond (.t 15)
(.exit 4)
.skip))
(.seq (.seq (.reg [⟨some 21, .bin .eql (.t 7) (.k (.int .i64 8)), none⟩,
⟨some 20, .mov (.t 21), none⟩]
[1, 2, 7, 20])
(.cond (.t 20)
(.exit 5)
.skip))
(.seq (.seq (.seq (.reg [⟨some 23, .bin .eql (.t 7) (.k (.int .i64 13)), none⟩,
⟨some 22, .mov (.t 23), none⟩]
[1, 2, 7, 22])
(.cond (.t 22)
.skip
(.reg [⟨some 24, .bin .eql (.t 7) (.k (.int .i64 14)), none⟩,
⟨some 22, .mov (.t 24), none⟩]
[1, 2, 7, 22])))
(.cond (.t 22)
(.exit 6)
.skip))
(.seq (.seq (.reg [⟨some 26, .bin .eql (.t 7) (.k (.int .i64 15)), none⟩,
⟨some 25, .mov (.t 26), none⟩]
[1, 2, 7, 25])
(.cond (.t 25)
.skip
(.reg [⟨some 27, .bin .eql (.t 7) (.k (.int .i64 16)), none⟩,
⟨some 25, .mov (.t 27), none⟩]
[1, 2, 25])))
(.cond (.t 25)
(.exit 7)
.skip))))))))
(.exit 0)))
(.reg [⟨some 28, .mov (.t 1), none⟩,
⟨some 2, .mov (.t 28), none⟩]
[1, 2])))
(.seq (.seq (.reg [⟨some 29, .mov (.t 1), none⟩,
⟨some 30, .bin .eql (.t 29) (.k (.int .i64 3)), none⟩,
⟨some 31, .mov (.t 30), none⟩,
⟨some 32, .mov (.t 2), (some (31, true))⟩,
⟨some 33, .mov (.t 1), (some (31, true))⟩,
⟨some 34, .bin .eql (.t 32) (.t 33), (some (31, true))⟩,
⟨some 35, .pick (.t 31) (.t 34) (.k (.bool false)), none⟩,
⟨some 36, .call n_value_when [.t 35, .k (.int .i64 3)], none⟩,
⟨some 6, .mov (.t 36), none⟩]
[6])
.ret)
(.exit 0))))
(.reg [⟨some 37, .mov (.t 1), none⟩,
⟨some 2, .mov (.t 37), none⟩]
[1, 2])))
(.seq (.seq (.reg [⟨some 38, .mov (.t 1), none⟩,
⟨some 39, .bin .eql (.t 38) (.k (.int .i64 1)), none⟩,
⟨some 40, .mov (.t 39), none⟩,
⟨some 41, .mov (.t 2), (some (40, true))⟩,
⟨some 42, .mov (.t 1), (some (40, true))⟩,
⟨some 43, .bin .eql (.t 41) (.t 42), (some (40, true))⟩,
⟨some 44, .pick (.t 40) (.t 43) (.k (.bool false)), none⟩,
⟨some 45, .mov (.t 1), none⟩,
⟨some 46, .call n_value_when [.t 44, .t 45], none⟩,
⟨some 6, .mov (.t 46), none⟩]
[6])
.ret)
(.exit 0))))
(.seq (.seq (.reg [⟨some 47, .mov (.t 1), none⟩,
⟨some 48, .bin .eql (.t 47) (.k (.int .i64 1)), none⟩,
⟨some 49, .mov (.t 48), none⟩,
⟨some 50, .mov (.t 1), (some (49, false))⟩,
⟨some 51, .bin .eql (.t 50) (.k (.int .i64 2)), (some (49, false))⟩,
⟨some 52, .pick (.t 49) (.k (.bool true)) (.t 51), none⟩,
⟨some 53, .mov (.t 52), none⟩,
⟨some 54, .mov (.t 2), (some (53, true))⟩,
⟨some 55, .mov (.t 1), (some (53, true))⟩,
⟨some 56, .bin .eql (.t 54) (.t 55), (some (53, true))⟩,
⟨some 57, .pick (.t 53) (.t 56) (.k (.bool false)), none⟩,
⟨some 58, .mov (.t 1), none⟩,
⟨some 59, .call n_value_when [.t 57, .t 58], none⟩,
⟨some 6, .mov (.t 59), none⟩]
[6])
.ret)
(.exit 0))))
(.seq (.seq (.reg [⟨some 60, .mov (.t 1), none⟩,
⟨some 61, .call n_value_Name [.t 60], none⟩,
⟨some 62, .bin .neq (.t 61) (.k (.str [])), none⟩,
⟨some 63, .mov (.t 62), none⟩,
⟨some 64, .mov (.t 2), (some (63, true))⟩,
⟨some 65, .mov (.t 1), (some (63, true))⟩,
⟨some 66, .bin .eql (.t 64) (.t 65), (some (63, true))⟩,
⟨some 67, .pick (.t 63) (.t 66) (.k (.bool false)), none⟩,
⟨some 68, .call n_value_when [.t 67, .k (.int .i64 3)], none⟩,
⟨some 6, .mov (.t 68), none⟩]
[6])
.ret)
(.exit 0))))
(.seq (.seq (.reg [⟨some 69, .mov (.t 1), none⟩,
⟨some 70, .bin .eql (.t 69) (.k (.int .i64 1)), none⟩,
⟨some 71, .mov (.t 70), none⟩,
⟨some 72, .mov (.t 1), (some (71, false))⟩,
⟨some 73, .bin .eql (.t 72) (.k (.int .i64 2)), (some (71, false))⟩,
⟨some 74, .pick (.t 71) (.k (.bool true)) (.t 73), none⟩,
⟨some 75, .mov (.t 74), none⟩,
⟨some 76, .mov (.t 2), (some (75, true))⟩,
⟨some 77, .mov (.t 1), (some (75, true))⟩,
⟨some 78, .bin .eql (.t 76) (.t 77), (some (75, true))⟩,
⟨some 79, .pick (.t 75) (.t 78) (.k (.bool false)), none⟩,
⟨some 80, .call n_value_when [.t 79, .k (.int .i64 3)], none⟩,
⟨some 6, .mov (.t 80), none⟩]
[6])
.ret)
(.exit 0)))))
(.seq (.reg [⟨some 6, .mov (.k (.int .i64 0)), none⟩]
[6])
.ret)))⟩
theorem k_value_Type : chkF Tryz.prog Tryz.f251 c_value_Type = true := by kernel_rfl
theorem pc_value_Type {G : Nat → Option AV} {args : List AV} {r : AV} (h : Runs Tryz.prog G c_value_Type args r) (hk : args.length = c_value_Type.k := by rfl) : PureC Tryz.prog G n_value_Type args r := PureC.of_runs (fn := Tryz.f251) (A := c_value_Type) Tryz.func251 k_value_Type hk h
def c_value_when : AFun := ⟨8, 2, [.t 4],
  (.seq (.reg [⟨some 4, .mov (.k (.int .i64 0)), none⟩]
[0, 1])
(.seq (.seq (.reg [⟨some 5, .mov (.t 0), none⟩,
⟨some 6, .un .not (.t 5), none⟩]
[1, 6])
(.cond (.t 6)
(.seq (.reg [⟨some 4, .mov (.k (.int .i64 0)), none⟩]
[4])
.ret)
.skip))
(.seq (.reg [⟨some 7, .mov (.t 1), none⟩,
⟨some 4, .mov (.t 7), none⟩]
[4])
.ret)))⟩
theorem k_value_when : chkF Tryz.prog Tryz.f275 c_value_when = true := by kernel_rfl
theorem pc_value_when {G : Nat → Option AV} {args : List AV} {r : AV} (h : Runs Tryz.prog G c_value_when args r) (hk : args.length = c_value_when.k := by rfl) : PureC Tryz.prog G n_value_when args r := PureC.of_runs (fn := Tryz.f275) (A := c_value_when) Tryz.func275 k_value_when hk h
def c_slices_ContainsFunc_int_int : AFun := ⟨9, 2, [.t 4],
  (.seq (.reg [⟨some 4, .mov (.k (.bool false)), none⟩]
[0, 1])
(.seq (.reg [⟨some 5, .mov (.t 0), none⟩,
⟨some 6, .mov (.t 1), none⟩,
⟨some 7, .call n_slices_IndexFunc_int_int [.t 5, .t 6], none⟩,
⟨some 8, .bin .geq (.t 7) (.k (.int .i64 0)), none⟩,
⟨some 4, .mov (.t 8), none⟩]
[4])
.ret))⟩
theorem k_slices_ContainsFunc_int_int : chkF Tryz.prog Tryz.f149 c_slices_ContainsFunc_int_int = true := by kernel_rfl
theorem pc_slices_ContainsFunc_int_int {G : Nat → Option AV} {args : List AV} {r : AV} (h : Runs Tryz.prog G c_slices_ContainsFunc_int_int args r) (hk : args.length = c_slices_ContainsFunc_int_int.k := by rfl) : PureC Tryz.prog G n_slices_ContainsFunc_int_int args r := PureC.of_runs (fn := Tryz.f149) (A := c_slices_ContainsFunc_int_int) Tryz.func149 k_slices_ContainsFunc_int_int hk h
def c_slices_ContainsFunc_api_Set_api_Set : AFun := ⟨9, 2, [.t 4],
  (.seq (.reg [⟨some 4, .mov (.k (.bool false)), none⟩]
[0, 1])
(.seq (.reg [⟨some 5, .mov (.t 0), none⟩,
⟨some 6, .mov (.t 1), none⟩,
⟨some 7, .call n_slices_IndexFunc_api_Set_api_Set [.t 5, .t 6], none⟩,
⟨some 8, .bin .geq (.t 7) (.k (.int .i64 0)), none⟩,
⟨some 4, .mov (.t 8), none⟩]
[4])
.ret))⟩
theorem k_slices_ContainsFunc_api_Set_api_Set : chkF Tryz.prog Tryz.f155 c_slices_ContainsFunc_api_Set_api_Set = true := by kernel_rfl
theorem pc_slices_ContainsFunc_api_Set_api_Set {G : Nat → Option AV} {args : List AV} {r : AV} (h : Runs Tryz.prog G c_slices_ContainsFunc_api_Set_api_Set args r) (hk : args.length = c_slices_ContainsFunc_api_Set_api_Set.k := by rfl) : PureC Tryz.prog G n_slices_ContainsFunc_api_Set_api_Set args r := PureC.of_runs (fn := Tryz.f155) (A := c_slices_ContainsFunc_api_Set_api_Set) Tryz.func155 k_slices_ContainsFunc_api_Set_api_Set hk h
def c_slices_ContainsFunc_api_Symbol_api_Symbol : AFun := ⟨9, 2, [.t 4],
  (.seq (.reg [⟨some 4, .mov (.k (.bool false)), none⟩]
[0, 1])
(.seq (.reg [⟨some 5, .mov (.t 0), none⟩,
⟨some 6, .mov (.t 1), none⟩,
⟨some 7, .call n_slices_IndexFunc_api_Symbol_api_Symbol [.t 5, .t 6], none⟩,
⟨some 8, .bin .geq (.t 7) (.k (.int .i64 0)), none⟩,
⟨some 4, .mov (.t 8), none⟩]
[4])
.ret))⟩
theorem k_slices_ContainsFunc_api_Symbol_api_Symbol : chkF Tryz.prog Tryz.f99 c_slices_ContainsFunc_api_Symbol_api_Symbol = true := by kernel_rfl
theorem pc_slices_ContainsFunc_api_Symbol_api_Symbol {G : Nat → Option AV} {args : List AV} {r : AV} (h : Runs Tryz.prog G c_slices_ContainsFunc_api_Symbol_api_Symbol args r) (hk : args.length = c_slices_ContainsFunc_api_Symbol_api_Symbol.k := by rfl) : PureC Tryz.prog G n_slices_ContainsFunc_api_Symbol_api_Symbol args r := PureC.of_runs (fn := Tryz.f99) (A := c_slices_ContainsFunc_api_Symbol_api_Symbol) Tryz.func99 k_slices_ContainsFunc_api_Symbol_api_Symbol hk h
def c_slices_ContainsFunc_api_Trans_api_Trans : AFun := ⟨9, 2, [.t 4],
  (.seq (.reg [⟨some 4, .mov (.k (.bool false)), none⟩]
[0, 1])
(.seq (.reg [⟨some 5, .mov (.t 0), none⟩,
⟨some 6, .mov (.t 1), none⟩,
⟨some 7, .call n_slices_IndexFunc_api_Trans_api_Trans [.t 5, .t 6], none⟩,
⟨some 8, .bin .geq (.t 7) (.k (.int .i64 0)), none⟩,
⟨some 4, .mov (.t 8), none⟩]
[4])
.ret))⟩
theorem k_slices_ContainsFunc_api_Trans_api_Trans : chkF Tryz.prog Tryz.f132 c_slices_ContainsFunc_api_Trans_api_Trans = true := by kernel_rfl
theorem pc_slices_ContainsFunc_api_Trans_api_Trans {G : Nat → Option AV} {args : List AV} {r : AV} (h : Runs Tryz.prog G c_slices_ContainsFunc_api_Trans_api_Trans args r) (hk : args.length = c_slices_ContainsFunc_api_Trans_api_Trans.k := by rfl) : PureC Tryz.prog G n_slices_ContainsFunc_api_Trans_api_Trans args r := PureC.of_runs (fn := Tryz.f132) (A := c_slices_ContainsFunc_api_Trans_api_Trans) Tryz.func132 k_slices_ContainsFunc_api_Trans_api_Trans hk h
def c_slices_Contains_int_int : AFun := ⟨9, 2, [.t 4],
  (.seq (.reg [⟨some 4, .mov (.k (.bool false)), none⟩]
[0, 1])
(.seq (.reg [⟨some 5, .mov (.t 0), none⟩,
⟨some 6, .mov (.t 1), none⟩,
⟨some 7, .call n_slices_Index_int_int [.t 5, .t 6], none⟩,
⟨some 8, .bin .geq (.t 7) (.k (.int .i64 0)), none⟩,
⟨some 4, .mov (.t 8), none⟩]
[4])
.ret))⟩
theorem k_slices_Contains_int_int : chkF Tryz.prog Tryz.f86 c_slices_Contains_int_int = true := by kernel_rfl
theorem pc_slices_Contains_int_int {G : Nat → Option AV} {args : List AV} {r : AV} (h : Runs Tryz.prog G c_slices_Contains_int_int args r) (hk : args.length = c_slices_Contains_int_int.k := by rfl) : PureC Tryz.prog G n_slices_Contains_int_int args r := PureC.of_runs (fn := Tryz.f86) (A := c_slices_Contains_int_int) Tryz.func86 k_slices_Contains_int_int hk h
def c_slices_Contains_api_Arg_api_Arg : AFun := ⟨9, 2, [.t 4],
  (.seq (.reg [⟨some 3, .box t_api_Arg 6 (.t 1), none⟩,
⟨some 4, .mov (.k (.bool false)), none⟩]
[0, 3])
(.seq (.reg [⟨some 5, .mov (.t 0), none⟩,
⟨some 6, .loadN (.t 3) 6, none⟩,
⟨some 7, .call n_slices_Index_api_Arg_api_Arg [.t 5, .t 6], none⟩,
⟨some 8, .bin .geq (.t 7) (.k (.int .i64 0)), none⟩,
⟨some 4, .mov (.t 8), none⟩]
[4])
.ret))⟩
theorem k_slices_Contains_api_Arg_api_Arg : chkF Tryz.prog Tryz.f154 c_slices_Contains_api_Arg_api_Arg = true := by kernel_rfl
theorem pc_slices_Contains_api_Arg_api_Arg {G : Nat → Option AV} {args : List AV} {r : AV} (h : Runs Tryz.prog G c_slices_Contains_api_Arg_api_Arg args r) (hk : args.length = c_slices_Contains_api_Arg_api_Arg.k := by rfl) : PureC Tryz.prog G n_slices_Contains_api_Arg_api_Arg args r := PureC.of_runs (fn := Tryz.f154) (A := c_slices_Contains_api_Arg_api_Arg) Tryz.func154 k_slices_Contains_api_Arg_api_Arg hk h
def c_slices_Contains_string_string : AFun := ⟨9, 2, [.t 4],
  (.seq (.reg [⟨some 4, .mov (.k (.bool false)), none⟩]
[0, 1])
(.seq (.reg [⟨some 5, .mov (.t 0), none⟩,
⟨some 6, .mov (.t 1), none⟩,
⟨some 7, .call n_slices_Index_string_string [.t 5, .t 6], none⟩,
⟨some 8, .bin .geq (.t 7) (.k (.int .i64 0)), none⟩,
⟨some 4, .mov (.t 8), none⟩]
[4])
.ret))⟩
theorem k_slices_Contains_string_string : chkF Tryz.prog Tryz.f274 c_slices_Contains_string_string = true := by kernel_rfl
theorem pc_slices_Contains_string_string {G : Nat → Option AV} {args : List AV} {r : AV} (h : Runs Tryz.prog G c_slices_Contains_string_string args r) (hk : args.length = c_slices_Contains_string_string.k := by rfl) : PureC Tryz.prog G n_slices_Contains_string_string args r := PureC.of_runs (fn := Tryz.f274) (A := c_slices_Contains_string_string) Tryz.func274 k_slices_Contains_string_string hk h
def c_slices_EqualFunc_api_Arg_int_api_Arg_int : AFun := ⟨32, 3, [.t 6],
  (.seq (.reg [⟨some 6, .mov (.k (.bool false)), none⟩]
[0, 1, 2])
(.seq (.seq (.reg [⟨some 10, .mov (.t 0), none⟩,
⟨some 11, .len false (.t 10), none⟩,
⟨some 12, .mov (.t 1), none⟩,
⟨some 13, .len false (.t 12), none⟩,
⟨some 14, .bin .neq (.t 11) (.t 13), none⟩]
[0, 1, 2, 14])
(.cond (.t 14)
(.seq (.reg [⟨some 6, .mov (.k (.bool false)), none⟩]
[6])
.ret)
.skip))
(.seq (.seq (.reg [⟨some 15, .mov (.t 0), none⟩,
⟨some 16, .len false (.t 15), none⟩,
⟨some 17, .mov (.k (.int .i64 0)), none⟩]
[1, 2, 15, 16, 17])
(.block 0
(.loop [1, 2, 15, 16, 17] [11, 13, 16]
  (.seq (.reg [⟨some 18, .bin .lss (.t 17) (.t 16), none⟩]
[1, 2, 15, 16, 17, 18])
(.seq (.cond (.t 18)
.skip
(.exit 0))
(.seq (.block 1
(.seq (.reg [⟨some 19, .mov (.t 17), none⟩,
⟨some 20, .iaddr 6 (.t 15) (.t 17), none⟩,
⟨some 21, .loadN (.t 20) 6, none⟩,
⟨some 8, .alloc t_api_Arg 6 (.agg [.int .i64 0, .int .i64 0, .int .i64 0, .int .i64 0, .str [], .bool false]), none⟩,
⟨some 7, .mov (.t 19), none⟩,
⟨none, .store (.t 8) (.t 21) 6, none⟩]
[1, 2, 7, 8, 15, 16, 17])
(.seq (.reg [⟨some 22, .mov (.t 1), none⟩,
⟨some 23, .mov (.t 7), none⟩,
⟨some 24, .iaddr 1 (.t 22) (.t 23), none⟩,
⟨some 25, .load (.t 24), none⟩,
⟨some 9, .mov (.t 25), none⟩]
[1, 2, 8, 9, 15, 16, 17])
(.seq (.reg [⟨some 26, .mov (.t 2), none⟩,
⟨some 27, .loadN (.t 8) 6, none⟩,
⟨some 28, .mov (.t 9), none⟩,
⟨some 29, .callv (.t 26) [.t 27, .t 28], none⟩,
⟨some 30, .un .not (.t 29), none⟩]
[1, 2, 15, 16, 17, 30])
(.cond (.t 30)
(.seq (.reg [⟨some 6, .mov (.k (.bool false)), none⟩]
[6])
.ret)
.skip)))))
(.reg [⟨some 31, .bin .add (.t 17) (.k (.int .i64 1)), none⟩,
⟨some 17, .mov (.t 31), none⟩]
[1, 2, 15, 16, 17])))))))
(.seq (.reg [⟨some 6, .mov (.k (.bool true)), none⟩]
[6])
.ret))))⟩
theorem k_slices_EqualFunc_api_Arg_int_api_Arg_int : chkF Tryz.prog Tryz.f252 c_slices_EqualFunc_api_Arg_int_api_Arg_int = true := by kernel_rfl
theorem pc_slices_EqualFunc_api_Arg_int_api_Arg_int {G : Nat → Option AV} {args : List AV} {r : AV} (h : Runs Tryz.prog G c_slices_EqualFunc_api_Arg_int_api_Arg_int args r) (hk : args.length = c_slices_EqualFunc_api_Arg_int_api_Arg_int.k := by rfl) : PureC Tryz.prog G n_slices_EqualFunc_api_Arg_int_api_Arg_int args r := PureC.of_runs (fn := Tryz.f252) (A := c_slices_EqualFunc_api_Arg_int_api_Arg_int) Tryz.func252 k_slices_EqualFunc_api_Arg_int_api_Arg_int hk h
def c_slices_Equal_api_Arg_api_Arg : AFun := ⟨26, 2, [.t 4],
  (.seq (.reg [⟨some 4, .mov (.k (.bool false)), none⟩]
[0, 1])
(.seq (.seq (.reg [⟨some 6, .mov (.t 0), none⟩,
⟨some 7, .len false (.t 6), none⟩,
⟨some 8, .mov (.t 1), none⟩,
⟨some 9, .len false (.t 8), none⟩,
⟨some 10, .bin .neq (.t 7) (.t 9), none⟩]
[0, 1, 10])
(.cond (.t 10)
(.seq (.reg [⟨some 4, .mov (.k (.bool false)), none⟩]
[4])
.ret)
.skip))
(.seq (.seq (.reg [⟨some 11, .mov (.t 0), none⟩,
⟨some 12, .len false (.t 11), none⟩,
⟨some 13, .mov (.k (.int .i64 0)), none⟩]
[0, 1, 12, 13])
(.block 0
(.loop [0, 1, 12, 13] [7, 9, 12]
  (.seq (.reg [⟨some 14, .bin .lss (.t 13) (.t 12), none⟩]
[0, 1, 12, 13, 14])
(.seq (.cond (.t 14)
.skip
(.exit 0))
(.seq (.block 1
(.seq (.reg [⟨some 15, .mov (.t 13), none⟩,
⟨some 5, .mov (.t 15), none⟩]
[0, 1, 5, 12, 13])
(.seq (.dreg [⟨some 16, .mov (.t 0), none⟩,
⟨some 17, .mov (.t 5), none⟩,
⟨some 18, .iaddr 6 (.t 16) (.t 17), none⟩,
⟨some 19, .loadN (.t 18) 6, none⟩,
⟨some 20, .mov (.t 1), none⟩,
⟨some 21, .mov (.t 5), none⟩,
⟨some 22, .iaddr 6 (.t 20) (.t 21), none⟩,
⟨some 23, .loadN (.t 22) 6, none⟩,
⟨some 24, .eqA true [0, 0, 0, 0, 1, 2] (.t 19) (.t 23), none⟩]
[0, 1, 12, 13, 24])
(.cond (.t 24)
(.seq (.reg [⟨some 4, .mov (.k (.bool false)), none⟩]
[4])
.ret)
.skip))))
(.reg [⟨some 25, .bin .add (.t 13) (.k (.int .i64 1)), none⟩,
⟨some 13, .mov (.t 25), none⟩]
[0, 1, 12, 13])))))))
(.seq (.reg [⟨some 4, .mov (.k (.bool true)), none⟩]
[4])
.ret))))⟩
theorem k_slices_Equal_api_Arg_api_Arg : chkF Tryz.prog Tryz.f255 c_slices_Equal_api_Arg_api_Arg = true := by kernel_rfl
theorem pc_slices_Equal_api_Arg_api_Arg {G : Nat → Option AV} {args : List AV} {r : AV} (h : Runs Tryz.prog G c_slices_Equal_api_Arg_api_Arg args r) (hk : args.length = c_slices_Equal_api_Arg_api_Arg.k := by rfl) : PureC Tryz.prog G n_slices_Equal_api_Arg_api_Arg args r := PureC.of_runs (fn := Tryz.f255) (A := c_slices_Equal_api_Arg_api_Arg) Tryz.func255 k_slices_Equal_api_Arg_api_Arg hk h
def c_slices_IndexFunc_int_int : AFun := ⟨19, 2, [.t 4],
  (.seq (.reg [⟨some 4, .mov (.k (.int .i64 0)), none⟩]
[0, 1])
(.seq (.seq (.reg [⟨some 6, .mov (.t 0), none⟩,
⟨some 7, .len false (.t 6), none⟩,
⟨some 8, .mov (.k (.int .i64 0)), none⟩]
[0, 1, 7, 8])
(.block 0
(.loop [0, 1, 7, 8] [7]
  (.seq (.reg [⟨some 9, .bin .lss (.t 8) (.t 7), none⟩]
[0, 1, 7, 8, 9])
(.seq (.cond (.t 9)
.skip
(.exit 0))
(.seq (.block 1
(.seq (.reg [⟨some 10, .mov (.t 8), none⟩,
⟨some 5, .mov (.t 10), none⟩]
[0, 1, 5, 7, 8])
(.seq (.reg [⟨some 11, .mov (.t 1), none⟩,
⟨some 12, .mov (.t 0), none⟩,
⟨some 13, .mov (.t 5), none⟩,
⟨some 14, .iaddr 1 (.t 12) (.t 13), none⟩,
⟨some 15, .load (.t 14), none⟩,
⟨some 16, .callv (.t 11) [.t 15], none⟩]
[0, 1, 5, 7, 8, 16])
(.cond (.t 16)
(.seq (.reg [⟨some 17, .mov (.t 5), none⟩,
⟨some 4, .mov (.t 17), none⟩]
[4])
.ret)
.skip))))
(.reg [⟨some 18, .bin .add (.t 8) (.k (.int .i64 1)), none⟩,
⟨some 8, .mov (.t 18), none⟩]
[0, 1, 7, 8])))))))
(.seq (.reg [⟨some 4, .mov (.k (.int .i64 (-1))), none⟩]
[4])
.ret)))⟩
theorem k_slices_IndexFunc_int_int : chkF Tryz.prog Tryz.f223 c_slices_IndexFunc_int_int = true := by kernel_rfl
theorem pc_slices_IndexFunc_int_int {G : Nat → Option AV} {args : List AV} {r : AV} (h : Runs Tryz.prog G c_slices_IndexFunc_int_int args r) (hk : args.length = c_slices_IndexFunc_int_int.k := by rfl) : PureC Tryz.prog G n_slices_IndexFunc_int_int args r := PureC.of_runs (fn := Tryz.f223) (A := c_slices_IndexFunc_int_int) Tryz.func223 k_slices_IndexFunc_int_int hk h
def c_slices_IndexFunc_api_Decl_api_Decl : AFun := ⟨19, 2, [.t 4],
  (.seq (.reg [⟨some 4, .mov (.k (.int .i64 0)), none⟩]
[0, 1])
(.seq (.seq (.reg [⟨some 6, .mov (.t 0), none⟩,
⟨some 7, .len false (.t 6), none⟩,
⟨some 8, .mov (.k (.int .i64 0)), none⟩]
[0, 1, 7, 8])
(.block 0
(.loop [0, 1, 7, 8] [7]
  (.seq (.reg [⟨some 9, .bin .lss (.t 8) (.t 7), none⟩]
[0, 1, 7, 8, 9])
(.seq (.cond (.t 9)
.skip
(.exit 0))
(.seq (.block 1
(.seq (.reg [⟨some 10, .mov (.t 8), none⟩,
⟨some 5, .mov (.t 10), none⟩]
[0, 1, 5, 7, 8])
(.seq (.reg [⟨some 11, .mov (.t 1), none⟩,
⟨some 12, .mov (.t 0), none⟩,
⟨some 13, .mov (.t 5), none⟩,
⟨some 14, .iaddr 2 (.t 12) (.t 13), none⟩,
⟨some 15, .loadN (.t 14) 2, none⟩,
⟨some 16, .callv (.t 11) [.t 15], none⟩]
[0, 1, 5, 7, 8, 16])
(.cond (.t 16)
(.seq (.reg [⟨some 17, .mov (.t 5), none⟩,
⟨some 4, .mov (.t 17), none⟩]
[4])
.ret)
.skip))))
(.reg [⟨some 18, .bin .add (.t 8) (.k (.int .i64 1)), none⟩,
⟨some 8, .mov (.t 18), none⟩]
[0, 1, 7, 8])))))))
(.seq (.reg [⟨some 4, .mov (.k (.int .i64 (-1))), none⟩]
[4])
.ret)))⟩
theorem k_slices_IndexFunc_api_Decl_api_Decl : chkF Tryz.prog Tryz.f294 c_slices_IndexFunc_api_Decl_api_Decl = true := by kernel_rfl
theorem pc_slices_IndexFunc_api_Decl_api_Decl {G : Nat → Option AV} {args : List AV} {r : AV} (h : Runs Tryz.prog G c_slices_IndexFunc_api_Decl_api_Decl args r) (hk : args.length = c_slices_IndexFunc_api_Decl_api_Decl.k := by rfl) : PureC Tryz.prog G n_slices_IndexFunc_api_Decl_api_Decl args r := PureC.of_runs (fn := Tryz.f294) (A := c_slices_IndexFunc_api_Decl_api_Decl) Tryz.func294 k_slices_IndexFunc_api_Decl_api_Decl hk h
def c_slices_IndexFunc_api_Set_api_Set : AFun := ⟨19, 2, [.t 4],
  (.seq (.reg [⟨some 4, .mov (.k (.int .i64 0)), none⟩]
[0, 1])
(.seq (.seq (.reg [⟨some 6, .mov (.t 0), none⟩,
⟨some 7, .len false (.t 6), none⟩,
⟨some 8, .mov (.k (.int .i64 0)), none⟩]
[0, 1, 7, 8])
(.block 0
(.loop [0, 1, 7, 8] [7]
  (.seq (.reg [⟨some 9, .bin .lss (.t 8) (.t 7), none⟩]
[0, 1, 7, 8, 9])
(.seq (.cond (.t 9)
.skip
(.exit 0))
(.seq (.block 1
(.seq (.reg [⟨some 10, .mov (.t 8), none⟩,
⟨some 5, .mov (.t 10), none⟩]
[0, 1, 5, 7, 8])
(.seq (.reg [⟨some 11, .mov (.t 1), none⟩,
⟨some 12, .mov (.t 0), none⟩,
⟨some 13, .mov (.t 5), none⟩,
⟨some 14, .iaddr 2 (.t 12) (.t 13), none⟩,
⟨some 15, .loadN (.t 14) 2, none⟩,
⟨some 16, .callv (.t 11) [.t 15], none⟩]
[0, 1, 5, 7, 8, 16])
(.cond (.t 16)
(.seq (.reg [⟨some 17, .mov (.t 5), none⟩,
⟨some 4, .mov (.t 17), none⟩]
[4])
.ret)
.skip))))
(.reg [⟨some 18, .bin .add (.t 8) (.k (.int .i64 1)), none⟩,
⟨some 8, .mov (.t 18), none⟩]
[0, 1, 7, 8])))))))
(.seq (.reg [⟨some 4, .mov (.k (.int .i64 (-1))), none⟩]
[4])
.ret)))⟩
theorem k_slices_IndexFunc_api_Set_api_Set : chkF Tryz.prog Tryz.f225 c_slices_IndexFunc_api_Set_api_Set = true := by kernel_rfl
theorem pc_slices_IndexFunc_api_Set_api_Set {G : Nat → Option AV} {args : List AV} {r : AV} (h : Runs Tryz.prog G c_slices_IndexFunc_api_Set_api_Set args r) (hk : args.length = c_slices_IndexFunc_api_Set_api_Set.k := by rfl) : PureC Tryz.prog G n_slices_IndexFunc_api_Set_api_Set args r := PureC.of_runs (fn := Tryz.f225) (A := c_slices_IndexFunc_api_Set_api_Set) Tryz.func225 k_slices_IndexFunc_api_Set_api_Set hk h
def c_slices_IndexFunc_api_Symbol_api_Symbol : AFun := ⟨19, 2, [.t 4],
  (.seq (.reg [⟨some 4, .mov (.k (.int .i64 0)), none⟩]
[0, 1])
(.seq (.seq (.reg [⟨some 6, .mov (.t 0), none⟩,
⟨some 7, .len false (.t 6), none⟩,
⟨some 8, .mov (.k (.int .i64 0)), none⟩]
[0, 1, 7, 8])
(.block 0
(.loop [0, 1, 7, 8] [7]
  (.seq (.reg [⟨some 9, .bin .lss (.t 8) (.t 7), none⟩]
[0, 1, 7, 8, 9])
(.seq (.cond (.t 9)
.skip
(.exit 0))
(.seq (.block 1
(.seq (.reg [⟨some 10, .mov (.t 8), none⟩,
⟨some 5, .mov (.t 10), none⟩]
[0, 1, 5, 7, 8])
(.seq (.reg [⟨some 11, .mov (.t 1), none⟩,
⟨some 12, .mov (.t 0), none⟩,
⟨some 13, .mov (.t 5), none⟩,
⟨some 14, .iaddr 2 (.t 12) (.t 13), none⟩,
⟨some 15, .loadN (.t 14) 2, none⟩,
⟨some 16, .callv (.t 11) [.t 15], none⟩]
[0, 1, 5, 7, 8, 16])
(.cond (.t 16)
(.seq (.reg [⟨some 17, .mov (.t 5), none⟩,
⟨some 4, .mov (.t 17), none⟩]
[4])
.ret)
.skip))))
(.reg [⟨some 18, .bin .add (.t 8) (.k (.int .i64 1)), none⟩,
⟨some 8, .mov (.t 18), none⟩]
[0, 1, 7, 8])))))))
(.seq (.reg [⟨some 4, .mov (.k (.int .i64 (-1))), none⟩]
[4])
.ret)))⟩
theorem k_slices_IndexFunc_api_Symbol_api_Symbol : chkF Tryz.prog Tryz.f161 c_slices_IndexFunc_api_Symbol_api_Symbol = true := by kernel_rfl
theorem pc_slices_IndexFunc_api_Symbol_api_Symbol {G : Nat → Option AV} {args : List AV} {r : AV} (h : Runs Tryz.prog G c_slices_IndexFunc_api_Symbol_api_Symbol args r) (hk : args.length = c_slices_IndexFunc_api_Symbol_api_Symbol.k := by rfl) : PureC Tryz.prog G n_slices_IndexFunc_api_Symbol_api_Symbol args r := PureC.of_runs (fn := Tryz.f161) (A := c_slices_IndexFunc_api_Symbol_api_Symbol) Tryz.func161 k_slices_IndexFunc_api_Symbol_api_Symbol hk h
def c_slices_IndexFunc_api_Trans_api_Trans : AFun := ⟨19, 2, [.t 4],
  (.seq (.reg [⟨some 4, .mov (.k (.int .i64 0)), none⟩]
[0, 1])
(.seq (.seq (.reg [⟨some 6, .mov (.t 0), none⟩,
⟨some 7, .len false (.t 6), none⟩,
⟨some 8, .mov (.k (.int .i64 0)), none⟩]
[0, 1, 7, 8])
(.block 0
(.loop [0, 1, 7, 8] [7]
  (.seq (.reg [⟨some 9, .bin .lss (.t 8) (.t 7), none⟩]
[0, 1, 7, 8, 9])
(.seq (.cond (.t 9)
.skip
(.exit 0))
(.seq (.block 1
(.seq (.reg [⟨some 10, .mov (.t 8), none⟩,
⟨some 5, .mov (.t 10), none⟩]
[0, 1, 5, 7, 8])
(.seq (.reg [⟨some 11, .mov (.t 1), none⟩,
⟨some 12, .mov (.t 0), none⟩,
⟨some 13, .mov (.t 5), none⟩,
⟨some 14, .iaddr 5 (.t 12) (.t 13), none⟩,
⟨some 15, .loadN (.t 14) 5, none⟩,
⟨some 16, .callv (.t 11) [.t 15], none⟩]
[0, 1, 5, 7, 8, 16])
(.cond (.t 16)
(.seq (.reg [⟨some 17, .mov (.t 5), none⟩,
⟨some 4, .mov (.t 17), none⟩]
[4])
.ret)
.skip))))
(.reg [⟨some 18, .bin .add (.t 8) (.k (.int .i64 1)), none⟩,
⟨some 8, .mov (.t 18), none⟩]
[0, 1, 7, 8])))))))
(.seq (.reg [⟨some 4, .mov (.k (.int .i64 (-1))), none⟩]
[4])
.ret)))⟩
theorem k_slices_IndexFunc_api_Trans_api_Trans : chkF Tryz.prog Tryz.f215 c_slices_IndexFunc_api_Trans_api_Trans = true := by kernel_rfl
theorem pc_slices_IndexFunc_api_Trans_api_Trans {G : Nat → Option AV} {args : List AV} {r : AV} (h : Runs Tryz.prog G c_slices_IndexFunc_api_Trans_api_Trans args r) (hk : args.length = c_slices_IndexFunc_api_Trans_api_Trans.k := by rfl) : PureC Tryz.prog G n_slices_IndexFunc_api_Trans_api_Trans args r := PureC.of_runs (fn := Tryz.f215) (A := c_slices_IndexFunc_api_Trans_api_Trans) Tryz.func215 k_slices_IndexFunc_api_Trans_api_Trans hk h
def c_slices_Index_int_int : AFun := ⟨19, 2, [.t 4],
  (.seq (.reg [⟨some 4, .mov (.k (.int .i64 0)), none⟩]
[0, 1])
(.seq (.seq (.reg [⟨some 6, .mov (.t 0), none⟩,
⟨some 7, .len false (.t 6), none⟩,
⟨some 8, .mov (.k (.int .i64 0)), none⟩]
[0, 1, 7, 8])
(.block 0
(.loop [0, 1, 7, 8] [7]
  (.seq (.reg [⟨some 9, .bin .lss (.t 8) (.t 7), none⟩]
[0, 1, 7, 8, 9])
(.seq (.cond (.t 9)
.skip
(.exit 0))
(.seq (.block 1
(.seq (.reg [⟨some 10, .mov (.t 8), none⟩,
⟨some 5, .mov (.t 10), none⟩]
[0, 1, 5, 7, 8])
(.seq (.reg [⟨some 11, .mov (.t 1), none⟩,
⟨some 12, .mov (.t 0), none⟩,
⟨some 13, .mov (.t 5), none⟩,
⟨some 14, .iaddr 1 (.t 12) (.t 13), none⟩,
⟨some 15, .load (.t 14), none⟩,
⟨some 16, .bin .eql (.t 11) (.t 15), none⟩]
[0, 1, 5, 7, 8, 16])
(.cond (.t 16)
(.seq (.reg [⟨some 17, .mov (.t 5), none⟩,
⟨some 4, .mov (.t 17), none⟩]
[4])
.ret)
.skip))))
(.reg [⟨some 18, .bin .add (.t 8) (.k (.int .i64 1)), none⟩,
⟨some 8, .mov (.t 18), none⟩]
[0, 1, 7, 8])))))))
(.seq (.reg [⟨some 4, .mov (.k (.int .i64 (-1))), none⟩]
[4])
.ret)))⟩
theorem k_slices_Index_int_int : chkF Tryz.prog Tryz.f147 c_slices_Index_int_int = true := by kernel_rfl
theorem pc_slices_Index_int_int {G : Nat → Option AV} {args : List AV} {r : AV} (h : Runs Tryz.prog G c_slices_Index_int_int args r) (hk : args.length = c_slices_Index_int_int.k := by rfl) : PureC Tryz.prog G n_slices_Index_int_int args r := PureC.of_runs (fn := Tryz.f147) (A := c_slices_Index_int_int) Tryz.func147 k_slices_Index_int_int hk h
def c_slices_Index_api_Arg_api_Arg : AFun := ⟨19, 2, [.t 4],
  (.seq (.reg [⟨some 3, .box t_api_Arg 6 (.t 1), none⟩,
⟨some 4, .mov (.k (.int .i64 0)), none⟩]
[0, 3])
(.seq (.seq (.reg [⟨some 6, .mov (.t 0), none⟩,
⟨some 7, .len false (.t 6), none⟩,
⟨some 8, .mov (.k (.int .i64 0)), none⟩]
[0, 3, 7, 8])
(.block 0
(.loop [0, 3, 7, 8] [3, 7]
  (.seq (.reg [⟨some 9, .bin .lss (.t 8) (.t 7), none⟩]
[0, 3, 7, 8, 9])
(.seq (.cond (.t 9)
.skip
(.exit 0))
(.seq (.block 1
(.seq (.reg [⟨some 10, .mov (.t 8), none⟩,
⟨some 5, .mov (.t 10), none⟩]
[0, 3, 5, 7, 8])
(.seq (.dreg [⟨some 11, .loadN (.t 3) 6, none⟩,
⟨some 12, .mov (.t 0), none⟩,
⟨some 13, .mov (.t 5), none⟩,
⟨some 14, .iaddr 6 (.t 12) (.t 13), none⟩,
⟨some 15, .loadN (.t 14) 6, none⟩,
⟨some 16, .eqA false [0, 0, 0, 0, 1, 2] (.t 11) (.t 15), none⟩]
[0, 3, 5, 7, 8, 16])
(.cond (.t 16)
(.seq (.reg [⟨some 17, .mov (.t 5), none⟩,
⟨some 4, .mov (.t 17), none⟩]
[4])
.ret)
.skip))))
(.reg [⟨some 18, .bin .add (.t 8) (.k (.int .i64 1)), none⟩,
⟨some 8, .mov (.t 18), none⟩]
[0, 3, 7, 8])))))))
(.seq (.reg [⟨some 4, .mov (.k (.int .i64 (-1))), none⟩]
[4])
.ret)))⟩
theorem k_slices_Index_api_Arg_api_Arg : chkF Tryz.prog Tryz.f224 c_slices_Index_api_Arg_api_Arg = true := by kernel_rfl
theorem pc_slices_Index_api_Arg_api_Arg {G : Nat → Option AV} {args : List AV} {r : AV} (h : Runs Tryz.prog G c_slices_Index_api_Arg_api_Arg args r) (hk : args.length = c_slices_Index_api_Arg_api_Arg.k := by rfl) : PureC Tryz.prog G n_slices_Index_api_Arg_api_Arg args r := PureC.of_runs (fn := Tryz.f224) (A := c_slices_Index_api_Arg_api_Arg) Tryz.func224 k_slices_Index_api_Arg_api_Arg hk h
def c_slices_Index_string_string : AFun := ⟨19, 2, [.t 4],
  (.seq (.reg [⟨some 4, .mov (.k (.int .i64 0)), none⟩]
[0, 1])
(.seq (.seq (.reg [⟨some 6, .mov (.t 0), none⟩,
⟨some 7, .len false (.t 6), none⟩,
⟨some 8, .mov (.k (.int .i64 0)), none⟩]
[0, 1, 7, 8])
(.block 0
(.loop [0, 1, 7, 8] [7]
  (.seq (.reg [⟨some 9, .bin .lss (.t 8) (.t 7), none⟩]
[0, 1, 7, 8, 9])
(.seq (.cond (.t 9)
.skip
(.exit 0))
(.seq (.block 1
(.seq (.reg [⟨some 10, .mov (.t 8), none⟩,
⟨some 5, .mov (.t 10), none⟩]
[0, 1, 5, 7, 8])
(.seq (.reg [⟨some 11, .mov (.t 1), none⟩,
⟨some 12, .mov (.t 0), none⟩,
⟨some 13, .mov (.t 5), none⟩,
⟨some 14, .iaddr 1 (.t 12) (.t 13), none⟩,
⟨some 15, .load (.t 14), none⟩,
⟨some 16, .bin .eql (.t 11) (.t 15), none⟩]
[0, 1, 5, 7, 8, 16])
(.cond (.t 16)
(.seq (.reg [⟨some 17, .mov (.t 5), none⟩,
⟨some 4, .mov (.t 17), none⟩]
[4])
.ret)
.skip))))
(.reg [⟨some 18, .bin .add (.t 8) (.k (.int .i64 1)), none⟩,
⟨some 8, .mov (.t 18), none⟩]
[0, 1, 7, 8])))))))
(.seq (.reg [⟨some 4, .mov (.k (.int .i64 (-1))), none⟩]
[4])
.ret)))⟩
theorem k_slices_Index_string_string : chkF Tryz.prog Tryz.f249 c_slices_Index_string_string = true := by kernel_rfl
theorem pc_slices_Index_string_string {G : Nat → Option AV} {args : List AV} {r : AV} (h : Runs Tryz.prog G c_slices_Index_string_string args r) (hk : args.length = c_slices_Index_string_string.k := by rfl) : PureC Tryz.prog G n_slices_Index_string_string args r := PureC.of_runs (fn := Tryz.f249) (A := c_slices_Index_string_string) Tryz.func249 k_slices_Index_string_string hk h
def c_strings_IndexFunc : AFun := ⟨8, 2, [.t 4],
  (.seq (.reg [⟨some 4, .mov (.k (.int .i64 0)), none⟩]
[0, 1])
(.seq (.reg [⟨some 5, .mov (.t 0), none⟩,
⟨some 6, .mov (.t 1), none⟩,
⟨some 7, .call n_strings_indexFunc [.t 5, .t 6, .k (.bool true)], none⟩,
⟨some 4, .mov (.t 7), none⟩]
[4])
.ret))⟩
theorem k_strings_IndexFunc : chkF Tryz.prog Tryz.f273 c_strings_IndexFunc = true := by kernel_rfl
theorem pc_strings_IndexFunc {G : Nat → Option AV} {args : List AV} {r : AV} (h : Runs Tryz.prog G c_strings_IndexFunc args r) (hk : args.length = c_strings_IndexFunc.k := by rfl) : PureC Tryz.prog G n_strings_IndexFunc args r := PureC.of_runs (fn := Tryz.f273) (A := c_strings_IndexFunc) Tryz.func273 k_strings_IndexFunc hk h
def c_strings_indexFunc : AFun := ⟨21, 3, [.t 6],
  (.seq (.reg [⟨some 6, .mov (.k (.int .i64 0)), none⟩]
[0, 1, 2])
(.seq (.seq (.reg [⟨some 9, .mov (.t 0), none⟩,
⟨some 10, .rng (.t 9), none⟩]
[1, 2, 10])
(.block 0
(.loop [1, 2, 10] [10]
  (.seq (.reg [⟨some 11, .nxt (.t 10), none⟩,
⟨some 12, .ext (.t 11) 0, none⟩]
[1, 2, 10, 11, 12])
(.seq (.cond (.t 12)
.skip
(.exit 0))
(.block 1
(.seq (.reg [⟨some 13, .ext (.t 11) 1, none⟩,
⟨some 14, .ext (.t 11) 2, none⟩,
⟨some 7, .mov (.t 13), none⟩,
⟨some 8, .mov (.t 14), none⟩]
[1, 2, 7, 8, 10])
(.seq (.reg [⟨some 15, .mov (.t 1), none⟩,
⟨some 16, .mov (.t 8), none⟩,
⟨some 17, .callv (.t 15) [.t 16], none⟩,
⟨some 18, .mov (.t 2), none⟩,
⟨some 19, .eqB false (.t 17) (.t 18), none⟩]
[1, 2, 7, 10, 19])
(.cond (.t 19)
(.seq (.reg [⟨some 20, .mov (.t 7), none⟩,
⟨some 6, .mov (.t 20), none⟩]
[6])
.ret)
.skip)))))))))
(.seq (.reg [⟨some 6, .mov (.k (.int .i64 (-1))), none⟩]
[6])
.ret)))⟩
theorem k_strings_indexFunc : chkF Tryz.prog Tryz.f296 c_strings_indexFunc = true := by kernel_rfl
theorem pc_strings_indexFunc {G : Nat → Option AV} {args : List AV} {r : AV} (h : Runs Tryz.prog G c_strings_indexFunc args r) (hk : args.length = c_strings_indexFunc.k := by rfl) : PureC Tryz.prog G n_strings_indexFunc args r := PureC.of_runs (fn := Tryz.f296) (A := c_strings_indexFunc) Tryz.func296 k_strings_indexFunc hk h
end Go.Proofs.YtjbcfpkibnhodaaGreatDoor.Ab
