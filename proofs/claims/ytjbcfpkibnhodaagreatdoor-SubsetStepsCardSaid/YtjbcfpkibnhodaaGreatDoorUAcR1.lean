/-
  The functions' abstract code, by program (acgen.py), and that the model's code is it, reckoned by the kernel. No claim is proved here.
-/
import Derived.Test.YtjbcfpkibnhodaaGreatDoorUAcR0
namespace Go.Proofs.YtjbcfpkibnhodaaGreatDoor.Ab
open Go
def c_subset_Auto_Accepts : AFun := ⟨31, 2, [.t 4],
  (.seq (.reg [⟨some 4, .mov (.k (.bool false)), none⟩]
[0, 1])
(.seq (.seq (.reg [⟨some 7, .mov (.t 0), none⟩,
⟨some 8, .eqP false (.t 7) (.k (.nilp)), none⟩]
[0, 1, 8])
(.cond (.t 8)
(.seq (.reg [⟨some 4, .mov (.k (.bool false)), none⟩]
[4])
.ret)
.skip))
(.seq (.seq (.reg [⟨some 9, .mov (.t 0), none⟩,
⟨some 10, .nchk (.t 9), none⟩,
⟨some 11, .faddr (.t 10) 0, none⟩,
⟨some 12, .faddr (.t 11) 4, none⟩,
⟨some 13, .load (.t 12), none⟩,
⟨some 14, .len false (.t 13), none⟩,
⟨some 15, .mov (.k (.int .i64 0)), none⟩]
[1, 13, 14, 15])
(.block 0
(.loop [1, 13, 14, 15] [14]
  (.seq (.reg [⟨some 16, .bin .lss (.t 15) (.t 14), none⟩]
[1, 13, 14, 15, 16])
(.seq (.cond (.t 16)
.skip
(.exit 0))
(.seq (.block 1
(.seq (.reg [⟨some 17, .mov (.t 15), none⟩,
⟨some 18, .iaddr 3 (.t 13) (.t 15), none⟩,
⟨some 19, .loadN (.t 18) 3, none⟩,
⟨some 6, .alloc t_api_State 3 (.agg [.str [], .bool false, .bool false]), none⟩,
⟨some 5, .mov (.t 17), none⟩,
⟨none, .store (.t 6) (.t 19) 3, none⟩]
[1, 5, 6, 13, 14, 15])
(.seq (.reg [⟨some 20, .faddr (.t 6) 2, none⟩,
⟨some 21, .load (.t 20), none⟩,
⟨some 22, .mov (.t 21), none⟩,
⟨some 23, .mov (.t 1), (some (22, true))⟩,
⟨some 24, .mov (.t 5), (some (22, true))⟩,
⟨some 25, .conv .u64 (.t 24), (some (22, true))⟩,
⟨some 26, .bin .shl (.k (.int .u32 1)) (.t 25), (some (22, true))⟩,
⟨some 27, .bin .and (.t 23) (.t 26), (some (22, true))⟩,
⟨some 28, .bin .neq (.t 27) (.k (.int .u32 0)), (some (22, true))⟩,
⟨some 29, .pick (.t 22) (.t 28) (.k (.bool false)), none⟩]
[1, 13, 14, 15, 29])
(.cond (.t 29)
(.seq (.reg [⟨some 4, .mov (.k (.bool true)), none⟩]
[4])
.ret)
.skip))))
(.reg [⟨some 30, .bin .add (.t 15) (.k (.int .i64 1)), none⟩,
⟨some 15, .mov (.t 30), none⟩]
[1, 13, 14, 15])))))))
(.seq (.reg [⟨some 4, .mov (.k (.bool false)), none⟩]
[4])
.ret))))⟩
theorem k_subset_Auto_Accepts : chkF Tryz.prog Tryz.f33 c_subset_Auto_Accepts = true := by kernel_rfl
theorem pc_subset_Auto_Accepts {G : Nat → Option AV} {args : List AV} {r : AV} (h : Runs Tryz.prog G c_subset_Auto_Accepts args r) (hk : args.length = c_subset_Auto_Accepts.k := by rfl) : PureC Tryz.prog G n_subset_Auto_Accepts args r := PureC.of_runs (fn := Tryz.f33) (A := c_subset_Auto_Accepts) Tryz.func33 k_subset_Auto_Accepts hk h
def c_subset_Auto_Known : AFun := ⟨10, 1, [.t 2],
  (.seq (.reg [⟨some 2, .mov (.k (.int .i64 0)), none⟩]
[0])
(.seq (.seq (.reg [⟨some 3, .mov (.t 0), none⟩,
⟨some 4, .eqP false (.t 3) (.k (.nilp)), none⟩]
[0, 4])
(.cond (.t 4)
(.seq (.reg [⟨some 2, .mov (.k (.int .i64 0)), none⟩]
[2])
.ret)
.skip))
(.seq (.reg [⟨some 5, .mov (.t 0), none⟩,
⟨some 6, .nchk (.t 5), none⟩,
⟨some 7, .faddr (.t 6) 9, none⟩,
⟨some 8, .load (.t 7), none⟩,
⟨some 9, .mlen (.t 8), none⟩,
⟨some 2, .mov (.t 9), none⟩]
[2])
.ret)))⟩
theorem k_subset_Auto_Known : chkF Tryz.prog Tryz.f34 c_subset_Auto_Known = true := by kernel_rfl
theorem pc_subset_Auto_Known {G : Nat → Option AV} {args : List AV} {r : AV} (h : Runs Tryz.prog G c_subset_Auto_Known args r) (hk : args.length = c_subset_Auto_Known.k := by rfl) : PureC Tryz.prog G n_subset_Auto_Known args r := PureC.of_runs (fn := Tryz.f34) (A := c_subset_Auto_Known) Tryz.func34 k_subset_Auto_Known hk h
def c_subset_Auto_Next : AFun := ⟨59, 3, [.t 6],
  (.seq (.reg [⟨some 6, .mov (.k (.int .u32 0)), none⟩]
[0, 1, 2])
(.seq (.seq (.reg [⟨some 10, .mov (.t 0), none⟩,
⟨some 11, .eqP false (.t 10) (.k (.nilp)), none⟩]
[0, 1, 2, 11])
(.cond (.t 11)
(.seq (.reg [⟨some 6, .mov (.k (.int .u32 0)), none⟩]
[6])
.ret)
.skip))
(.seq (.dregA [⟨some 12, .mov (.t 1), none⟩,
⟨some 13, .mov (.t 0), none⟩,
⟨some 14, .nchk (.t 13), none⟩,
⟨some 15, .faddr (.t 14) 10, none⟩,
⟨some 16, .faddr (.t 15) 0, none⟩,
⟨some 17, .load (.t 16), none⟩,
⟨some 18, .bin .and (.t 12) (.t 17), none⟩,
⟨some 19, .mov (.t 2), none⟩,
⟨some 20, .mov (.t 0), none⟩,
⟨some 21, .nchk (.t 20), none⟩,
⟨some 22, .faddr (.t 21) 10, none⟩,
⟨some 23, .faddr (.t 22) 1, none⟩,
⟨some 24, .load (.t 23), none⟩,
⟨some 25, .bin .and (.t 19) (.t 24), none⟩,
⟨some 26, .build [.int .u32 0, .int .u64 0] [(0, 1, .t 18), (1, 1, .t 25)], none⟩,
⟨some 7, .alloc t_subset_pair 2 (.agg [.int .u32 0, .int .u64 0]), none⟩,
⟨none, .store (.t 7) (.t 26) 2, none⟩] 15 16 [0, 7, 12, 13, 14, 15, 16, 17, 18, 19, 20, 21, 22, 23, 24, 25, 26]
[0, 7])
(.seq (.seq (.reg [⟨some 27, .faddr (.t 7) 1, none⟩,
⟨some 28, .load (.t 27), none⟩,
⟨some 29, .bin .eql (.t 28) (.k (.int .u64 0)), none⟩]
[0, 7, 29])
(.cond (.t 29)
(.seq (.reg [⟨some 30, .faddr (.t 7) 0, none⟩,
⟨some 31, .load (.t 30), none⟩,
⟨some 6, .mov (.t 31), none⟩]
[6])
.ret)
.skip))
(.seq (.dreg [⟨some 33, .mov (.t 0), none⟩,
⟨some 34, .nchk (.t 33), none⟩,
⟨some 35, .faddr (.t 34) 9, none⟩,
⟨some 36, .load (.t 35), none⟩,
⟨some 37, .loadN (.t 7) 2, none⟩,
⟨some 38, .mget true true [0, 0] (.int .u32 0) (.t 36) (.t 37), none⟩,
⟨some 32, .mov (.t 38), none⟩,
⟨some 39, .ext (.t 32) 0, none⟩,
⟨some 40, .ext (.t 32) 1, none⟩,
⟨some 8, .mov (.t 39), none⟩,
⟨some 9, .mov (.t 40), none⟩]
[0, 7, 8, 9])
(.seq (.seq (.reg [⟨some 41, .mov (.t 9), none⟩,
⟨some 42, .un .not (.t 41), none⟩]
[0, 7, 8, 42])
(.cond (.t 42)
(.seq (.dreg [⟨some 43, .mov (.t 0), none⟩,
⟨some 44, .nchk (.t 43), none⟩,
⟨some 45, .faddr (.t 44) 0, none⟩,
⟨some 46, .loadN (.t 45) 9, none⟩,
⟨some 47, .faddr (.t 7) 0, none⟩,
⟨some 48, .load (.t 47), none⟩,
⟨some 49, .faddr (.t 7) 1, none⟩,
⟨some 50, .load (.t 49), none⟩,
⟨some 51, .call n_joint_Next [.t 46, .t 48, .t 50], none⟩,
⟨some 8, .mov (.t 51), none⟩]
[0, 7, 8])
(.dreg [⟨some 52, .mov (.t 0), none⟩,
⟨some 53, .nchk (.t 52), none⟩,
⟨some 54, .faddr (.t 53) 9, none⟩,
⟨some 55, .load (.t 54), none⟩,
⟨some 56, .loadN (.t 7) 2, none⟩,
⟨some 57, .mov (.t 8), none⟩,
⟨none, .mput true [0, 0] (.t 55) (.t 56) (.t 57), none⟩]
[8]))
.skip))
(.seq (.reg [⟨some 58, .mov (.t 8), none⟩,
⟨some 6, .mov (.t 58), none⟩]
[6])
.ret)))))))⟩
theorem k_subset_Auto_Next : chkF Tryz.prog Tryz.f31 c_subset_Auto_Next = true := by kernel_rfl
theorem pc_subset_Auto_Next {G : Nat → Option AV} {args : List AV} {r : AV} (h : Runs Tryz.prog G c_subset_Auto_Next args r) (hk : args.length = c_subset_Auto_Next.k := by rfl) : PureC Tryz.prog G n_subset_Auto_Next args r := PureC.of_runs (fn := Tryz.f31) (A := c_subset_Auto_Next) Tryz.func31 k_subset_Auto_Next hk h
theorem hc_subset_Auto_Next {G : Nat → Option AV} {args : List AV} {r : AV} {H H1 : List (Nat × Box)} (h : RunsH Tryz.prog G c_subset_Auto_Next args H r H1) (hk : args.length = c_subset_Auto_Next.k := by rfl) (hh : highB c_subset_Auto_Next.N H = true := by rfl) : HeapC Tryz.prog G n_subset_Auto_Next args H r H1 := HeapC.of_runs (fn := Tryz.f31) (A := c_subset_Auto_Next) Tryz.func31 k_subset_Auto_Next hk hh h
def c_subset_Auto_Set : AFun := ⟨31, 2, [.t 4],
  (.seq (.reg [⟨some 4, .nilrow t_api_Config 2, none⟩]
[0, 1])
(.seq (.seq (.reg [⟨some 7, .mov (.t 0), none⟩,
⟨some 8, .eqP false (.t 7) (.k (.nilp)), none⟩]
[0, 1, 8])
(.cond (.t 8)
(.seq (.reg [⟨some 4, .nilrow t_api_Config 2, none⟩]
[4])
.ret)
.skip))
(.seq (.reg [⟨some 5, .nilrow t_api_Config 2, none⟩]
[0, 1, 5])
(.seq (.seq (.reg [⟨some 9, .mov (.t 0), none⟩,
⟨some 10, .nchk (.t 9), none⟩,
⟨some 11, .faddr (.t 10) 0, none⟩,
⟨some 12, .faddr (.t 11) 4, none⟩,
⟨some 13, .load (.t 12), none⟩,
⟨some 14, .len false (.t 13), none⟩,
⟨some 15, .mov (.k (.int .i64 0)), none⟩]
[1, 5, 14, 15])
(.block 0
(.loop [1, 5, 14, 15] [4, 5, 14, 28]
  (.seq (.reg [⟨some 16, .bin .lss (.t 15) (.t 14), none⟩]
[1, 5, 14, 15, 16])
(.seq (.cond (.t 16)
.skip
(.exit 0))
(.seq (.block 1
(.seq (.reg [⟨some 17, .mov (.t 15), none⟩,
⟨some 6, .mov (.t 17), none⟩]
[1, 5, 6, 14, 15])
(.seq (.reg [⟨some 18, .mov (.t 1), none⟩,
⟨some 19, .mov (.t 6), none⟩,
⟨some 20, .conv .u64 (.t 19), none⟩,
⟨some 21, .bin .shl (.k (.int .u32 1)) (.t 20), none⟩,
⟨some 22, .bin .and (.t 18) (.t 21), none⟩,
⟨some 23, .bin .neq (.t 22) (.k (.int .u32 0)), none⟩]
[1, 5, 6, 14, 15, 23])
(.cond (.t 23)
(.reg [⟨some 24, .mov (.t 5), none⟩,
⟨some 25, .mov (.t 6), none⟩,
⟨some 26, .build [.int .i64 0, .nils] [(0, 1, .t 25)], none⟩,
⟨some 27, .mkrow t_api_Config 2 1 (.agg [.int .i64 0, .nils]) [(0, .t 26)], none⟩,
⟨some 28, .app t_api_Config 2 32 (.t 24) (.t 27), none⟩,
⟨some 5, .mov (.t 28), none⟩]
[1, 5, 14, 15])
.skip))))
(.reg [⟨some 29, .bin .add (.t 15) (.k (.int .i64 1)), none⟩,
⟨some 15, .mov (.t 29), none⟩]
[1, 5, 14, 15])))))))
(.seq (.reg [⟨some 30, .mov (.t 5), none⟩,
⟨some 4, .mov (.t 30), none⟩]
[4])
.ret)))))⟩
theorem k_subset_Auto_Set : chkF Tryz.prog Tryz.f32 c_subset_Auto_Set = true := by kernel_rfl
theorem pc_subset_Auto_Set {G : Nat → Option AV} {args : List AV} {r : AV} (h : Runs Tryz.prog G c_subset_Auto_Set args r) (hk : args.length = c_subset_Auto_Set.k := by rfl) : PureC Tryz.prog G n_subset_Auto_Set args r := PureC.of_runs (fn := Tryz.f32) (A := c_subset_Auto_Set) Tryz.func32 k_subset_Auto_Set hk h
def c_subset_Auto_Start : AFun := ⟨12, 1, [.t 2],
  (.seq (.reg [⟨some 2, .mov (.k (.int .u32 0)), none⟩]
[0])
(.seq (.seq (.reg [⟨some 3, .mov (.t 0), none⟩,
⟨some 4, .eqP false (.t 3) (.k (.nilp)), none⟩]
[0, 4])
(.cond (.t 4)
(.seq (.reg [⟨some 2, .mov (.k (.int .u32 0)), none⟩]
[2])
.ret)
.skip))
(.seq (.reg [⟨some 5, .mov (.t 0), none⟩,
⟨some 6, .nchk (.t 5), none⟩,
⟨some 7, .faddr (.t 6) 0, none⟩,
⟨some 8, .faddr (.t 7) 5, none⟩,
⟨some 9, .load (.t 8), none⟩,
⟨some 10, .conv .u64 (.t 9), none⟩,
⟨some 11, .bin .shl (.k (.int .u32 1)) (.t 10), none⟩,
⟨some 2, .mov (.t 11), none⟩]
[2])
.ret)))⟩
theorem k_subset_Auto_Start : chkF Tryz.prog Tryz.f30 c_subset_Auto_Start = true := by kernel_rfl
theorem pc_subset_Auto_Start {G : Nat → Option AV} {args : List AV} {r : AV} (h : Runs Tryz.prog G c_subset_Auto_Start args r) (hk : args.length = c_subset_Auto_Start.k := by rfl) : PureC Tryz.prog G n_subset_Auto_Start args r := PureC.of_runs (fn := Tryz.f30) (A := c_subset_Auto_Start) Tryz.func30 k_subset_Auto_Start hk h
def c_core_Plain : AFun := ⟨13, 1, [.t 2],
  (.seq (.reg [⟨some 1, .box t_api_Qea 9 (.t 0), none⟩,
⟨some 2, .mov (.k (.bool false)), none⟩]
[1])
(.seq (.reg [⟨some 3, .faddr (.t 1) 3, none⟩,
⟨some 4, .load (.t 3), none⟩,
⟨some 5, .len false (.t 4), none⟩,
⟨some 6, .bin .eql (.t 5) (.k (.int .i64 0)), none⟩,
⟨some 7, .mov (.t 6), none⟩,
⟨some 8, .faddr (.t 1) 8, (some (7, true))⟩,
⟨some 9, .load (.t 8), (some (7, true))⟩,
⟨some 10, .call n_slices_ContainsFunc_api_Trans_api_Trans [.t 9, .f n_core_Plain_1], (some (7, true))⟩,
⟨some 11, .un .not (.t 10), (some (7, true))⟩,
⟨some 12, .pick (.t 7) (.t 11) (.k (.bool false)), none⟩,
⟨some 2, .mov (.t 12), none⟩]
[2])
.ret))⟩
theorem k_core_Plain : chkF Tryz.prog Tryz.f70 c_core_Plain = true := by kernel_rfl
theorem pc_core_Plain {G : Nat → Option AV} {args : List AV} {r : AV} (h : Runs Tryz.prog G c_core_Plain args r) (hk : args.length = c_core_Plain.k := by rfl) : PureC Tryz.prog G n_core_Plain args r := PureC.of_runs (fn := Tryz.f70) (A := c_core_Plain) Tryz.func70 k_core_Plain hk h
def c_core_Plain_1 : AFun := ⟨6, 1, [.t 2],
  (.seq (.reg [⟨some 1, .box t_api_Trans 5 (.t 0), none⟩,
⟨some 2, .mov (.k (.bool false)), none⟩]
[1])
(.seq (.reg [⟨some 3, .faddr (.t 1) 3, none⟩,
⟨some 4, .load (.t 3), none⟩,
⟨some 5, .bin .geq (.t 4) (.k (.int .i64 0)), none⟩,
⟨some 2, .mov (.t 5), none⟩]
[2])
.ret))⟩
theorem k_core_Plain_1 : chkF Tryz.prog Tryz.f133 c_core_Plain_1 = true := by kernel_rfl
theorem pc_core_Plain_1 {G : Nat → Option AV} {args : List AV} {r : AV} (h : Runs Tryz.prog G c_core_Plain_1 args r) (hk : args.length = c_core_Plain_1.k := by rfl) : PureC Tryz.prog G n_core_Plain_1 args r := PureC.of_runs (fn := Tryz.f133) (A := c_core_Plain_1) Tryz.func133 k_core_Plain_1 hk h
def c_core_Right : AFun := ⟨17, 1, [.t 2],
  (.seq (.reg [⟨some 1, .box t_api_Qea 9 (.t 0), none⟩,
⟨some 2, .mov (.k (.bool false)), none⟩]
[1])
(.seq (.reg [⟨some 3, .loadN (.t 1) 9, none⟩,
⟨some 4, .call n_core_few [.t 3], none⟩,
⟨some 5, .mov (.t 4), none⟩,
⟨some 6, .loadN (.t 1) 9, (some (5, true))⟩,
⟨some 7, .call n_core_head [.t 6], (some (5, true))⟩,
⟨some 8, .pick (.t 5) (.t 7) (.k (.bool false)), none⟩,
⟨some 9, .mov (.t 8), none⟩,
⟨some 10, .loadN (.t 1) 9, (some (9, true))⟩,
⟨some 11, .call n_core_trans [.t 10], (some (9, true))⟩,
⟨some 12, .pick (.t 9) (.t 11) (.k (.bool false)), none⟩,
⟨some 13, .mov (.t 12), none⟩,
⟨some 14, .loadN (.t 1) 9, (some (13, true))⟩,
⟨some 15, .call n_core_symbols [.t 14], (some (13, true))⟩,
⟨some 16, .pick (.t 13) (.t 15) (.k (.bool false)), none⟩,
⟨some 2, .mov (.t 16), none⟩]
[2])
.ret))⟩
theorem k_core_Right : chkF Tryz.prog Tryz.f69 c_core_Right = true := by kernel_rfl
theorem pc_core_Right {G : Nat → Option AV} {args : List AV} {r : AV} (h : Runs Tryz.prog G c_core_Right args r) (hk : args.length = c_core_Right.k := by rfl) : PureC Tryz.prog G n_core_Right args r := PureC.of_runs (fn := Tryz.f69) (A := c_core_Right) Tryz.func69 k_core_Right hk h
def c_core_Stands : AFun := ⟨10, 2, [.t 4],
  (.seq (.reg [⟨some 2, .box t_api_Symbol 2 (.t 0), none⟩,
⟨some 4, .mov (.k (.bool false)), none⟩]
[1, 2])
(.seq (.reg [⟨some 5, .faddr (.t 2) 1, none⟩,
⟨some 6, .load (.t 5), none⟩,
⟨some 7, .mov (.t 1), none⟩,
⟨some 8, .build [.int .i64 0, .int .i64 0, .int .i64 0, .int .i64 0, .str [], .bool false] [(0, 1, .k (.int .i64 2)), (1, 1, .t 7)], none⟩,
⟨some 9, .call n_slices_Contains_api_Arg_api_Arg [.t 6, .t 8], none⟩,
⟨some 4, .mov (.t 9), none⟩]
[4])
.ret))⟩
theorem k_core_Stands : chkF Tryz.prog Tryz.f204 c_core_Stands = true := by kernel_rfl
theorem pc_core_Stands {G : Nat → Option AV} {args : List AV} {r : AV} (h : Runs Tryz.prog G c_core_Stands args r) (hk : args.length = c_core_Stands.k := by rfl) : PureC Tryz.prog G n_core_Stands args r := PureC.of_runs (fn := Tryz.f204) (A := c_core_Stands) Tryz.func204 k_core_Stands hk h
def c_core_all_int : AFun := ⟨20, 2, [.t 4],
  (.seq (.reg [⟨some 4, .mov (.k (.bool false)), none⟩]
[0, 1])
(.seq (.seq (.reg [⟨some 7, .mov (.t 0), none⟩,
⟨some 8, .len false (.t 7), none⟩,
⟨some 9, .mov (.k (.int .i64 0)), none⟩]
[1, 7, 8, 9])
(.block 0
(.loop [1, 7, 8, 9] [8]
  (.seq (.reg [⟨some 10, .bin .lss (.t 9) (.t 8), none⟩]
[1, 7, 8, 9, 10])
(.seq (.cond (.t 10)
.skip
(.exit 0))
(.seq (.block 1
(.seq (.reg [⟨some 11, .mov (.t 9), none⟩,
⟨some 12, .iaddr 1 (.t 7) (.t 9), none⟩,
⟨some 13, .load (.t 12), none⟩,
⟨some 5, .mov (.t 11), none⟩,
⟨some 6, .mov (.t 13), none⟩]
[1, 5, 6, 7, 8, 9])
(.seq (.reg [⟨some 14, .mov (.t 1), none⟩,
⟨some 15, .mov (.t 5), none⟩,
⟨some 16, .mov (.t 6), none⟩,
⟨some 17, .callv (.t 14) [.t 15, .t 16], none⟩,
⟨some 18, .un .not (.t 17), none⟩]
[1, 7, 8, 9, 18])
(.cond (.t 18)
(.seq (.reg [⟨some 4, .mov (.k (.bool false)), none⟩]
[4])
.ret)
.skip))))
(.reg [⟨some 19, .bin .add (.t 9) (.k (.int .i64 1)), none⟩,
⟨some 9, .mov (.t 19), none⟩]
[1, 7, 8, 9])))))))
(.seq (.reg [⟨some 4, .mov (.k (.bool true)), none⟩]
[4])
.ret)))⟩
theorem k_core_all_int : chkF Tryz.prog Tryz.f210 c_core_all_int = true := by kernel_rfl
theorem pc_core_all_int {G : Nat → Option AV} {args : List AV} {r : AV} (h : Runs Tryz.prog G c_core_all_int args r) (hk : args.length = c_core_all_int.k := by rfl) : PureC Tryz.prog G n_core_all_int args r := PureC.of_runs (fn := Tryz.f210) (A := c_core_all_int) Tryz.func210 k_core_all_int hk h
def c_core_all_api_Free : AFun := ⟨20, 2, [.t 4],
  (.seq (.reg [⟨some 4, .mov (.k (.bool false)), none⟩]
[0, 1])
(.seq (.seq (.reg [⟨some 7, .mov (.t 0), none⟩,
⟨some 8, .len false (.t 7), none⟩,
⟨some 9, .mov (.k (.int .i64 0)), none⟩]
[1, 7, 8, 9])
(.block 0
(.loop [1, 7, 8, 9] [8]
  (.seq (.reg [⟨some 10, .bin .lss (.t 9) (.t 8), none⟩]
[1, 7, 8, 9, 10])
(.seq (.cond (.t 10)
.skip
(.exit 0))
(.seq (.block 1
(.seq (.reg [⟨some 11, .mov (.t 9), none⟩,
⟨some 12, .iaddr 5 (.t 7) (.t 9), none⟩,
⟨some 13, .loadN (.t 12) 5, none⟩,
⟨some 6, .alloc t_api_Free 5 (.agg [.str [], .int .i64 0, .int .i64 0, .str [], .bool false]), none⟩,
⟨some 5, .mov (.t 11), none⟩,
⟨none, .store (.t 6) (.t 13) 5, none⟩]
[1, 5, 6, 7, 8, 9])
(.seq (.reg [⟨some 14, .mov (.t 1), none⟩,
⟨some 15, .mov (.t 5), none⟩,
⟨some 16, .loadN (.t 6) 5, none⟩,
⟨some 17, .callv (.t 14) [.t 15, .t 16], none⟩,
⟨some 18, .un .not (.t 17), none⟩]
[1, 7, 8, 9, 18])
(.cond (.t 18)
(.seq (.reg [⟨some 4, .mov (.k (.bool false)), none⟩]
[4])
.ret)
.skip))))
(.reg [⟨some 19, .bin .add (.t 9) (.k (.int .i64 1)), none⟩,
⟨some 9, .mov (.t 19), none⟩]
[1, 7, 8, 9])))))))
(.seq (.reg [⟨some 4, .mov (.k (.bool true)), none⟩]
[4])
.ret)))⟩
theorem k_core_all_api_Free : chkF Tryz.prog Tryz.f194 c_core_all_api_Free = true := by kernel_rfl
theorem pc_core_all_api_Free {G : Nat → Option AV} {args : List AV} {r : AV} (h : Runs Tryz.prog G c_core_all_api_Free args r) (hk : args.length = c_core_all_api_Free.k := by rfl) : PureC Tryz.prog G n_core_all_api_Free args r := PureC.of_runs (fn := Tryz.f194) (A := c_core_all_api_Free) Tryz.func194 k_core_all_api_Free hk h
def c_core_all_api_Node : AFun := ⟨20, 2, [.t 4],
  (.seq (.reg [⟨some 4, .mov (.k (.bool false)), none⟩]
[0, 1])
(.seq (.seq (.reg [⟨some 7, .mov (.t 0), none⟩,
⟨some 8, .len false (.t 7), none⟩,
⟨some 9, .mov (.k (.int .i64 0)), none⟩]
[1, 7, 8, 9])
(.block 0
(.loop [1, 7, 8, 9] [8]
  (.seq (.reg [⟨some 10, .bin .lss (.t 9) (.t 8), none⟩]
[1, 7, 8, 9, 10])
(.seq (.cond (.t 10)
.skip
(.exit 0))
(.seq (.block 1
(.seq (.reg [⟨some 11, .mov (.t 9), none⟩,
⟨some 12, .iaddr 7 (.t 7) (.t 9), none⟩,
⟨some 13, .loadN (.t 12) 7, none⟩,
⟨some 6, .alloc t_api_Node 7 (.agg [.int .i64 0, .int .i64 0, .int .i64 0, .int .i64 0, .int .i64 0, .str [], .bool false]), none⟩,
⟨some 5, .mov (.t 11), none⟩,
⟨none, .store (.t 6) (.t 13) 7, none⟩]
[1, 5, 6, 7, 8, 9])
(.seq (.reg [⟨some 14, .mov (.t 1), none⟩,
⟨some 15, .mov (.t 5), none⟩,
⟨some 16, .loadN (.t 6) 7, none⟩,
⟨some 17, .callv (.t 14) [.t 15, .t 16], none⟩,
⟨some 18, .un .not (.t 17), none⟩]
[1, 7, 8, 9, 18])
(.cond (.t 18)
(.seq (.reg [⟨some 4, .mov (.k (.bool false)), none⟩]
[4])
.ret)
.skip))))
(.reg [⟨some 19, .bin .add (.t 9) (.k (.int .i64 1)), none⟩,
⟨some 9, .mov (.t 19), none⟩]
[1, 7, 8, 9])))))))
(.seq (.reg [⟨some 4, .mov (.k (.bool true)), none⟩]
[4])
.ret)))⟩
theorem k_core_all_api_Node : chkF Tryz.prog Tryz.f202 c_core_all_api_Node = true := by kernel_rfl
theorem pc_core_all_api_Node {G : Nat → Option AV} {args : List AV} {r : AV} (h : Runs Tryz.prog G c_core_all_api_Node args r) (hk : args.length = c_core_all_api_Node.k := by rfl) : PureC Tryz.prog G n_core_all_api_Node args r := PureC.of_runs (fn := Tryz.f202) (A := c_core_all_api_Node) Tryz.func202 k_core_all_api_Node hk h
def c_core_all_api_Quant : AFun := ⟨20, 2, [.t 4],
  (.seq (.reg [⟨some 4, .mov (.k (.bool false)), none⟩]
[0, 1])
(.seq (.seq (.reg [⟨some 7, .mov (.t 0), none⟩,
⟨some 8, .len false (.t 7), none⟩,
⟨some 9, .mov (.k (.int .i64 0)), none⟩]
[1, 7, 8, 9])
(.block 0
(.loop [1, 7, 8, 9] [8]
  (.seq (.reg [⟨some 10, .bin .lss (.t 9) (.t 8), none⟩]
[1, 7, 8, 9, 10])
(.seq (.cond (.t 10)
.skip
(.exit 0))
(.seq (.block 1
(.seq (.reg [⟨some 11, .mov (.t 9), none⟩,
⟨some 12, .iaddr 3 (.t 7) (.t 9), none⟩,
⟨some 13, .loadN (.t 12) 3, none⟩,
⟨some 6, .alloc t_api_Quant 3 (.agg [.bool false, .str [], .int .i64 0]), none⟩,
⟨some 5, .mov (.t 11), none⟩,
⟨none, .store (.t 6) (.t 13) 3, none⟩]
[1, 5, 6, 7, 8, 9])
(.seq (.reg [⟨some 14, .mov (.t 1), none⟩,
⟨some 15, .mov (.t 5), none⟩,
⟨some 16, .loadN (.t 6) 3, none⟩,
⟨some 17, .callv (.t 14) [.t 15, .t 16], none⟩,
⟨some 18, .un .not (.t 17), none⟩]
[1, 7, 8, 9, 18])
(.cond (.t 18)
(.seq (.reg [⟨some 4, .mov (.k (.bool false)), none⟩]
[4])
.ret)
.skip))))
(.reg [⟨some 19, .bin .add (.t 9) (.k (.int .i64 1)), none⟩,
⟨some 9, .mov (.t 19), none⟩]
[1, 7, 8, 9])))))))
(.seq (.reg [⟨some 4, .mov (.k (.bool true)), none⟩]
[4])
.ret)))⟩
theorem k_core_all_api_Quant : chkF Tryz.prog Tryz.f191 c_core_all_api_Quant = true := by kernel_rfl
theorem pc_core_all_api_Quant {G : Nat → Option AV} {args : List AV} {r : AV} (h : Runs Tryz.prog G c_core_all_api_Quant args r) (hk : args.length = c_core_all_api_Quant.k := by rfl) : PureC Tryz.prog G n_core_all_api_Quant args r := PureC.of_runs (fn := Tryz.f191) (A := c_core_all_api_Quant) Tryz.func191 k_core_all_api_Quant hk h
def c_core_all_api_Set : AFun := ⟨20, 2, [.t 4],
  (.seq (.reg [⟨some 4, .mov (.k (.bool false)), none⟩]
[0, 1])
(.seq (.seq (.reg [⟨some 7, .mov (.t 0), none⟩,
⟨some 8, .len false (.t 7), none⟩,
⟨some 9, .mov (.k (.int .i64 0)), none⟩]
[1, 7, 8, 9])
(.block 0
(.loop [1, 7, 8, 9] [8]
  (.seq (.reg [⟨some 10, .bin .lss (.t 9) (.t 8), none⟩]
[1, 7, 8, 9, 10])
(.seq (.cond (.t 10)
.skip
(.exit 0))
(.seq (.block 1
(.seq (.reg [⟨some 11, .mov (.t 9), none⟩,
⟨some 12, .iaddr 2 (.t 7) (.t 9), none⟩,
⟨some 13, .loadN (.t 12) 2, none⟩,
⟨some 6, .alloc t_api_Set 2 (.agg [.int .i64 0, .int .i64 0]), none⟩,
⟨some 5, .mov (.t 11), none⟩,
⟨none, .store (.t 6) (.t 13) 2, none⟩]
[1, 5, 6, 7, 8, 9])
(.seq (.reg [⟨some 14, .mov (.t 1), none⟩,
⟨some 15, .mov (.t 5), none⟩,
⟨some 16, .loadN (.t 6) 2, none⟩,
⟨some 17, .callv (.t 14) [.t 15, .t 16], none⟩,
⟨some 18, .un .not (.t 17), none⟩]
[1, 7, 8, 9, 18])
(.cond (.t 18)
(.seq (.reg [⟨some 4, .mov (.k (.bool false)), none⟩]
[4])
.ret)
.skip))))
(.reg [⟨some 19, .bin .add (.t 9) (.k (.int .i64 1)), none⟩,
⟨some 9, .mov (.t 19), none⟩]
[1, 7, 8, 9])))))))
(.seq (.reg [⟨some 4, .mov (.k (.bool true)), none⟩]
[4])
.ret)))⟩
theorem k_core_all_api_Set : chkF Tryz.prog Tryz.f201 c_core_all_api_Set = true := by kernel_rfl
def c_core_all_api_Symbol : AFun := ⟨20, 2, [.t 4],
  (.seq (.reg [⟨some 4, .mov (.k (.bool false)), none⟩]
[0, 1])
(.seq (.seq (.reg [⟨some 7, .mov (.t 0), none⟩,
⟨some 8, .len false (.t 7), none⟩,
⟨some 9, .mov (.k (.int .i64 0)), none⟩]
[1, 7, 8, 9])
(.block 0
(.loop [1, 7, 8, 9] [8]
  (.seq (.reg [⟨some 10, .bin .lss (.t 9) (.t 8), none⟩]
[1, 7, 8, 9, 10])
(.seq (.cond (.t 10)
.skip
(.exit 0))
(.seq (.block 1
(.seq (.reg [⟨some 11, .mov (.t 9), none⟩,
⟨some 12, .iaddr 2 (.t 7) (.t 9), none⟩,
⟨some 13, .loadN (.t 12) 2, none⟩,
⟨some 6, .alloc t_api_Symbol 2 (.agg [.int .i64 0, .nils]), none⟩,
⟨some 5, .mov (.t 11), none⟩,
⟨none, .store (.t 6) (.t 13) 2, none⟩]
[1, 5, 6, 7, 8, 9])
(.seq (.reg [⟨some 14, .mov (.t 1), none⟩,
⟨some 15, .mov (.t 5), none⟩,
⟨some 16, .loadN (.t 6) 2, none⟩,
⟨some 17, .callv (.t 14) [.t 15, .t 16], none⟩,
⟨some 18, .un .not (.t 17), none⟩]
[1, 7, 8, 9, 18])
(.cond (.t 18)
(.seq (.reg [⟨some 4, .mov (.k (.bool false)), none⟩]
[4])
.ret)
.skip))))
(.reg [⟨some 19, .bin .add (.t 9) (.k (.int .i64 1)), none⟩,
⟨some 9, .mov (.t 19), none⟩]
[1, 7, 8, 9])))))))
(.seq (.reg [⟨some 4, .mov (.k (.bool true)), none⟩]
[4])
.ret)))⟩
theorem k_core_all_api_Symbol : chkF Tryz.prog Tryz.f212 c_core_all_api_Symbol = true := by kernel_rfl
theorem pc_core_all_api_Symbol {G : Nat → Option AV} {args : List AV} {r : AV} (h : Runs Tryz.prog G c_core_all_api_Symbol args r) (hk : args.length = c_core_all_api_Symbol.k := by rfl) : PureC Tryz.prog G n_core_all_api_Symbol args r := PureC.of_runs (fn := Tryz.f212) (A := c_core_all_api_Symbol) Tryz.func212 k_core_all_api_Symbol hk h
def c_core_all_api_Trans : AFun := ⟨20, 2, [.t 4],
  (.seq (.reg [⟨some 4, .mov (.k (.bool false)), none⟩]
[0, 1])
(.seq (.seq (.reg [⟨some 7, .mov (.t 0), none⟩,
⟨some 8, .len false (.t 7), none⟩,
⟨some 9, .mov (.k (.int .i64 0)), none⟩]
[1, 7, 8, 9])
(.block 0
(.loop [1, 7, 8, 9] [8]
  (.seq (.reg [⟨some 10, .bin .lss (.t 9) (.t 8), none⟩]
[1, 7, 8, 9, 10])
(.seq (.cond (.t 10)
.skip
(.exit 0))
(.seq (.block 1
(.seq (.reg [⟨some 11, .mov (.t 9), none⟩,
⟨some 12, .iaddr 5 (.t 7) (.t 9), none⟩,
⟨some 13, .loadN (.t 12) 5, none⟩,
⟨some 6, .alloc t_api_Trans 5 (.agg [.int .i64 0, .int .i64 0, .int .i64 0, .int .i64 0, .nils]), none⟩,
⟨some 5, .mov (.t 11), none⟩,
⟨none, .store (.t 6) (.t 13) 5, none⟩]
[1, 5, 6, 7, 8, 9])
(.seq (.reg [⟨some 14, .mov (.t 1), none⟩,
⟨some 15, .mov (.t 5), none⟩,
⟨some 16, .loadN (.t 6) 5, none⟩,
⟨some 17, .callv (.t 14) [.t 15, .t 16], none⟩,
⟨some 18, .un .not (.t 17), none⟩]
[1, 7, 8, 9, 18])
(.cond (.t 18)
(.seq (.reg [⟨some 4, .mov (.k (.bool false)), none⟩]
[4])
.ret)
.skip))))
(.reg [⟨some 19, .bin .add (.t 9) (.k (.int .i64 1)), none⟩,
⟨some 9, .mov (.t 19), none⟩]
[1, 7, 8, 9])))))))
(.seq (.reg [⟨some 4, .mov (.k (.bool true)), none⟩]
[4])
.ret)))⟩
theorem k_core_all_api_Trans : chkF Tryz.prog Tryz.f205 c_core_all_api_Trans = true := by kernel_rfl
def c_core_all_string : AFun := ⟨20, 2, [.t 4],
  (.seq (.reg [⟨some 4, .mov (.k (.bool false)), none⟩]
[0, 1])
(.seq (.seq (.reg [⟨some 7, .mov (.t 0), none⟩,
⟨some 8, .len false (.t 7), none⟩,
⟨some 9, .mov (.k (.int .i64 0)), none⟩]
[1, 7, 8, 9])
(.block 0
(.loop [1, 7, 8, 9] [8]
  (.seq (.reg [⟨some 10, .bin .lss (.t 9) (.t 8), none⟩]
[1, 7, 8, 9, 10])
(.seq (.cond (.t 10)
.skip
(.exit 0))
(.seq (.block 1
(.seq (.reg [⟨some 11, .mov (.t 9), none⟩,
⟨some 12, .iaddr 1 (.t 7) (.t 9), none⟩,
⟨some 13, .load (.t 12), none⟩,
⟨some 5, .mov (.t 11), none⟩,
⟨some 6, .mov (.t 13), none⟩]
[1, 5, 6, 7, 8, 9])
(.seq (.reg [⟨some 14, .mov (.t 1), none⟩,
⟨some 15, .mov (.t 5), none⟩,
⟨some 16, .mov (.t 6), none⟩,
⟨some 17, .callv (.t 14) [.t 15, .t 16], none⟩,
⟨some 18, .un .not (.t 17), none⟩]
[1, 7, 8, 9, 18])
(.cond (.t 18)
(.seq (.reg [⟨some 4, .mov (.k (.bool false)), none⟩]
[4])
.ret)
.skip))))
(.reg [⟨some 19, .bin .add (.t 9) (.k (.int .i64 1)), none⟩,
⟨some 9, .mov (.t 19), none⟩]
[1, 7, 8, 9])))))))
(.seq (.reg [⟨some 4, .mov (.k (.bool true)), none⟩]
[4])
.ret)))⟩
theorem k_core_all_string : chkF Tryz.prog Tryz.f247 c_core_all_string = true := by kernel_rfl
theorem pc_core_all_string {G : Nat → Option AV} {args : List AV} {r : AV} (h : Runs Tryz.prog G c_core_all_string args r) (hk : args.length = c_core_all_string.k := by rfl) : PureC Tryz.prog G n_core_all_string args r := PureC.of_runs (fn := Tryz.f247) (A := c_core_all_string) Tryz.func247 k_core_all_string hk h
def c_core_arg : AFun := ⟨90, 3, [.t 6],
  (.seq (.reg [⟨some 3, .box t_api_Qea 9 (.t 0), none⟩,
⟨some 4, .box t_api_Arg 6 (.t 1), none⟩,
⟨some 6, .mov (.k (.bool false)), none⟩]
[2, 3, 4])
(.seq (.seq (.reg [⟨some 7, .faddr (.t 4) 0, none⟩,
⟨some 8, .load (.t 7), none⟩]
[2, 3, 4, 8])
(.block 0
(.seq (.reg [⟨some 10, .bin .eql (.t 8) (.k (.int .i64 1)), none⟩,
⟨some 9, .mov (.t 10), none⟩]
[2, 3, 4, 8, 9])
(.cond (.t 9)
(.seq (.reg [⟨some 11, .faddr (.t 4) 1, none⟩,
⟨some 12, .load (.t 11), none⟩,
⟨some 13, .bin .eql (.t 12) (.k (.int .i64 0)), none⟩,
⟨some 14, .mov (.t 13), none⟩,
⟨some 15, .faddr (.t 4) 2, (some (14, true))⟩,
⟨some 16, .loadN (.t 15) 4, (some (14, true))⟩,
⟨some 17, .call n_value_Right [.t 16], (some (14, true))⟩,
⟨some 18, .pick (.t 14) (.t 17) (.k (.bool false)), none⟩,
⟨some 19, .mov (.t 18), none⟩,
⟨some 20, .faddr (.t 4) 2, (some (19, true))⟩,
⟨some 21, .faddr (.t 20) 0, (some (19, true))⟩,
⟨some 22, .load (.t 21), (some (19, true))⟩,
⟨some 23, .mov (.t 2), (some (19, true))⟩,
⟨some 24, .bin .eql (.t 22) (.t 23), (some (19, true))⟩,
⟨some 25, .pick (.t 19) (.t 24) (.k (.bool false)), none⟩,
⟨some 6, .mov (.t 25), none⟩]
[6])
.ret)
(.seq (.reg [⟨some 27, .bin .eql (.t 8) (.k (.int .i64 2)), none⟩,
⟨some 26, .mov (.t 27), none⟩]
[2, 3, 4, 8, 26])
(.cond (.t 26)
(.seq (.reg [⟨some 28, .faddr (.t 4) 1, none⟩,
⟨some 29, .load (.t 28), none⟩,
⟨some 30, .bin .geq (.t 29) (.k (.int .i64 0)), none⟩,
⟨some 31, .mov (.t 30), none⟩,
⟨some 32, .faddr (.t 4) 1, (some (31, true))⟩,
⟨some 33, .load (.t 32), (some (31, true))⟩,
⟨some 34, .faddr (.t 3) 2, (some (31, true))⟩,
⟨some 35, .load (.t 34), (some (31, true))⟩,
⟨some 36, .len false (.t 35), (some (31, true))⟩,
⟨some 37, .bin .lss (.t 33) (.t 36), (some (31, true))⟩,
⟨some 38, .pick (.t 31) (.t 37) (.k (.bool false)), none⟩,
⟨some 39, .mov (.t 38), none⟩,
⟨some 40, .faddr (.t 3) 2, (some (39, true))⟩,
⟨some 41, .load (.t 40), (some (39, true))⟩,
⟨some 42, .faddr (.t 4) 1, (some (39, true))⟩,
⟨some 43, .load (.t 42), (some (39, true))⟩,
⟨some 44, .iaddr 3 (.t 41) (.t 43), (some (39, true))⟩,
⟨some 45, .faddr (.t 44) 2, (some (39, true))⟩,
⟨some 46, .load (.t 45), (some (39, true))⟩,
⟨some 47, .mov (.t 2), (some (39, true))⟩,
⟨some 48, .bin .eql (.t 46) (.t 47), (some (39, true))⟩,
⟨some 49, .pick (.t 39) (.t 48) (.k (.bool false)), none⟩,
⟨some 50, .mov (.t 49), none⟩,
⟨some 51, .faddr (.t 4) 2, (some (50, true))⟩,
⟨some 52, .loadN (.t 51) 4, (some (50, true))⟩,
⟨some 53, .build [.int .i64 0, .int .i64 0, .str [], .bool false] [], (some (50, true))⟩,
⟨some 54, .eqA false [0, 0, 1, 2] (.t 52) (.t 53), (some (50, true))⟩,
⟨some 55, .pick (.t 50) (.t 54) (.k (.bool false)), none⟩,
⟨some 6, .mov (.t 55), none⟩]
[6])
.ret)
(.seq (.reg [⟨some 57, .bin .eql (.t 8) (.k (.int .i64 3)), none⟩,
⟨some 56, .mov (.t 57), none⟩]
[2, 3, 4, 56])
(.cond (.t 56)
(.seq (.reg [⟨some 58, .faddr (.t 4) 1, none⟩,
⟨some 59, .load (.t 58), none⟩,
⟨some 60, .bin .geq (.t 59) (.k (.int .i64 0)), none⟩,
⟨some 61, .mov (.t 60), none⟩,
⟨some 62, .faddr (.t 4) 1, (some (61, true))⟩,
⟨some 63, .load (.t 62), (some (61, true))⟩,
⟨some 64, .faddr (.t 3) 3, (some (61, true))⟩,
⟨some 65, .load (.t 64), (some (61, true))⟩,
⟨some 66, .len false (.t 65), (some (61, true))⟩,
⟨some 67, .bin .lss (.t 63) (.t 66), (some (61, true))⟩,
⟨some 68, .pick (.t 61) (.t 67) (.k (.bool false)), none⟩,
⟨some 69, .mov (.t 68), none⟩,
⟨some 70, .faddr (.t 3) 3, (some (69, true))⟩,
⟨some 71, .load (.t 70), (some (69, true))⟩,
⟨some 72, .faddr (.t 4) 1, (some (69, true))⟩,
⟨some 73, .load (.t 72), (some (69, true))⟩,
⟨some 74, .iaddr 5 (.t 71) (.t 73), (some (69, true))⟩,
⟨some 75, .faddr (.t 74) 1, (some (69, true))⟩,
⟨some 76, .faddr (.t 75) 0, (some (69, true))⟩,
⟨some 77, .load (.t 76), (some (69, true))⟩,
⟨some 78, .mov (.t 2), (some (69, true))⟩,
⟨some 79, .bin .eql (.t 77) (.t 78), (some (69, true))⟩,
⟨some 80, .pick (.t 69) (.t 79) (.k (.bool false)), none⟩,
⟨some 81, .mov (.t 80), none⟩,
⟨some 82, .faddr (.t 4) 2, (some (81, true))⟩,
⟨some 83, .loadN (.t 82) 4, (some (81, true))⟩,
⟨some 84, .build [.int .i64 0, .int .i64 0, .str [], .bool false] [], (some (81, true))⟩,
⟨some 85, .eqA false [0, 0, 1, 2] (.t 83) (.t 84), (some (81, true))⟩,
⟨some 86, .pick (.t 81) (.t 85) (.k (.bool false)), none⟩,
⟨some 6, .mov (.t 86), none⟩]
[6])
.ret)
.skip))))))))
(.seq (.reg [⟨some 87, .loadN (.t 4) 6, none⟩,
⟨some 88, .build [.int .i64 0, .int .i64 0, .int .i64 0, .int .i64 0, .str [], .bool false] [(0, 1, .k (.int .i64 4))], none⟩,
⟨some 89, .eqA false [0, 0, 0, 0, 1, 2] (.t 87) (.t 88), none⟩,
⟨some 6, .mov (.t 89), none⟩]
[6])
.ret)))⟩
theorem k_core_arg : chkF Tryz.prog Tryz.f254 c_core_arg = true := by kernel_rfl
theorem pc_core_arg {G : Nat → Option AV} {args : List AV} {r : AV} (h : Runs Tryz.prog G c_core_arg args r) (hk : args.length = c_core_arg.k := by rfl) : PureC Tryz.prog G n_core_arg args r := PureC.of_runs (fn := Tryz.f254) (A := c_core_arg) Tryz.func254 k_core_arg hk h
def c_core_exprs : AFun := ⟨147, 1, [.t 2],
  (.seq (.reg [⟨some 1, .box t_api_Qea 9 (.t 0), none⟩,
⟨some 2, .nilrow t_core_expr 3, none⟩]
[1])
(.seq (.reg [⟨some 10, .faddr (.t 1) 7, none⟩,
⟨some 11, .load (.t 10), none⟩,
⟨some 12, .len false (.t 11), none⟩,
⟨some 13, .mks t_core_expr 3 24 (.agg [.int .i64 0, .int .i64 0, .int .i64 0]) (.t 12) (.t 12), none⟩,
⟨some 3, .mov (.t 13), none⟩]
[1, 3])
(.seq (.seq (.reg [⟨some 14, .faddr (.t 1) 7, none⟩,
⟨some 15, .load (.t 14), none⟩,
⟨some 16, .len false (.t 15), none⟩,
⟨some 17, .mov (.k (.int .i64 0)), none⟩]
[1, 3, 15, 16, 17])
(.block 0
(.loop [1, 3, 15, 16, 17] [1, 2, 12, 13, 16]
  (.seq (.reg [⟨some 18, .bin .lss (.t 17) (.t 16), none⟩]
[1, 3, 15, 16, 17, 18])
(.seq (.cond (.t 18)
.skip
(.exit 0))
(.seq (.block 1
(.seq (.reg [⟨some 19, .mov (.t 17), none⟩,
⟨some 20, .iaddr 7 (.t 15) (.t 17), none⟩,
⟨some 21, .loadN (.t 20) 7, none⟩,
⟨some 5, .alloc t_api_Node 7 (.agg [.int .i64 0, .int .i64 0, .int .i64 0, .int .i64 0, .int .i64 0, .str [], .bool false]), none⟩,
⟨some 4, .mov (.t 19), none⟩,
⟨none, .store (.t 5) (.t 21) 7, none⟩]
[1, 3, 4, 5, 15, 16, 17])
(.seq (.seq (.reg [⟨some 23, .loadN (.t 1) 9, none⟩,
⟨some 24, .mov (.t 4), none⟩,
⟨some 25, .call n_core_leaf [.t 23, .t 24], none⟩,
⟨some 22, .mov (.t 25), none⟩,
⟨some 26, .ext (.t 22) 0, none⟩,
⟨some 27, .ext (.t 22) 1, none⟩,
⟨some 6, .alloc t_core_expr 3 (.agg [.int .i64 0, .int .i64 0, .int .i64 0]), none⟩,
⟨none, .store (.t 6) (.t 26) 3, none⟩,
⟨some 7, .mov (.t 27), none⟩]
[1, 3, 4, 5, 6, 7, 15, 16, 17])
(.seq (.reg [⟨some 28, .mov (.t 7), none⟩]
[1, 3, 4, 5, 6, 15, 16, 17, 28])
(.cond (.t 28)
(.seq (.reg [⟨some 29, .mov (.t 3), none⟩,
⟨some 30, .mov (.t 4), none⟩,
⟨some 31, .loadN (.t 6) 3, none⟩,
⟨some 32, .iaddr 3 (.t 29) (.t 30), none⟩,
⟨none, .store (.t 32) (.t 31) 3, none⟩]
[1, 3, 15, 16, 17])
(.exit 1))
.skip)))
(.seq (.seq (.reg [⟨some 33, .faddr (.t 5) 0, none⟩,
⟨some 34, .load (.t 33), none⟩,
⟨some 35, .bin .lss (.t 34) (.k (.int .i64 4)), none⟩,
⟨some 36, .mov (.t 35), none⟩,
⟨some 37, .faddr (.t 5) 0, (some (36, false))⟩,
⟨some 38, .load (.t 37), (some (36, false))⟩,
⟨some 39, .bin .gtr (.t 38) (.k (.int .i64 16)), (some (36, false))⟩,
⟨some 40, .pick (.t 36) (.k (.bool true)) (.t 39), none⟩,
⟨some 41, .mov (.t 40), none⟩,
⟨some 42, .mov (.t 4), (some (41, false))⟩,
⟨some 43, .bin .eql (.t 42) (.k (.int .i64 0)), (some (41, false))⟩,
⟨some 44, .pick (.t 41) (.k (.bool true)) (.t 43), none⟩,
⟨some 45, .mov (.t 44), none⟩,
⟨some 46, .mov (.t 3), (some (45, false))⟩,
⟨some 47, .mov (.t 4), (some (45, false))⟩,
⟨some 48, .bin .sub (.t 47) (.k (.int .i64 1)), (some (45, false))⟩,
⟨some 49, .iaddr 3 (.t 46) (.t 48), (some (45, false))⟩,
⟨some 50, .faddr (.t 49) 0, (some (45, false))⟩,
⟨some 51, .load (.t 50), (some (45, false))⟩,
⟨some 52, .bin .eql (.t 51) (.k (.int .i64 0)), (some (45, false))⟩,
⟨some 53, .pick (.t 45) (.k (.bool true)) (.t 52), none⟩,
⟨some 54, .mov (.t 53), none⟩,
⟨some 55, .faddr (.t 5) 3, (some (54, false))⟩,
⟨some 56, .loadN (.t 55) 4, (some (54, false))⟩,
⟨some 57, .build [.int .i64 0, .int .i64 0, .str [], .bool false] [], (some (54, false))⟩,
⟨some 58, .eqA true [0, 0, 1, 2] (.t 56) (.t 57), (some (54, false))⟩,
⟨some 59, .pick (.t 54) (.k (.bool true)) (.t 58), none⟩]
[1, 3, 4, 5, 15, 16, 17, 59])
(.cond (.t 59)
(.exit 1)
.skip))
(.seq (.reg [⟨some 60, .mov (.t 3), none⟩,
⟨some 61, .mov (.t 4), none⟩,
⟨some 62, .bin .sub (.t 61) (.k (.int .i64 1)), none⟩,
⟨some 63, .iaddr 3 (.t 60) (.t 62), none⟩,
⟨some 64, .loadN (.t 63) 3, none⟩,
⟨some 8, .alloc t_core_expr 3 (.agg [.int .i64 0, .int .i64 0, .int .i64 0]), none⟩,
⟨none, .store (.t 8) (.t 64) 3, none⟩]
[1, 3, 4, 5, 8, 15, 16, 17])
(.seq (.seq (.reg [⟨some 65, .faddr (.t 5) 0, none⟩,
⟨some 66, .load (.t 65), none⟩,
⟨some 67, .bin .leq (.t 66) (.k (.int .i64 5)), none⟩]
[1, 3, 4, 5, 8, 15, 16, 17, 67])
(.cond (.t 67)
(.seq (.seq (.reg [⟨some 68, .faddr (.t 5) 1, none⟩,
⟨some 69, .load (.t 68), none⟩,
⟨some 70, .mov (.t 4), none⟩,
⟨some 71, .bin .sub (.t 70) (.k (.int .i64 1)), none⟩,
⟨some 72, .bin .eql (.t 69) (.t 71), none⟩,
⟨some 73, .mov (.t 72), none⟩,
⟨some 74, .faddr (.t 5) 2, (some (73, true))⟩,
⟨some 75, .load (.t 74), (some (73, true))⟩,
⟨some 76, .bin .eql (.t 75) (.k (.int .i64 0)), (some (73, true))⟩,
⟨some 77, .pick (.t 73) (.t 76) (.k (.bool false)), none⟩]
[1, 3, 4, 5, 8, 15, 16, 17, 77])
(.cond (.t 77)
(.dreg [⟨some 78, .mov (.t 3), none⟩,
⟨some 79, .mov (.t 4), none⟩,
⟨some 80, .faddr (.t 5) 0, none⟩,
⟨some 81, .load (.t 80), none⟩,
⟨some 82, .faddr (.t 8) 0, none⟩,
⟨some 83, .load (.t 82), none⟩,
⟨some 84, .faddr (.t 8) 0, none⟩,
⟨some 85, .load (.t 84), none⟩,
⟨some 86, .call n_value_Type [.t 81, .t 83, .t 85], none⟩,
⟨some 87, .faddr (.t 8) 1, none⟩,
⟨some 88, .load (.t 87), none⟩,
⟨some 89, .bin .add (.t 88) (.k (.int .i64 1)), none⟩,
⟨some 90, .faddr (.t 8) 2, none⟩,
⟨some 91, .load (.t 90), none⟩,
⟨some 92, .build [.int .i64 0, .int .i64 0, .int .i64 0] [(0, 1, .t 86), (1, 1, .t 89), (2, 1, .t 91)], none⟩,
⟨some 93, .iaddr 3 (.t 78) (.t 79), none⟩,
⟨none, .store (.t 93) (.t 92) 3, none⟩]
[1, 3, 15, 16, 17])
.skip))
(.exit 1))
.skip))
(.seq (.reg [⟨some 94, .faddr (.t 5) 2, none⟩,
⟨some 95, .load (.t 94), none⟩,
⟨some 96, .mov (.t 4), none⟩,
⟨some 97, .bin .sub (.t 96) (.k (.int .i64 1)), none⟩,
⟨some 98, .bin .eql (.t 95) (.t 97), none⟩,
⟨some 99, .mov (.t 98), none⟩,
⟨some 100, .faddr (.t 5) 1, (some (99, true))⟩,
⟨some 101, .load (.t 100), (some (99, true))⟩,
⟨some 102, .faddr (.t 8) 2, (some (99, true))⟩,
⟨some 103, .load (.t 102), (some (99, true))⟩,
⟨some 104, .bin .sub (.t 103) (.k (.int .i64 1)), (some (99, true))⟩,
⟨some 105, .bin .eql (.t 101) (.t 104), (some (99, true))⟩,
⟨some 106, .pick (.t 99) (.t 105) (.k (.bool false)), none⟩,
⟨some 107, .mov (.t 106), none⟩,
⟨some 108, .faddr (.t 5) 1, (some (107, true))⟩,
⟨some 109, .load (.t 108), (some (107, true))⟩,
⟨some 110, .bin .geq (.t 109) (.k (.int .i64 0)), (some (107, true))⟩,
⟨some 111, .pick (.t 107) (.t 110) (.k (.bool false)), none⟩,
⟨some 112, .mov (.t 111), none⟩,
⟨some 113, .mov (.t 3), (some (112, true))⟩,
⟨some 114, .faddr (.t 5) 1, (some (112, true))⟩,
⟨some 115, .load (.t 114), (some (112, true))⟩,
⟨some 116, .iaddr 3 (.t 113) (.t 115), (some (112, true))⟩,
⟨some 117, .faddr (.t 116) 0, (some (112, true))⟩,
⟨some 118, .load (.t 117), (some (112, true))⟩,
⟨some 119, .bin .neq (.t 118) (.k (.int .i64 0)), (some (112, true))⟩,
⟨some 120, .pick (.t 112) (.t 119) (.k (.bool false)), none⟩]
[1, 3, 4, 5, 8, 15, 16, 17, 120])
(.cond (.t 120)
(.seq (.reg [⟨some 121, .mov (.t 3), none⟩,
⟨some 122, .faddr (.t 5) 1, none⟩,
⟨some 123, .load (.t 122), none⟩,
⟨some 124, .iaddr 3 (.t 121) (.t 123), none⟩,
⟨some 125, .loadN (.t 124) 3, none⟩,
⟨some 9, .alloc t_core_expr 3 (.agg [.int .i64 0, .int .i64 0, .int .i64 0]), none⟩,
⟨none, .store (.t 9) (.t 125) 3, none⟩]
[1, 3, 4, 5, 8, 9, 15, 16, 17])
(.dreg [⟨some 126, .mov (.t 3), none⟩,
⟨some 127, .mov (.t 4), none⟩,
⟨some 128, .faddr (.t 5) 0, none⟩,
⟨some 129, .load (.t 128), none⟩,
⟨some 130, .faddr (.t 9) 0, none⟩,
⟨some 131, .load (.t 130), none⟩,
⟨some 132, .faddr (.t 8) 0, none⟩,
⟨some 133, .load (.t 132), none⟩,
⟨some 134, .call n_value_Type [.t 129, .t 131, .t 133], none⟩,
⟨some 135, .faddr (.t 9) 1, none⟩,
⟨some 136, .load (.t 135), none⟩,
⟨some 137, .faddr (.t 8) 1, none⟩,
⟨some 138, .load (.t 137), none⟩,
⟨some 139, .mx false (.t 136) (.t 138), none⟩,
⟨some 140, .bin .add (.t 139) (.k (.int .i64 1)), none⟩,
⟨some 141, .faddr (.t 9) 2, none⟩,
⟨some 142, .load (.t 141), none⟩,
⟨some 143, .build [.int .i64 0, .int .i64 0, .int .i64 0] [(0, 1, .t 134), (1, 1, .t 140), (2, 1, .t 142)], none⟩,
⟨some 144, .iaddr 3 (.t 126) (.t 127), none⟩,
⟨none, .store (.t 144) (.t 143) 3, none⟩]
[1, 3, 15, 16, 17]))
.skip))))))))
(.reg [⟨some 145, .bin .add (.t 17) (.k (.int .i64 1)), none⟩,
⟨some 17, .mov (.t 145), none⟩]
[1, 3, 15, 16, 17])))))))
(.seq (.reg [⟨some 146, .mov (.t 3), none⟩,
⟨some 2, .mov (.t 146), none⟩]
[2])
.ret))))⟩
theorem k_core_exprs : chkF Tryz.prog Tryz.f196 c_core_exprs = true := by kernel_rfl
theorem pc_core_exprs {G : Nat → Option AV} {args : List AV} {r : AV} (h : Runs Tryz.prog G c_core_exprs args r) (hk : args.length = c_core_exprs.k := by rfl) : PureC Tryz.prog G n_core_exprs args r := PureC.of_runs (fn := Tryz.f196) (A := c_core_exprs) Tryz.func196 k_core_exprs hk h
def c_core_few : AFun := ⟨37, 1, [.t 2],
  (.seq (.reg [⟨some 1, .box t_api_Qea 9 (.t 0), none⟩,
⟨some 2, .mov (.k (.bool false)), none⟩]
[1])
(.seq (.reg [⟨some 3, .faddr (.t 1) 2, none⟩,
⟨some 4, .load (.t 3), none⟩,
⟨some 5, .len false (.t 4), none⟩,
⟨some 6, .bin .leq (.t 5) (.k (.int .i64 8)), none⟩,
⟨some 7, .mov (.t 6), none⟩,
⟨some 8, .faddr (.t 1) 3, (some (7, true))⟩,
⟨some 9, .load (.t 8), (some (7, true))⟩,
⟨some 10, .len false (.t 9), (some (7, true))⟩,
⟨some 11, .bin .leq (.t 10) (.k (.int .i64 16)), (some (7, true))⟩,
⟨some 12, .pick (.t 7) (.t 11) (.k (.bool false)), none⟩,
⟨some 13, .mov (.t 12), none⟩,
⟨some 14, .faddr (.t 1) 4, (some (13, true))⟩,
⟨some 15, .load (.t 14), (some (13, true))⟩,
⟨some 16, .len false (.t 15), (some (13, true))⟩,
⟨some 17, .bin .leq (.t 16) (.k (.int .i64 32)), (some (13, true))⟩,
⟨some 18, .pick (.t 13) (.t 17) (.k (.bool false)), none⟩,
⟨some 19, .mov (.t 18), none⟩,
⟨some 20, .faddr (.t 1) 6, (some (19, true))⟩,
⟨some 21, .load (.t 20), (some (19, true))⟩,
⟨some 22, .len false (.t 21), (some (19, true))⟩,
⟨some 23, .bin .leq (.t 22) (.k (.int .i64 64)), (some (19, true))⟩,
⟨some 24, .pick (.t 19) (.t 23) (.k (.bool false)), none⟩,
⟨some 25, .mov (.t 24), none⟩,
⟨some 26, .faddr (.t 1) 7, (some (25, true))⟩,
⟨some 27, .load (.t 26), (some (25, true))⟩,
⟨some 28, .len false (.t 27), (some (25, true))⟩,
⟨some 29, .bin .leq (.t 28) (.k (.int .i64 2048)), (some (25, true))⟩,
⟨some 30, .pick (.t 25) (.t 29) (.k (.bool false)), none⟩,
⟨some 31, .mov (.t 30), none⟩,
⟨some 32, .faddr (.t 1) 8, (some (31, true))⟩,
⟨some 33, .load (.t 32), (some (31, true))⟩,
⟨some 34, .len false (.t 33), (some (31, true))⟩,
⟨some 35, .bin .leq (.t 34) (.k (.int .i64 256)), (some (31, true))⟩,
⟨some 36, .pick (.t 31) (.t 35) (.k (.bool false)), none⟩,
⟨some 2, .mov (.t 36), none⟩]
[2])
.ret))⟩
theorem k_core_few : chkF Tryz.prog Tryz.f128 c_core_few = true := by kernel_rfl
theorem pc_core_few {G : Nat → Option AV} {args : List AV} {r : AV} (h : Runs Tryz.prog G c_core_few args r) (hk : args.length = c_core_few.k := by rfl) : PureC Tryz.prog G n_core_few args r := PureC.of_runs (fn := Tryz.f128) (A := c_core_few) Tryz.func128 k_core_few hk h
def c_core_head : AFun := ⟨96, 1, [.t 2],
  (.seq (.reg [⟨some 1, .box t_api_Qea 9 (.t 0), none⟩,
⟨some 2, .mov (.k (.bool false)), none⟩]
[1])
(.seq (.reg [⟨some 3, .nilrow t_string 1, none⟩,
⟨some 4, .nilrow t_string 1, none⟩]
[1, 3, 4])
(.seq (.seq (.reg [⟨some 13, .faddr (.t 1) 2, none⟩,
⟨some 14, .load (.t 13), none⟩,
⟨some 15, .len false (.t 14), none⟩,
⟨some 16, .mov (.k (.int .i64 0)), none⟩]
[1, 3, 4, 14, 15, 16])
(.block 0
(.loop [1, 3, 4, 14, 15, 16] [1, 3, 4, 15, 24]
  (.seq (.reg [⟨some 17, .bin .lss (.t 16) (.t 15), none⟩]
[1, 3, 4, 14, 15, 16, 17])
(.seq (.cond (.t 17)
.skip
(.exit 0))
(.seq (.block 1
(.seq (.reg [⟨some 18, .iaddr 3 (.t 14) (.t 16), none⟩,
⟨some 19, .loadN (.t 18) 3, none⟩,
⟨some 6, .alloc t_api_Quant 3 (.agg [.bool false, .str [], .int .i64 0]), none⟩,
⟨none, .store (.t 6) (.t 19) 3, none⟩]
[1, 3, 4, 6, 14, 15, 16])
(.reg [⟨some 20, .mov (.t 3), none⟩,
⟨some 21, .faddr (.t 6) 1, none⟩,
⟨some 22, .load (.t 21), none⟩,
⟨some 23, .mkrow t_string 1 1 (.str []) [(0, .t 22)], none⟩,
⟨some 24, .app t_string 1 16 (.t 20) (.t 23), none⟩,
⟨some 3, .mov (.t 24), none⟩]
[1, 3, 4, 14, 15, 16])))
(.reg [⟨some 25, .bin .add (.t 16) (.k (.int .i64 1)), none⟩,
⟨some 16, .mov (.t 25), none⟩]
[1, 3, 4, 14, 15, 16])))))))
(.seq (.seq (.reg [⟨some 26, .faddr (.t 1) 3, none⟩,
⟨some 27, .load (.t 26), none⟩,
⟨some 28, .len false (.t 27), none⟩,
⟨some 29, .mov (.k (.int .i64 0)), none⟩]
[1, 3, 4, 27, 28, 29])
(.block 2
(.loop [1, 3, 4, 27, 28, 29] [1, 3, 4, 15, 6, 23, 24, 28, 37]
  (.seq (.reg [⟨some 30, .bin .lss (.t 29) (.t 28), none⟩]
[1, 3, 4, 27, 28, 29, 30])
(.seq (.cond (.t 30)
.skip
(.exit 2))
(.seq (.block 3
(.seq (.reg [⟨some 31, .iaddr 5 (.t 27) (.t 29), none⟩,
⟨some 32, .loadN (.t 31) 5, none⟩,
⟨some 8, .alloc t_api_Free 5 (.agg [.str [], .int .i64 0, .int .i64 0, .str [], .bool false]), none⟩,
⟨none, .store (.t 8) (.t 32) 5, none⟩]
[1, 3, 4, 8, 27, 28, 29])
(.reg [⟨some 33, .mov (.t 3), none⟩,
⟨some 34, .faddr (.t 8) 0, none⟩,
⟨some 35, .load (.t 34), none⟩,
⟨some 36, .mkrow t_string 1 1 (.str []) [(0, .t 35)], none⟩,
⟨some 37, .app t_string 1 16 (.t 33) (.t 36), none⟩,
⟨some 3, .mov (.t 37), none⟩]
[1, 3, 4, 27, 28, 29])))
(.reg [⟨some 38, .bin .add (.t 29) (.k (.int .i64 1)), none⟩,
⟨some 29, .mov (.t 38), none⟩]
[1, 3, 4, 27, 28, 29])))))))
(.seq (.seq (.reg [⟨some 39, .faddr (.t 1) 4, none⟩,
⟨some 40, .load (.t 39), none⟩,
⟨some 41, .len false (.t 40), none⟩,
⟨some 42, .mov (.k (.int .i64 0)), none⟩]
[1, 3, 4, 40, 41, 42])
(.block 4
(.loop [1, 3, 4, 40, 41, 42] [1, 3, 4, 15, 6, 23, 24, 28, 8, 36, 37, 41, 50]
  (.seq (.reg [⟨some 43, .bin .lss (.t 42) (.t 41), none⟩]
[1, 3, 4, 40, 41, 42, 43])
(.seq (.cond (.t 43)
.skip
(.exit 4))
(.seq (.block 5
(.seq (.reg [⟨some 44, .iaddr 3 (.t 40) (.t 42), none⟩,
⟨some 45, .loadN (.t 44) 3, none⟩,
⟨some 10, .alloc t_api_State 3 (.agg [.str [], .bool false, .bool false]), none⟩,
⟨none, .store (.t 10) (.t 45) 3, none⟩]
[1, 3, 4, 10, 40, 41, 42])
(.reg [⟨some 46, .mov (.t 4), none⟩,
⟨some 47, .faddr (.t 10) 0, none⟩,
⟨some 48, .load (.t 47), none⟩,
⟨some 49, .mkrow t_string 1 1 (.str []) [(0, .t 48)], none⟩,
⟨some 50, .app t_string 1 16 (.t 46) (.t 49), none⟩,
⟨some 4, .mov (.t 50), none⟩]
[1, 3, 4, 40, 41, 42])))
(.reg [⟨some 51, .bin .add (.t 42) (.k (.int .i64 1)), none⟩,
⟨some 42, .mov (.t 51), none⟩]
[1, 3, 4, 40, 41, 42])))))))
(.seq (.reg [⟨some 53, .faddr (.t 1) 1, none⟩,
⟨some 54, .load (.t 53), none⟩,
⟨some 55, .call n_schema_Check [.t 54], none⟩,
⟨some 52, .mov (.t 55), none⟩,
⟨some 56, .ext (.t 52) 0, none⟩,
⟨some 57, .ext (.t 52) 1, none⟩,
⟨some 11, .mov (.t 56), none⟩,
⟨some 12, .mov (.t 57), none⟩]
[1, 3, 4, 12])
(.seq (.reg [⟨some 58, .mov (.t 12), none⟩,
⟨some 59, .bin .eql (.t 58) (.k (.int .i64 0)), none⟩,
⟨some 60, .mov (.t 59), none⟩,
⟨some 61, .faddr (.t 1) 0, (some (60, true))⟩,
⟨some 62, .load (.t 61), (some (60, true))⟩,
⟨some 63, .call n_schema_Name [.t 62], (some (60, true))⟩,
⟨some 64, .pick (.t 60) (.t 63) (.k (.bool false)), none⟩,
⟨some 65, .mov (.t 64), none⟩,
⟨some 66, .mov (.t 3), (some (65, true))⟩,
⟨some 67, .call n_core_names [.t 66], (some (65, true))⟩,
⟨some 68, .pick (.t 65) (.t 67) (.k (.bool false)), none⟩,
⟨some 69, .mov (.t 68), none⟩,
⟨some 70, .mov (.t 4), (some (69, true))⟩,
⟨some 71, .call n_core_names [.t 70], (some (69, true))⟩,
⟨some 72, .pick (.t 69) (.t 71) (.k (.bool false)), none⟩,
⟨some 73, .mov (.t 72), none⟩,
⟨some 74, .faddr (.t 1) 2, (some (73, true))⟩,
⟨some 75, .load (.t 74), (some (73, true))⟩,
⟨some 76, .call n_core_all_api_Quant [.t 75, .f n_core_head_1], (some (73, true))⟩,
⟨some 77, .pick (.t 73) (.t 76) (.k (.bool false)), none⟩,
⟨some 78, .mov (.t 77), none⟩,
⟨some 79, .faddr (.t 1) 3, (some (78, true))⟩,
⟨some 80, .load (.t 79), (some (78, true))⟩,
⟨some 81, .call n_core_all_api_Free [.t 80, .f n_core_head_2], (some (78, true))⟩,
⟨some 82, .pick (.t 78) (.t 81) (.k (.bool false)), none⟩,
⟨some 83, .mov (.t 82), none⟩,
⟨some 84, .faddr (.t 1) 5, (some (83, true))⟩,
⟨some 85, .load (.t 84), (some (83, true))⟩,
⟨some 86, .bin .geq (.t 85) (.k (.int .i64 0)), (some (83, true))⟩,
⟨some 87, .pick (.t 83) (.t 86) (.k (.bool false)), none⟩,
⟨some 88, .mov (.t 87), none⟩,
⟨some 89, .faddr (.t 1) 5, (some (88, true))⟩,
⟨some 90, .load (.t 89), (some (88, true))⟩,
⟨some 91, .faddr (.t 1) 4, (some (88, true))⟩,
⟨some 92, .load (.t 91), (some (88, true))⟩,
⟨some 93, .len false (.t 92), (some (88, true))⟩,
⟨some 94, .bin .lss (.t 90) (.t 93), (some (88, true))⟩,
⟨some 95, .pick (.t 88) (.t 94) (.k (.bool false)), none⟩,
⟨some 2, .mov (.t 95), none⟩]
[2])
.ret)))))))⟩
theorem k_core_head : chkF Tryz.prog Tryz.f129 c_core_head = true := by kernel_rfl
theorem pc_core_head {G : Nat → Option AV} {args : List AV} {r : AV} (h : Runs Tryz.prog G c_core_head args r) (hk : args.length = c_core_head.k := by rfl) : PureC Tryz.prog G n_core_head args r := PureC.of_runs (fn := Tryz.f129) (A := c_core_head) Tryz.func129 k_core_head hk h
def c_core_head_1 : AFun := ⟨9, 2, [.t 4],
  (.seq (.reg [⟨some 3, .box t_api_Quant 3 (.t 1), none⟩,
⟨some 4, .mov (.k (.bool false)), none⟩]
[3])
(.seq (.reg [⟨some 5, .faddr (.t 3) 2, none⟩,
⟨some 6, .load (.t 5), none⟩,
⟨some 7, .call n_value_Name [.t 6], none⟩,
⟨some 8, .bin .neq (.t 7) (.k (.str [])), none⟩,
⟨some 4, .mov (.t 8), none⟩]
[4])
.ret))⟩
theorem k_core_head_1 : chkF Tryz.prog Tryz.f192 c_core_head_1 = true := by kernel_rfl
theorem pc_core_head_1 {G : Nat → Option AV} {args : List AV} {r : AV} (h : Runs Tryz.prog G c_core_head_1 args r) (hk : args.length = c_core_head_1.k := by rfl) : PureC Tryz.prog G n_core_head_1 args r := PureC.of_runs (fn := Tryz.f192) (A := c_core_head_1) Tryz.func192 k_core_head_1 hk h
def c_core_head_2 : AFun := ⟨8, 2, [.t 4],
  (.seq (.reg [⟨some 3, .box t_api_Free 5 (.t 1), none⟩,
⟨some 4, .mov (.k (.bool false)), none⟩]
[3])
(.seq (.reg [⟨some 5, .faddr (.t 3) 1, none⟩,
⟨some 6, .loadN (.t 5) 4, none⟩,
⟨some 7, .call n_value_Right [.t 6], none⟩,
⟨some 4, .mov (.t 7), none⟩]
[4])
.ret))⟩
theorem k_core_head_2 : chkF Tryz.prog Tryz.f195 c_core_head_2 = true := by kernel_rfl
theorem pc_core_head_2 {G : Nat → Option AV} {args : List AV} {r : AV} (h : Runs Tryz.prog G c_core_head_2 args r) (hk : args.length = c_core_head_2.k := by rfl) : PureC Tryz.prog G n_core_head_2 args r := PureC.of_runs (fn := Tryz.f195) (A := c_core_head_2) Tryz.func195 k_core_head_2 hk h
def c_core_leaf : AFun := ⟨105, 2, [.cells 4 3, .t 5],
  (.seq (.reg [⟨some 2, .box t_api_Qea 9 (.t 0), none⟩,
⟨some 4, .alloc t_core_expr 3 (.agg [.int .i64 0, .int .i64 0, .int .i64 0]), none⟩,
⟨some 5, .mov (.k (.bool false)), none⟩]
[1, 2, 4])
(.seq (.reg [⟨some 8, .faddr (.t 2) 7, none⟩,
⟨some 9, .load (.t 8), none⟩,
⟨some 10, .mov (.t 1), none⟩,
⟨some 11, .iaddr 7 (.t 9) (.t 10), none⟩,
⟨some 12, .loadN (.t 11) 7, none⟩,
⟨some 6, .alloc t_api_Node 7 (.agg [.int .i64 0, .int .i64 0, .int .i64 0, .int .i64 0, .int .i64 0, .str [], .bool false]), none⟩,
⟨none, .store (.t 6) (.t 12) 7, none⟩]
[1, 2, 4, 6])
(.seq (.reg [⟨some 13, .faddr (.t 6) 0, none⟩,
⟨some 14, .load (.t 13), none⟩,
⟨some 15, .faddr (.t 6) 1, none⟩,
⟨some 16, .load (.t 15), none⟩,
⟨some 17, .build [.int .i64 0, .int .i64 0, .int .i64 0, .int .i64 0, .int .i64 0, .str [], .bool false] [(0, 1, .t 14), (1, 1, .t 16)], none⟩,
⟨some 7, .alloc t_api_Node 7 (.agg [.int .i64 0, .int .i64 0, .int .i64 0, .int .i64 0, .int .i64 0, .str [], .bool false]), none⟩,
⟨none, .store (.t 7) (.t 17) 7, none⟩]
[1, 2, 4, 6, 7])
(.seq (.block 0
(.seq (.reg [⟨some 19, .faddr (.t 6) 0, none⟩,
⟨some 20, .load (.t 19), none⟩,
⟨some 21, .bin .eql (.t 20) (.k (.int .i64 1)), none⟩,
⟨some 22, .mov (.t 21), none⟩,
⟨some 23, .loadN (.t 6) 7, (some (22, true))⟩,
⟨some 24, .faddr (.t 6) 0, (some (22, true))⟩,
⟨some 25, .load (.t 24), (some (22, true))⟩,
⟨some 26, .faddr (.t 6) 3, (some (22, true))⟩,
⟨some 27, .loadN (.t 26) 4, (some (22, true))⟩,
⟨some 28, .build [.int .i64 0, .int .i64 0, .int .i64 0, .int .i64 0, .int .i64 0, .str [], .bool false] [(0, 1, .t 25), (3, 4, .t 27)], (some (22, true))⟩,
⟨some 29, .eqA false [0, 0, 0, 0, 0, 1, 2] (.t 23) (.t 28), (some (22, true))⟩,
⟨some 30, .pick (.t 22) (.t 29) (.k (.bool false)), none⟩,
⟨some 31, .mov (.t 30), none⟩,
⟨some 32, .faddr (.t 6) 3, (some (31, true))⟩,
⟨some 33, .loadN (.t 32) 4, (some (31, true))⟩,
⟨some 34, .call n_value_Right [.t 33], (some (31, true))⟩,
⟨some 35, .pick (.t 31) (.t 34) (.k (.bool false)), none⟩,
⟨some 18, .mov (.t 35), none⟩]
[1, 2, 4, 6, 7, 18])
(.cond (.t 18)
(.seq (.reg [⟨some 36, .faddr (.t 6) 3, none⟩,
⟨some 37, .faddr (.t 36) 0, none⟩,
⟨some 38, .load (.t 37), none⟩,
⟨some 39, .mov (.t 1), none⟩,
⟨some 40, .build [.int .i64 0, .int .i64 0, .int .i64 0] [(0, 1, .t 38), (1, 1, .k (.int .i64 1)), (2, 1, .t 39)], none⟩,
⟨none, .store (.t 4) (.t 40) 3, none⟩,
⟨some 5, .mov (.k (.bool true)), none⟩]
[4, 5])
.ret)
(.seq (.reg [⟨some 42, .faddr (.t 6) 0, none⟩,
⟨some 43, .load (.t 42), none⟩,
⟨some 44, .bin .eql (.t 43) (.k (.int .i64 2)), none⟩,
⟨some 45, .mov (.t 44), none⟩,
⟨some 46, .loadN (.t 6) 7, (some (45, true))⟩,
⟨some 47, .loadN (.t 7) 7, (some (45, true))⟩,
⟨some 48, .eqA false [0, 0, 0, 0, 0, 1, 2] (.t 46) (.t 47), (some (45, true))⟩,
⟨some 49, .pick (.t 45) (.t 48) (.k (.bool false)), none⟩,
⟨some 50, .mov (.t 49), none⟩,
⟨some 51, .faddr (.t 6) 1, (some (50, true))⟩,
⟨some 52, .load (.t 51), (some (50, true))⟩,
⟨some 53, .bin .geq (.t 52) (.k (.int .i64 0)), (some (50, true))⟩,
⟨some 54, .pick (.t 50) (.t 53) (.k (.bool false)), none⟩,
⟨some 55, .mov (.t 54), none⟩,
⟨some 56, .faddr (.t 6) 1, (some (55, true))⟩,
⟨some 57, .load (.t 56), (some (55, true))⟩,
⟨some 58, .faddr (.t 2) 2, (some (55, true))⟩,
⟨some 59, .load (.t 58), (some (55, true))⟩,
⟨some 60, .len false (.t 59), (some (55, true))⟩,
⟨some 61, .bin .lss (.t 57) (.t 60), (some (55, true))⟩,
⟨some 62, .pick (.t 55) (.t 61) (.k (.bool false)), none⟩,
⟨some 41, .mov (.t 62), none⟩]
[1, 2, 4, 6, 7, 41])
(.cond (.t 41)
(.seq (.reg [⟨some 63, .faddr (.t 2) 2, none⟩,
⟨some 64, .load (.t 63), none⟩,
⟨some 65, .faddr (.t 6) 1, none⟩,
⟨some 66, .load (.t 65), none⟩,
⟨some 67, .iaddr 3 (.t 64) (.t 66), none⟩,
⟨some 68, .faddr (.t 67) 2, none⟩,
⟨some 69, .load (.t 68), none⟩,
⟨some 70, .mov (.t 1), none⟩,
⟨some 71, .build [.int .i64 0, .int .i64 0, .int .i64 0] [(0, 1, .t 69), (1, 1, .k (.int .i64 1)), (2, 1, .t 70)], none⟩,
⟨none, .store (.t 4) (.t 71) 3, none⟩,
⟨some 5, .mov (.k (.bool true)), none⟩]
[4, 5])
.ret)
(.seq (.reg [⟨some 73, .faddr (.t 6) 0, none⟩,
⟨some 74, .load (.t 73), none⟩,
⟨some 75, .bin .eql (.t 74) (.k (.int .i64 3)), none⟩,
⟨some 76, .mov (.t 75), none⟩,
⟨some 77, .loadN (.t 6) 7, (some (76, true))⟩,
⟨some 78, .loadN (.t 7) 7, (some (76, true))⟩,
⟨some 79, .eqA false [0, 0, 0, 0, 0, 1, 2] (.t 77) (.t 78), (some (76, true))⟩,
⟨some 80, .pick (.t 76) (.t 79) (.k (.bool false)), none⟩,
⟨some 81, .mov (.t 80), none⟩,
⟨some 82, .faddr (.t 6) 1, (some (81, true))⟩,
⟨some 83, .load (.t 82), (some (81, true))⟩,
⟨some 84, .bin .geq (.t 83) (.k (.int .i64 0)), (some (81, true))⟩,
⟨some 85, .pick (.t 81) (.t 84) (.k (.bool false)), none⟩,
⟨some 86, .mov (.t 85), none⟩,
⟨some 87, .faddr (.t 6) 1, (some (86, true))⟩,
⟨some 88, .load (.t 87), (some (86, true))⟩,
⟨some 89, .faddr (.t 2) 3, (some (86, true))⟩,
⟨some 90, .load (.t 89), (some (86, true))⟩,
⟨some 91, .len false (.t 90), (some (86, true))⟩,
⟨some 92, .bin .lss (.t 88) (.t 91), (some (86, true))⟩,
⟨some 93, .pick (.t 86) (.t 92) (.k (.bool false)), none⟩,
⟨some 72, .mov (.t 93), none⟩]
[1, 2, 4, 6, 72])
(.cond (.t 72)
(.seq (.reg [⟨some 94, .faddr (.t 2) 3, none⟩,
⟨some 95, .load (.t 94), none⟩,
⟨some 96, .faddr (.t 6) 1, none⟩,
⟨some 97, .load (.t 96), none⟩,
⟨some 98, .iaddr 5 (.t 95) (.t 97), none⟩,
⟨some 99, .faddr (.t 98) 1, none⟩,
⟨some 100, .faddr (.t 99) 0, none⟩,
⟨some 101, .load (.t 100), none⟩,
⟨some 102, .mov (.t 1), none⟩,
⟨some 103, .build [.int .i64 0, .int .i64 0, .int .i64 0] [(0, 1, .t 101), (1, 1, .k (.int .i64 1)), (2, 1, .t 102)], none⟩,
⟨none, .store (.t 4) (.t 103) 3, none⟩,
⟨some 5, .mov (.k (.bool true)), none⟩]
[4, 5])
.ret)
.skip)))))))
(.seq (.reg [⟨some 104, .build [.int .i64 0, .int .i64 0, .int .i64 0] [], none⟩,
⟨none, .store (.t 4) (.t 104) 3, none⟩,
⟨some 5, .mov (.k (.bool false)), none⟩]
[4, 5])
.ret)))))⟩
theorem k_core_leaf : chkF Tryz.prog Tryz.f250 c_core_leaf = true := by kernel_rfl
theorem pc_core_leaf {G : Nat → Option AV} {args : List AV} {r : AV} (h : Runs Tryz.prog G c_core_leaf args r) (hk : args.length = c_core_leaf.k := by rfl) : PureC Tryz.prog G n_core_leaf args r := PureC.of_runs (fn := Tryz.f250) (A := c_core_leaf) Tryz.func250 k_core_leaf hk h
def c_core_names : AFun := ⟨6, 1, [.t 2],
  (.seq (.reg [⟨some 1, .box t_Sstring 1 (.t 0), none⟩,
⟨some 2, .mov (.k (.bool false)), none⟩]
[1])
(.seq (.reg [⟨some 3, .load (.t 1), none⟩,
⟨some 4, .mkfn n_core_names_1 [.t 1], none⟩,
⟨some 5, .call n_core_all_string [.t 3, .t 4], none⟩,
⟨some 2, .mov (.t 5), none⟩]
[2])
.ret))⟩
theorem k_core_names : chkF Tryz.prog Tryz.f190 c_core_names = true := by kernel_rfl
theorem pc_core_names {G : Nat → Option AV} {args : List AV} {r : AV} (h : Runs Tryz.prog G c_core_names args r) (hk : args.length = c_core_names.k := by rfl) : PureC Tryz.prog G n_core_names args r := PureC.of_runs (fn := Tryz.f190) (A := c_core_names) Tryz.func190 k_core_names hk h
def c_core_names_1 : AFun := ⟨15, 3, [.t 5],
  (.seq (.reg [⟨some 5, .mov (.k (.bool false)), none⟩]
[0, 1, 2])
(.seq (.reg [⟨some 6, .mov (.t 1), none⟩,
⟨some 7, .call n_schema_Name [.t 6], none⟩,
⟨some 8, .mov (.t 7), none⟩,
⟨some 9, .load (.t 2), (some (8, true))⟩,
⟨some 10, .mov (.t 1), (some (8, true))⟩,
⟨some 11, .call n_slices_Index_string_string [.t 9, .t 10], (some (8, true))⟩,
⟨some 12, .mov (.t 0), (some (8, true))⟩,
⟨some 13, .bin .eql (.t 11) (.t 12), (some (8, true))⟩,
⟨some 14, .pick (.t 8) (.t 13) (.k (.bool false)), none⟩,
⟨some 5, .mov (.t 14), none⟩]
[5])
.ret))⟩
theorem k_core_names_1 : chkF Tryz.prog Tryz.f248 c_core_names_1 = true := by kernel_rfl
theorem pc_core_names_1 {G : Nat → Option AV} {args : List AV} {r : AV} (h : Runs Tryz.prog G c_core_names_1 args r) (hk : args.length = c_core_names_1.k := by rfl) : PureC Tryz.prog G n_core_names_1 args r := PureC.of_runs (fn := Tryz.f248) (A := c_core_names_1) Tryz.func248 k_core_names_1 hk h
def c_core_sameSymbol : AFun := ⟨17, 2, [.t 4],
  (.seq (.reg [⟨some 2, .box t_api_Symbol 2 (.t 0), none⟩,
⟨some 3, .box t_api_Symbol 2 (.t 1), none⟩,
⟨some 4, .mov (.k (.bool false)), none⟩]
[2, 3])
(.seq (.reg [⟨some 5, .faddr (.t 2) 0, none⟩,
⟨some 6, .load (.t 5), none⟩,
⟨some 7, .faddr (.t 3) 0, none⟩,
⟨some 8, .load (.t 7), none⟩,
⟨some 9, .bin .eql (.t 6) (.t 8), none⟩,
⟨some 10, .mov (.t 9), none⟩,
⟨some 11, .faddr (.t 2) 1, (some (10, true))⟩,
⟨some 12, .load (.t 11), (some (10, true))⟩,
⟨some 13, .faddr (.t 3) 1, (some (10, true))⟩,
⟨some 14, .load (.t 13), (some (10, true))⟩,
⟨some 15, .call n_slices_Equal_api_Arg_api_Arg [.t 12, .t 14], (some (10, true))⟩,
⟨some 16, .pick (.t 10) (.t 15) (.k (.bool false)), none⟩,
⟨some 4, .mov (.t 16), none⟩]
[4])
.ret))⟩
theorem k_core_sameSymbol : chkF Tryz.prog Tryz.f209 c_core_sameSymbol = true := by kernel_rfl
theorem pc_core_sameSymbol {G : Nat → Option AV} {args : List AV} {r : AV} (h : Runs Tryz.prog G c_core_sameSymbol args r) (hk : args.length = c_core_sameSymbol.k := by rfl) : PureC Tryz.prog G n_core_sameSymbol args r := PureC.of_runs (fn := Tryz.f209) (A := c_core_sameSymbol) Tryz.func209 k_core_sameSymbol hk h
def c_core_symbol : AFun := ⟨27, 2, [.t 4],
  (.seq (.reg [⟨some 2, .box t_api_Qea 9 (.t 0), none⟩,
⟨some 3, .box t_api_Symbol 2 (.t 1), none⟩,
⟨some 4, .mov (.k (.bool false)), none⟩]
[2, 3])
(.seq (.seq (.reg [⟨some 5, .faddr (.t 3) 0, none⟩,
⟨some 6, .load (.t 5), none⟩,
⟨some 7, .bin .lss (.t 6) (.k (.int .i64 0)), none⟩,
⟨some 8, .mov (.t 7), none⟩,
⟨some 9, .faddr (.t 3) 0, (some (8, false))⟩,
⟨some 10, .load (.t 9), (some (8, false))⟩,
⟨some 11, .faddr (.t 2) 1, (some (8, false))⟩,
⟨some 12, .load (.t 11), (some (8, false))⟩,
⟨some 13, .len false (.t 12), (some (8, false))⟩,
⟨some 14, .bin .geq (.t 10) (.t 13), (some (8, false))⟩,
⟨some 15, .pick (.t 8) (.k (.bool true)) (.t 14), none⟩]
[2, 3, 15])
(.cond (.t 15)
(.seq (.reg [⟨some 4, .mov (.k (.bool false)), none⟩]
[4])
.ret)
.skip))
(.seq (.dreg [⟨some 16, .faddr (.t 3) 1, none⟩,
⟨some 17, .load (.t 16), none⟩,
⟨some 18, .faddr (.t 2) 1, none⟩,
⟨some 19, .load (.t 18), none⟩,
⟨some 20, .faddr (.t 3) 0, none⟩,
⟨some 21, .load (.t 20), none⟩,
⟨some 22, .iaddr 2 (.t 19) (.t 21), none⟩,
⟨some 23, .faddr (.t 22) 1, none⟩,
⟨some 24, .load (.t 23), none⟩,
⟨some 25, .mkfn n_core_symbol_1 [.t 2], none⟩,
⟨some 26, .call n_slices_EqualFunc_api_Arg_int_api_Arg_int [.t 17, .t 24, .t 25], none⟩,
⟨some 4, .mov (.t 26), none⟩]
[4])
.ret)))⟩
theorem k_core_symbol : chkF Tryz.prog Tryz.f207 c_core_symbol = true := by kernel_rfl
theorem pc_core_symbol {G : Nat → Option AV} {args : List AV} {r : AV} (h : Runs Tryz.prog G c_core_symbol args r) (hk : args.length = c_core_symbol.k := by rfl) : PureC Tryz.prog G n_core_symbol args r := PureC.of_runs (fn := Tryz.f207) (A := c_core_symbol) Tryz.func207 k_core_symbol hk h
def c_core_symbol_1 : AFun := ⟨10, 3, [.t 5],
  (.seq (.reg [⟨some 3, .box t_api_Arg 6 (.t 0), none⟩,
⟨some 5, .mov (.k (.bool false)), none⟩]
[1, 2, 3])
(.seq (.reg [⟨some 6, .loadN (.t 2) 9, none⟩,
⟨some 7, .loadN (.t 3) 6, none⟩,
⟨some 8, .mov (.t 1), none⟩,
⟨some 9, .call n_core_arg [.t 6, .t 7, .t 8], none⟩,
⟨some 5, .mov (.t 9), none⟩]
[5])
.ret))⟩
theorem k_core_symbol_1 : chkF Tryz.prog Tryz.f253 c_core_symbol_1 = true := by kernel_rfl
theorem pc_core_symbol_1 {G : Nat → Option AV} {args : List AV} {r : AV} (h : Runs Tryz.prog G c_core_symbol_1 args r) (hk : args.length = c_core_symbol_1.k := by rfl) : PureC Tryz.prog G n_core_symbol_1 args r := PureC.of_runs (fn := Tryz.f253) (A := c_core_symbol_1) Tryz.func253 k_core_symbol_1 hk h
def c_core_symbols : AFun := ⟨41, 1, [.t 2],
  (.seq (.reg [⟨some 1, .box t_api_Qea 9 (.t 0), none⟩,
⟨some 2, .mov (.k (.bool false)), none⟩]
[1])
(.seq (.reg [⟨some 3, .alloc t_Sint 1 (.nils), none⟩]
[1, 3])
(.seq (.seq (.reg [⟨some 7, .faddr (.t 1) 8, none⟩,
⟨some 8, .load (.t 7), none⟩,
⟨some 9, .len false (.t 8), none⟩,
⟨some 10, .mov (.k (.int .i64 0)), none⟩]
[1, 3, 8, 9, 10])
(.block 0
(.loop [1, 3, 8, 9, 10] [1, 3, 9, 23]
  (.seq (.reg [⟨some 11, .bin .lss (.t 10) (.t 9), none⟩]
[1, 3, 8, 9, 10, 11])
(.seq (.cond (.t 11)
.skip
(.exit 0))
(.seq (.block 1
(.seq (.reg [⟨some 12, .iaddr 5 (.t 8) (.t 10), none⟩,
⟨some 13, .loadN (.t 12) 5, none⟩,
⟨some 5, .alloc t_api_Trans 5 (.agg [.int .i64 0, .int .i64 0, .int .i64 0, .int .i64 0, .nils]), none⟩,
⟨none, .store (.t 5) (.t 13) 5, none⟩]
[1, 3, 5, 8, 9, 10])
(.seq (.reg [⟨some 14, .load (.t 3), none⟩,
⟨some 15, .faddr (.t 5) 1, none⟩,
⟨some 16, .load (.t 15), none⟩,
⟨some 17, .call n_slices_Contains_int_int [.t 14, .t 16], none⟩,
⟨some 18, .un .not (.t 17), none⟩]
[1, 3, 5, 8, 9, 10, 18])
(.cond (.t 18)
(.reg [⟨some 19, .load (.t 3), none⟩,
⟨some 20, .faddr (.t 5) 1, none⟩,
⟨some 21, .load (.t 20), none⟩,
⟨some 22, .mkrow t_int 1 1 (.int .i64 0) [(0, .t 21)], none⟩,
⟨some 23, .app t_int 1 8 (.t 19) (.t 22), none⟩,
⟨none, .store (.t 3) (.t 23) 1, none⟩]
[1, 3, 8, 9, 10])
.skip))))
(.reg [⟨some 24, .bin .add (.t 10) (.k (.int .i64 1)), none⟩,
⟨some 10, .mov (.t 24), none⟩]
[1, 3, 8, 9, 10])))))))
(.seq (.reg [⟨some 25, .mkfn n_core_symbols_1 [.t 1], none⟩,
⟨some 6, .mov (.t 25), none⟩]
[1, 3, 6])
(.seq (.reg [⟨some 26, .load (.t 3), none⟩,
⟨some 27, .mkfn n_core_symbols_2 [.t 1, .t 3], none⟩,
⟨some 28, .call n_core_all_int [.t 26, .t 27], none⟩,
⟨some 29, .mov (.t 28), none⟩,
⟨some 30, .faddr (.t 1) 6, (some (29, true))⟩,
⟨some 31, .load (.t 30), (some (29, true))⟩,
⟨some 32, .mov (.t 6), (some (29, true))⟩,
⟨some 33, .call n_core_all_api_Symbol [.t 31, .t 32], (some (29, true))⟩,
⟨some 34, .pick (.t 29) (.t 33) (.k (.bool false)), none⟩,
⟨some 35, .mov (.t 34), none⟩,
⟨some 36, .faddr (.t 1) 2, (some (35, true))⟩,
⟨some 37, .load (.t 36), (some (35, true))⟩,
⟨some 38, .mkfn n_core_symbols_3 [.t 1], (some (35, true))⟩,
⟨some 39, .call n_core_all_api_Quant [.t 37, .t 38], (some (35, true))⟩,
⟨some 40, .pick (.t 35) (.t 39) (.k (.bool false)), none⟩,
⟨some 2, .mov (.t 40), none⟩]
[2])
.ret)))))⟩
theorem k_core_symbols : chkF Tryz.prog Tryz.f131 c_core_symbols = true := by kernel_rfl
theorem pc_core_symbols {G : Nat → Option AV} {args : List AV} {r : AV} (h : Runs Tryz.prog G c_core_symbols args r) (hk : args.length = c_core_symbols.k := by rfl) : PureC Tryz.prog G n_core_symbols args r := PureC.of_runs (fn := Tryz.f131) (A := c_core_symbols) Tryz.func131 k_core_symbols hk h
def c_core_symbols_1 : AFun := ⟨17, 3, [.t 5],
  (.seq (.reg [⟨some 4, .box t_api_Symbol 2 (.t 1), none⟩,
⟨some 5, .mov (.k (.bool false)), none⟩]
[0, 2, 4])
(.seq (.reg [⟨some 6, .loadN (.t 2) 9, none⟩,
⟨some 7, .loadN (.t 4) 2, none⟩,
⟨some 8, .call n_core_symbol [.t 6, .t 7], none⟩,
⟨some 9, .mov (.t 8), none⟩,
⟨some 10, .faddr (.t 2) 6, (some (9, true))⟩,
⟨some 11, .load (.t 10), (some (9, true))⟩,
⟨some 12, .mkfn n_core_symbols_1_1 [.t 4], (some (9, true))⟩,
⟨some 13, .call n_slices_IndexFunc_api_Symbol_api_Symbol [.t 11, .t 12], (some (9, true))⟩,
⟨some 14, .mov (.t 0), (some (9, true))⟩,
⟨some 15, .bin .eql (.t 13) (.t 14), (some (9, true))⟩,
⟨some 16, .pick (.t 9) (.t 15) (.k (.bool false)), none⟩,
⟨some 5, .mov (.t 16), none⟩]
[5])
.ret))⟩
theorem k_core_symbols_1 : chkF Tryz.prog Tryz.f206 c_core_symbols_1 = true := by kernel_rfl
theorem pc_core_symbols_1 {G : Nat → Option AV} {args : List AV} {r : AV} (h : Runs Tryz.prog G c_core_symbols_1 args r) (hk : args.length = c_core_symbols_1.k := by rfl) : PureC Tryz.prog G n_core_symbols_1 args r := PureC.of_runs (fn := Tryz.f206) (A := c_core_symbols_1) Tryz.func206 k_core_symbols_1 hk h
def c_core_symbols_1_1 : AFun := ⟨7, 2, [.t 3],
  (.seq (.reg [⟨some 2, .box t_api_Symbol 2 (.t 0), none⟩,
⟨some 3, .mov (.k (.bool false)), none⟩]
[1, 2])
(.seq (.reg [⟨some 4, .loadN (.t 2) 2, none⟩,
⟨some 5, .loadN (.t 1) 2, none⟩,
⟨some 6, .call n_core_sameSymbol [.t 4, .t 5], none⟩,
⟨some 3, .mov (.t 6), none⟩]
[3])
.ret))⟩
theorem k_core_symbols_1_1 : chkF Tryz.prog Tryz.f208 c_core_symbols_1_1 = true := by kernel_rfl
theorem pc_core_symbols_1_1 {G : Nat → Option AV} {args : List AV} {r : AV} (h : Runs Tryz.prog G c_core_symbols_1_1 args r) (hk : args.length = c_core_symbols_1_1.k := by rfl) : PureC Tryz.prog G n_core_symbols_1_1 args r := PureC.of_runs (fn := Tryz.f208) (A := c_core_symbols_1_1) Tryz.func208 k_core_symbols_1_1 hk h
def c_core_symbols_2 : AFun := ⟨17, 4, [.t 6],
  (.seq (.reg [⟨some 6, .mov (.k (.bool false)), none⟩]
[0, 1, 2, 3])
(.seq (.reg [⟨some 7, .mov (.t 1), none⟩,
⟨some 8, .faddr (.t 2) 6, none⟩,
⟨some 9, .load (.t 8), none⟩,
⟨some 10, .len false (.t 9), none⟩,
⟨some 11, .load (.t 3), none⟩,
⟨some 12, .len false (.t 11), none⟩,
⟨some 13, .bin .sub (.t 10) (.t 12), none⟩,
⟨some 14, .mov (.t 0), none⟩,
⟨some 15, .bin .add (.t 13) (.t 14), none⟩,
⟨some 16, .bin .eql (.t 7) (.t 15), none⟩,
⟨some 6, .mov (.t 16), none⟩]
[6])
.ret))⟩
theorem k_core_symbols_2 : chkF Tryz.prog Tryz.f211 c_core_symbols_2 = true := by kernel_rfl
theorem pc_core_symbols_2 {G : Nat → Option AV} {args : List AV} {r : AV} (h : Runs Tryz.prog G c_core_symbols_2 args r) (hk : args.length = c_core_symbols_2.k := by rfl) : PureC Tryz.prog G n_core_symbols_2 args r := PureC.of_runs (fn := Tryz.f211) (A := c_core_symbols_2) Tryz.func211 k_core_symbols_2 hk h
def c_core_symbols_3 : AFun := ⟨10, 3, [.t 5],
  (.seq (.reg [⟨some 3, .box t_int 1 (.t 0), none⟩,
⟨some 4, .box t_api_Quant 3 (.t 1), none⟩,
⟨some 5, .mov (.k (.bool false)), none⟩]
[2, 3])
(.seq (.reg [⟨some 6, .faddr (.t 2) 6, none⟩,
⟨some 7, .load (.t 6), none⟩,
⟨some 8, .mkfn n_core_symbols_3_1 [.t 3], none⟩,
⟨some 9, .call n_slices_ContainsFunc_api_Symbol_api_Symbol [.t 7, .t 8], none⟩,
⟨some 5, .mov (.t 9), none⟩]
[5])
.ret))⟩
theorem k_core_symbols_3 : chkF Tryz.prog Tryz.f213 c_core_symbols_3 = true := by kernel_rfl
theorem pc_core_symbols_3 {G : Nat → Option AV} {args : List AV} {r : AV} (h : Runs Tryz.prog G c_core_symbols_3 args r) (hk : args.length = c_core_symbols_3.k := by rfl) : PureC Tryz.prog G n_core_symbols_3 args r := PureC.of_runs (fn := Tryz.f213) (A := c_core_symbols_3) Tryz.func213 k_core_symbols_3 hk h
def c_core_symbols_3_1 : AFun := ⟨7, 2, [.t 3],
  (.seq (.reg [⟨some 2, .box t_api_Symbol 2 (.t 0), none⟩,
⟨some 3, .mov (.k (.bool false)), none⟩]
[1, 2])
(.seq (.reg [⟨some 4, .loadN (.t 2) 2, none⟩,
⟨some 5, .load (.t 1), none⟩,
⟨some 6, .call n_core_Stands [.t 4, .t 5], none⟩,
⟨some 3, .mov (.t 6), none⟩]
[3])
.ret))⟩
theorem k_core_symbols_3_1 : chkF Tryz.prog Tryz.f214 c_core_symbols_3_1 = true := by kernel_rfl
theorem pc_core_symbols_3_1 {G : Nat → Option AV} {args : List AV} {r : AV} (h : Runs Tryz.prog G c_core_symbols_3_1 args r) (hk : args.length = c_core_symbols_3_1.k := by rfl) : PureC Tryz.prog G n_core_symbols_3_1 args r := PureC.of_runs (fn := Tryz.f214) (A := c_core_symbols_3_1) Tryz.func214 k_core_symbols_3_1 hk h
def c_core_trans : AFun := ⟨21, 1, [.t 2],
  (.seq (.reg [⟨some 1, .box t_api_Qea 9 (.t 0), none⟩,
⟨some 2, .mov (.k (.bool false)), none⟩]
[1])
(.seq (.reg [⟨some 7, .loadN (.t 1) 9, none⟩,
⟨some 8, .call n_core_exprs [.t 7], none⟩,
⟨some 3, .alloc t_Score_expr 1 (.nils), none⟩,
⟨none, .store (.t 3) (.t 8) 1, none⟩]
[1, 3])
(.seq (.reg [⟨some 4, .alloc t_int 1 (.int .i64 0), none⟩,
⟨none, .store (.t 4) (.k (.int .i64 0)) 1, none⟩]
[1, 3, 4])
(.seq (.reg [⟨some 9, .mkfn n_core_trans_1 [.t 4, .t 3], none⟩,
⟨some 5, .alloc t_func_int_int_bool 1 (.nilfn), none⟩,
⟨none, .store (.t 5) (.t 9) 1, none⟩]
[1, 3, 4, 5])
(.seq (.reg [⟨some 10, .mkfn n_core_trans_2 [.t 4, .t 1, .t 5], none⟩,
⟨some 6, .mov (.t 10), none⟩]
[1, 3, 4, 6])
(.seq (.reg [⟨some 11, .faddr (.t 1) 8, none⟩,
⟨some 12, .load (.t 11), none⟩,
⟨some 13, .mov (.t 6), none⟩,
⟨some 14, .call n_core_all_api_Trans [.t 12, .t 13], none⟩,
⟨some 15, .mov (.t 14), none⟩,
⟨some 16, .load (.t 4), (some (15, true))⟩,
⟨some 17, .load (.t 3), (some (15, true))⟩,
⟨some 18, .len false (.t 17), (some (15, true))⟩,
⟨some 19, .bin .eql (.t 16) (.t 18), (some (15, true))⟩,
⟨some 20, .pick (.t 15) (.t 19) (.k (.bool false)), none⟩,
⟨some 2, .mov (.t 20), none⟩]
[2])
.ret))))))⟩
theorem k_core_trans : chkF Tryz.prog Tryz.f130 c_core_trans = true := by kernel_rfl
theorem pc_core_trans {G : Nat → Option AV} {args : List AV} {r : AV} (h : Runs Tryz.prog G c_core_trans args r) (hk : args.length = c_core_trans.k := by rfl) : PureC Tryz.prog G n_core_trans args r := PureC.of_runs (fn := Tryz.f130) (A := c_core_trans) Tryz.func130 k_core_trans hk h
def c_core_trans_1 : AFun := ⟨48, 4, [.t 6],
  (.seq (.reg [⟨some 6, .mov (.k (.bool false)), none⟩]
[0, 1, 2, 3])
(.seq (.seq (.dreg [⟨some 7, .mov (.t 0), none⟩,
⟨some 8, .load (.t 2), none⟩,
⟨some 9, .bin .lss (.t 7) (.t 8), none⟩,
⟨some 10, .mov (.t 9), none⟩,
⟨some 11, .mov (.t 0), (some (10, false))⟩,
⟨some 12, .load (.t 3), (some (10, false))⟩,
⟨some 13, .len false (.t 12), (some (10, false))⟩,
⟨some 14, .bin .geq (.t 11) (.t 13), (some (10, false))⟩,
⟨some 15, .pick (.t 10) (.k (.bool true)) (.t 14), none⟩,
⟨some 16, .mov (.t 15), none⟩,
⟨some 17, .load (.t 3), (some (16, false))⟩,
⟨some 18, .mov (.t 0), (some (16, false))⟩,
⟨some 19, .iaddr 3 (.t 17) (.t 18), (some (16, false))⟩,
⟨some 20, .faddr (.t 19) 0, (some (16, false))⟩,
⟨some 21, .load (.t 20), (some (16, false))⟩,
⟨some 22, .mov (.t 1), (some (16, false))⟩,
⟨some 23, .bin .neq (.t 21) (.t 22), (some (16, false))⟩,
⟨some 24, .pick (.t 16) (.k (.bool true)) (.t 23), none⟩,
⟨some 25, .mov (.t 24), none⟩,
⟨some 26, .mov (.t 1), (some (25, false))⟩,
⟨some 27, .bin .eql (.t 26) (.k (.int .i64 0)), (some (25, false))⟩,
⟨some 28, .pick (.t 25) (.k (.bool true)) (.t 27), none⟩,
⟨some 29, .mov (.t 28), none⟩,
⟨some 30, .load (.t 3), (some (29, false))⟩,
⟨some 31, .mov (.t 0), (some (29, false))⟩,
⟨some 32, .iaddr 3 (.t 30) (.t 31), (some (29, false))⟩,
⟨some 33, .faddr (.t 32) 2, (some (29, false))⟩,
⟨some 34, .load (.t 33), (some (29, false))⟩,
⟨some 35, .load (.t 2), (some (29, false))⟩,
⟨some 36, .bin .neq (.t 34) (.t 35), (some (29, false))⟩,
⟨some 37, .pick (.t 29) (.k (.bool true)) (.t 36), none⟩,
⟨some 38, .mov (.t 37), none⟩,
⟨some 39, .load (.t 3), (some (38, false))⟩,
⟨some 40, .mov (.t 0), (some (38, false))⟩,
⟨some 41, .iaddr 3 (.t 39) (.t 40), (some (38, false))⟩,
⟨some 42, .faddr (.t 41) 1, (some (38, false))⟩,
⟨some 43, .load (.t 42), (some (38, false))⟩,
⟨some 44, .bin .gtr (.t 43) (.k (.int .i64 64)), (some (38, false))⟩,
⟨some 45, .pick (.t 38) (.k (.bool true)) (.t 44), none⟩]
[0, 2, 45])
(.cond (.t 45)
(.seq (.reg [⟨some 6, .mov (.k (.bool false)), none⟩]
[6])
.ret)
.skip))
(.seq (.reg [⟨some 46, .mov (.t 0), none⟩,
⟨some 47, .bin .add (.t 46) (.k (.int .i64 1)), none⟩,
⟨none, .store (.t 2) (.t 47) 1, none⟩]
[])
(.seq (.reg [⟨some 6, .mov (.k (.bool true)), none⟩]
[6])
.ret))))⟩
theorem k_core_trans_1 : chkF Tryz.prog Tryz.f197 c_core_trans_1 = true := by kernel_rfl
def c_core_trans_2 : AFun := ⟨74, 5, [.t 7],
  (.seq (.reg [⟨some 6, .box t_api_Trans 5 (.t 1), none⟩,
⟨some 7, .mov (.k (.bool false)), none⟩]
[2, 3, 4, 6])
(.seq (.reg [⟨some 10, .load (.t 2), none⟩,
⟨some 8, .mov (.t 10), none⟩]
[2, 3, 4, 6, 8])
(.seq (.seq (.reg [⟨some 11, .faddr (.t 6) 0, none⟩,
⟨some 12, .load (.t 11), none⟩,
⟨some 13, .bin .lss (.t 12) (.k (.int .i64 0)), none⟩,
⟨some 14, .mov (.t 13), none⟩,
⟨some 15, .faddr (.t 6) 0, (some (14, false))⟩,
⟨some 16, .load (.t 15), (some (14, false))⟩,
⟨some 17, .faddr (.t 3) 4, (some (14, false))⟩,
⟨some 18, .load (.t 17), (some (14, false))⟩,
⟨some 19, .len false (.t 18), (some (14, false))⟩,
⟨some 20, .bin .geq (.t 16) (.t 19), (some (14, false))⟩,
⟨some 21, .pick (.t 14) (.k (.bool true)) (.t 20), none⟩,
⟨some 22, .mov (.t 21), none⟩,
⟨some 23, .faddr (.t 6) 2, (some (22, false))⟩,
⟨some 24, .load (.t 23), (some (22, false))⟩,
⟨some 25, .bin .lss (.t 24) (.k (.int .i64 0)), (some (22, false))⟩,
⟨some 26, .pick (.t 22) (.k (.bool true)) (.t 25), none⟩,
⟨some 27, .mov (.t 26), none⟩,
⟨some 28, .faddr (.t 6) 2, (some (27, false))⟩,
⟨some 29, .load (.t 28), (some (27, false))⟩,
⟨some 30, .faddr (.t 3) 4, (some (27, false))⟩,
⟨some 31, .load (.t 30), (some (27, false))⟩,
⟨some 32, .len false (.t 31), (some (27, false))⟩,
⟨some 33, .bin .geq (.t 29) (.t 32), (some (27, false))⟩,
⟨some 34, .pick (.t 27) (.k (.bool true)) (.t 33), none⟩,
⟨some 35, .mov (.t 34), none⟩,
⟨some 36, .faddr (.t 6) 1, (some (35, false))⟩,
⟨some 37, .load (.t 36), (some (35, false))⟩,
⟨some 38, .bin .lss (.t 37) (.k (.int .i64 0)), (some (35, false))⟩,
⟨some 39, .pick (.t 35) (.k (.bool true)) (.t 38), none⟩,
⟨some 40, .mov (.t 39), none⟩,
⟨some 41, .faddr (.t 6) 1, (some (40, false))⟩,
⟨some 42, .load (.t 41), (some (40, false))⟩,
⟨some 43, .faddr (.t 3) 6, (some (40, false))⟩,
⟨some 44, .load (.t 43), (some (40, false))⟩,
⟨some 45, .len false (.t 44), (some (40, false))⟩,
⟨some 46, .bin .geq (.t 42) (.t 45), (some (40, false))⟩,
⟨some 47, .pick (.t 40) (.k (.bool true)) (.t 46), none⟩,
⟨some 48, .mov (.t 47), none⟩,
⟨some 49, .faddr (.t 6) 3, (some (48, false))⟩,
⟨some 50, .load (.t 49), (some (48, false))⟩,
⟨some 51, .bin .neq (.t 50) (.k (.int .i64 (-1))), (some (48, false))⟩,
⟨some 52, .mov (.t 51), (some (48, false))⟩,
⟨some 53, .load (.t 4), (some (52, true))⟩,
⟨some 54, .faddr (.t 6) 3, (some (52, true))⟩,
⟨some 55, .load (.t 54), (some (52, true))⟩,
⟨some 56, .callv (.t 53) [.t 55, .k (.int .i64 3)], (some (52, true))⟩,
⟨some 57, .un .not (.t 56), (some (52, true))⟩,
⟨some 58, .pick (.t 52) (.t 57) (.k (.bool false)), (some (48, false))⟩,
⟨some 59, .pick (.t 48) (.k (.bool true)) (.t 58), none⟩]
[2, 3, 4, 6, 8, 59])
(.cond (.t 59)
(.seq (.reg [⟨some 7, .mov (.k (.bool false)), none⟩]
[7])
.ret)
.skip))
(.seq (.reg [⟨some 60, .mkfn n_core_trans_2_1 [.t 6, .t 3, .t 4], none⟩,
⟨some 9, .mov (.t 60), none⟩]
[2, 3, 6, 8, 9])
(.seq (.reg [⟨some 61, .faddr (.t 6) 4, none⟩,
⟨some 62, .load (.t 61), none⟩,
⟨some 63, .mov (.t 9), none⟩,
⟨some 64, .call n_core_all_api_Set [.t 62, .t 63], none⟩,
⟨some 65, .mov (.t 64), none⟩,
⟨some 66, .faddr (.t 3) 7, (some (65, true))⟩,
⟨some 67, .load (.t 66), (some (65, true))⟩,
⟨some 68, .mov (.t 8), (some (65, true))⟩,
⟨some 69, .load (.t 2), (some (65, true))⟩,
⟨some 70, .slc 7 (.t 67) (some (.t 68)) (some (.t 69)), (some (65, true))⟩,
⟨some 71, .mkfn n_core_trans_2_2 [.t 3, .t 6], (some (65, true))⟩,
⟨some 72, .call n_core_all_api_Node [.t 70, .t 71], (some (65, true))⟩,
⟨some 73, .pick (.t 65) (.t 72) (.k (.bool false)), none⟩,
⟨some 7, .mov (.t 73), none⟩]
[7])
.ret)))))⟩
theorem k_core_trans_2 : chkF Tryz.prog Tryz.f198 c_core_trans_2 = true := by kernel_rfl
def c_core_trans_2_1 : AFun := ⟨44, 5, [.t 7],
  (.seq (.reg [⟨some 6, .box t_api_Set 2 (.t 1), none⟩,
⟨some 7, .mov (.k (.bool false)), none⟩]
[0, 2, 3, 4, 6])
(.seq (.reg [⟨some 9, .faddr (.t 2) 4, none⟩,
⟨some 10, .load (.t 9), none⟩,
⟨some 11, .mov (.t 0), none⟩,
⟨some 12, .slc 2 (.t 10) none (some (.t 11)), none⟩,
⟨some 13, .mkfn n_core_trans_2_1_1 [.t 6], none⟩,
⟨some 14, .call n_slices_ContainsFunc_api_Set_api_Set [.t 12, .t 13], none⟩,
⟨some 8, .mov (.t 14), none⟩]
[3, 4, 6, 8])
(.seq (.dreg [⟨some 15, .faddr (.t 6) 0, none⟩,
⟨some 16, .load (.t 15), none⟩,
⟨some 17, .bin .geq (.t 16) (.k (.int .i64 0)), none⟩,
⟨some 18, .mov (.t 17), none⟩,
⟨some 19, .faddr (.t 6) 0, (some (18, true))⟩,
⟨some 20, .load (.t 19), (some (18, true))⟩,
⟨some 21, .faddr (.t 3) 3, (some (18, true))⟩,
⟨some 22, .load (.t 21), (some (18, true))⟩,
⟨some 23, .len false (.t 22), (some (18, true))⟩,
⟨some 24, .bin .lss (.t 20) (.t 23), (some (18, true))⟩,
⟨some 25, .pick (.t 18) (.t 24) (.k (.bool false)), none⟩,
⟨some 26, .mov (.t 25), none⟩,
⟨some 27, .mov (.t 8), (some (26, true))⟩,
⟨some 28, .un .not (.t 27), (some (26, true))⟩,
⟨some 29, .pick (.t 26) (.t 28) (.k (.bool false)), none⟩,
⟨some 30, .mov (.t 29), none⟩,
⟨some 31, .load (.t 4), (some (30, true))⟩,
⟨some 32, .faddr (.t 6) 1, (some (30, true))⟩,
⟨some 33, .load (.t 32), (some (30, true))⟩,
⟨some 34, .faddr (.t 3) 3, (some (30, true))⟩,
⟨some 35, .load (.t 34), (some (30, true))⟩,
⟨some 36, .faddr (.t 6) 0, (some (30, true))⟩,
⟨some 37, .load (.t 36), (some (30, true))⟩,
⟨some 38, .iaddr 5 (.t 35) (.t 37), (some (30, true))⟩,
⟨some 39, .faddr (.t 38) 1, (some (30, true))⟩,
⟨some 40, .faddr (.t 39) 0, (some (30, true))⟩,
⟨some 41, .load (.t 40), (some (30, true))⟩,
⟨some 42, .callvB (.t 31) [.t 33, .t 41], (some (30, true))⟩,
⟨some 43, .pick (.t 30) (.t 42) (.k (.bool false)), none⟩,
⟨some 7, .mov (.t 43), none⟩]
[7])
.ret)))⟩
theorem k_core_trans_2_1 : chkF Tryz.prog Tryz.f199 c_core_trans_2_1 = true := by kernel_rfl
def c_core_trans_2_1_1 : AFun := ⟨9, 2, [.t 3],
  (.seq (.reg [⟨some 2, .box t_api_Set 2 (.t 0), none⟩,
⟨some 3, .mov (.k (.bool false)), none⟩]
[1, 2])
(.seq (.reg [⟨some 4, .faddr (.t 2) 0, none⟩,
⟨some 5, .load (.t 4), none⟩,
⟨some 6, .faddr (.t 1) 0, none⟩,
⟨some 7, .load (.t 6), none⟩,
⟨some 8, .bin .eql (.t 5) (.t 7), none⟩,
⟨some 3, .mov (.t 8), none⟩]
[3])
.ret))⟩
theorem k_core_trans_2_1_1 : chkF Tryz.prog Tryz.f200 c_core_trans_2_1_1 = true := by kernel_rfl
theorem pc_core_trans_2_1_1 {G : Nat → Option AV} {args : List AV} {r : AV} (h : Runs Tryz.prog G c_core_trans_2_1_1 args r) (hk : args.length = c_core_trans_2_1_1.k := by rfl) : PureC Tryz.prog G n_core_trans_2_1_1 args r := PureC.of_runs (fn := Tryz.f200) (A := c_core_trans_2_1_1) Tryz.func200 k_core_trans_2_1_1 hk h
def c_core_trans_2_2 : AFun := ⟨21, 4, [.t 6],
  (.seq (.reg [⟨some 5, .box t_api_Node 7 (.t 1), none⟩,
⟨some 6, .mov (.k (.bool false)), none⟩]
[2, 3, 5])
(.seq (.dreg [⟨some 7, .faddr (.t 5) 0, none⟩,
⟨some 8, .load (.t 7), none⟩,
⟨some 9, .bin .neq (.t 8) (.k (.int .i64 2)), none⟩,
⟨some 10, .mov (.t 9), none⟩,
⟨some 11, .faddr (.t 2) 6, (some (10, false))⟩,
⟨some 12, .load (.t 11), (some (10, false))⟩,
⟨some 13, .faddr (.t 3) 1, (some (10, false))⟩,
⟨some 14, .load (.t 13), (some (10, false))⟩,
⟨some 15, .iaddr 2 (.t 12) (.t 14), (some (10, false))⟩,
⟨some 16, .loadN (.t 15) 2, (some (10, false))⟩,
⟨some 17, .faddr (.t 5) 1, (some (10, false))⟩,
⟨some 18, .load (.t 17), (some (10, false))⟩,
⟨some 19, .call n_core_Stands [.t 16, .t 18], (some (10, false))⟩,
⟨some 20, .pick (.t 10) (.k (.bool true)) (.t 19), none⟩,
⟨some 6, .mov (.t 20), none⟩]
[6])
.ret))⟩
theorem k_core_trans_2_2 : chkF Tryz.prog Tryz.f203 c_core_trans_2_2 = true := by kernel_rfl
theorem pc_core_trans_2_2 {G : Nat → Option AV} {args : List AV} {r : AV} (h : Runs Tryz.prog G c_core_trans_2_2 args r) (hk : args.length = c_core_trans_2_2.k := by rfl) : PureC Tryz.prog G n_core_trans_2_2 args r := PureC.of_runs (fn := Tryz.f203) (A := c_core_trans_2_2) Tryz.func203 k_core_trans_2_2 hk h
def c_joint_Next : AFun := ⟨69, 3, [.t 6],
  (.seq (.reg [⟨some 3, .box t_api_Qea 9 (.t 0), none⟩,
⟨some 6, .mov (.k (.int .u32 0)), none⟩]
[1, 2, 3])
(.seq (.reg [⟨some 7, .mov (.k (.int .u32 0)), none⟩]
[1, 2, 3, 7])
(.seq (.seq (.reg [⟨some 13, .faddr (.t 3) 4, none⟩,
⟨some 14, .load (.t 13), none⟩,
⟨some 15, .len false (.t 14), none⟩,
⟨some 16, .mov (.k (.int .i64 0)), none⟩]
[1, 2, 3, 7, 14, 15, 16])
(.block 0
(.loop [1, 2, 3, 7, 14, 15, 16] [3, 15]
  (.seq (.reg [⟨some 17, .bin .lss (.t 16) (.t 15), none⟩]
[1, 2, 3, 7, 14, 15, 16, 17])
(.seq (.cond (.t 17)
.skip
(.exit 0))
(.seq (.block 1
(.seq (.reg [⟨some 18, .mov (.t 16), none⟩,
⟨some 19, .iaddr 3 (.t 14) (.t 16), none⟩,
⟨some 20, .loadN (.t 19) 3, none⟩,
⟨some 9, .alloc t_api_State 3 (.agg [.str [], .bool false, .bool false]), none⟩,
⟨some 8, .mov (.t 18), none⟩,
⟨none, .store (.t 9) (.t 20) 3, none⟩]
[1, 2, 3, 7, 8, 9, 14, 15, 16])
(.seq (.seq (.reg [⟨some 21, .mov (.t 1), none⟩,
⟨some 22, .mov (.t 8), none⟩,
⟨some 23, .conv .u64 (.t 22), none⟩,
⟨some 24, .bin .shl (.k (.int .u32 1)) (.t 23), none⟩,
⟨some 25, .bin .and (.t 21) (.t 24), none⟩,
⟨some 26, .bin .eql (.t 25) (.k (.int .u32 0)), none⟩]
[1, 2, 3, 7, 8, 9, 14, 15, 16, 26])
(.cond (.t 26)
(.exit 1)
.skip))
(.seq (.reg [⟨some 10, .mov (.k (.int .u32 0)), none⟩]
[1, 2, 3, 7, 8, 9, 10, 14, 15, 16])
(.seq (.seq (.reg [⟨some 27, .faddr (.t 3) 8, none⟩,
⟨some 28, .load (.t 27), none⟩,
⟨some 29, .len false (.t 28), none⟩,
⟨some 30, .mov (.k (.int .i64 0)), none⟩]
[1, 2, 3, 7, 8, 9, 10, 14, 15, 16, 28, 29, 30])
(.block 2
(.loop [1, 2, 3, 7, 8, 9, 10, 14, 15, 16, 28, 29, 30] [3, 15, 9, 29]
  (.seq (.reg [⟨some 31, .bin .lss (.t 30) (.t 29), none⟩]
[1, 2, 3, 7, 8, 9, 10, 14, 15, 16, 28, 29, 30, 31])
(.seq (.cond (.t 31)
.skip
(.exit 2))
(.seq (.block 3
(.seq (.reg [⟨some 32, .iaddr 5 (.t 28) (.t 30), none⟩,
⟨some 33, .loadN (.t 32) 5, none⟩,
⟨some 12, .alloc t_api_Trans 5 (.agg [.int .i64 0, .int .i64 0, .int .i64 0, .int .i64 0, .nils]), none⟩,
⟨none, .store (.t 12) (.t 33) 5, none⟩]
[1, 2, 3, 7, 8, 9, 10, 12, 14, 15, 16, 28, 29, 30])
(.seq (.reg [⟨some 34, .faddr (.t 12) 0, none⟩,
⟨some 35, .load (.t 34), none⟩,
⟨some 36, .mov (.t 8), none⟩,
⟨some 37, .bin .eql (.t 35) (.t 36), none⟩,
⟨some 38, .mov (.t 37), none⟩,
⟨some 39, .mov (.t 2), (some (38, true))⟩,
⟨some 40, .faddr (.t 12) 1, (some (38, true))⟩,
⟨some 41, .load (.t 40), (some (38, true))⟩,
⟨some 42, .conv .u64 (.t 41), (some (38, true))⟩,
⟨some 43, .bin .shl (.k (.int .u64 1)) (.t 42), (some (38, true))⟩,
⟨some 44, .bin .and (.t 39) (.t 43), (some (38, true))⟩,
⟨some 45, .bin .neq (.t 44) (.k (.int .u64 0)), (some (38, true))⟩,
⟨some 46, .pick (.t 38) (.t 45) (.k (.bool false)), none⟩]
[1, 2, 3, 7, 8, 9, 10, 12, 14, 15, 16, 28, 29, 30, 46])
(.cond (.t 46)
(.reg [⟨some 47, .mov (.t 10), none⟩,
⟨some 48, .faddr (.t 12) 2, none⟩,
⟨some 49, .load (.t 48), none⟩,
⟨some 50, .conv .u64 (.t 49), none⟩,
⟨some 51, .bin .shl (.k (.int .u32 1)) (.t 50), none⟩,
⟨some 52, .bin .or (.t 47) (.t 51), none⟩,
⟨some 10, .mov (.t 52), none⟩]
[1, 2, 3, 7, 8, 9, 10, 14, 15, 16, 28, 29, 30])
.skip))))
(.reg [⟨some 53, .bin .add (.t 30) (.k (.int .i64 1)), none⟩,
⟨some 30, .mov (.t 53), none⟩]
[1, 2, 3, 7, 8, 9, 10, 14, 15, 16, 28, 29, 30])))))))
(.seq (.seq (.reg [⟨some 54, .mov (.t 10), none⟩,
⟨some 55, .bin .eql (.t 54) (.k (.int .u32 0)), none⟩,
⟨some 56, .mov (.t 55), none⟩,
⟨some 57, .faddr (.t 9) 1, (some (56, true))⟩,
⟨some 58, .load (.t 57), (some (56, true))⟩,
⟨some 59, .un .not (.t 58), (some (56, true))⟩,
⟨some 60, .pick (.t 56) (.t 59) (.k (.bool false)), none⟩]
[1, 2, 3, 7, 8, 10, 14, 15, 16, 60])
(.cond (.t 60)
(.reg [⟨some 61, .mov (.t 8), none⟩,
⟨some 62, .conv .u64 (.t 61), none⟩,
⟨some 63, .bin .shl (.k (.int .u32 1)) (.t 62), none⟩,
⟨some 10, .mov (.t 63), none⟩]
[1, 2, 3, 7, 10, 14, 15, 16])
.skip))
(.reg [⟨some 64, .mov (.t 7), none⟩,
⟨some 65, .mov (.t 10), none⟩,
⟨some 66, .bin .or (.t 64) (.t 65), none⟩,
⟨some 7, .mov (.t 66), none⟩]
[1, 2, 3, 7, 14, 15, 16])))))))
(.reg [⟨some 67, .bin .add (.t 16) (.k (.int .i64 1)), none⟩,
⟨some 16, .mov (.t 67), none⟩]
[1, 2, 3, 7, 14, 15, 16])))))))
(.seq (.reg [⟨some 68, .mov (.t 7), none⟩,
⟨some 6, .mov (.t 68), none⟩]
[6])
.ret))))⟩
theorem k_joint_Next : chkF Tryz.prog Tryz.f75 c_joint_Next = true := by kernel_rfl
theorem pc_joint_Next {G : Nat → Option AV} {args : List AV} {r : AV} (h : Runs Tryz.prog G c_joint_Next args r) (hk : args.length = c_joint_Next.k := by rfl) : PureC Tryz.prog G n_joint_Next args r := PureC.of_runs (fn := Tryz.f75) (A := c_joint_Next) Tryz.func75 k_joint_Next hk h
end Go.Proofs.YtjbcfpkibnhodaaGreatDoor.Ab
