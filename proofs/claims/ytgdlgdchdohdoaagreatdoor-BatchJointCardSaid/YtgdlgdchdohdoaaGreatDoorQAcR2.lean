/-
  The functions' abstract code, by program (acgen.py), and that the model's code is it, reckoned by the kernel. No claim is proved here.
-/
import Derived.Test.YtgdlgdchdohdoaaGreatDoorQAcR0
namespace Go.Proofs.YtgdlgdchdohdoaaGreatDoor.Ab
open Go
def c_check_checker_run : AFun := ⟨37, 2, [.t 4],
  (.seq (.reg [⟨some 2, .box t_Pcheck_checker 1 (.t 0), none⟩,
⟨some 3, .box t_api_Tree 12 (.t 1), none⟩,
⟨some 4, .mov (.k (.nili)), none⟩]
[2, 3])
(.seq (.reg [⟨some 8, .load (.t 2), none⟩,
⟨some 9, .faddr (.t 3) 0, none⟩,
⟨some 10, .faddr (.t 9) 0, none⟩,
⟨some 11, .load (.t 10), none⟩,
⟨some 12, .nchk (.t 8), none⟩,
⟨some 13, .faddr (.t 12) 0, none⟩,
⟨some 14, .faddr (.t 13) 0, none⟩,
⟨none, .store (.t 14) (.t 11) 1, none⟩]
[2, 3])
(.seq (.seq (.reg [⟨some 15, .mkfn n_check_checker_run_1 [.t 3, .t 2], none⟩,
⟨some 16, .mkfn n_check_checker_run_2 [.t 3, .t 2], none⟩,
⟨some 17, .mkfn n_check_checker_run_3 [.t 3, .t 2], none⟩,
⟨some 18, .mkfn n_check_checker_run_4 [.t 3, .t 2], none⟩,
⟨some 19, .mkfn n_check_checker_run_5 [.t 2, .t 3], none⟩,
⟨some 20, .mkfn n_check_checker_run_6 [.t 3, .t 2], none⟩,
⟨some 21, .mkfn n_check_checker_run_7 [.t 3, .t 2], none⟩,
⟨some 22, .mkfn n_check_checker_run_8 [.t 2, .t 3], none⟩,
⟨some 23, .mkrow t_func_error 1 8 (.tup [.nilfn]) [(0, .t 15), (1, .t 16), (2, .t 17), (3, .t 18), (4, .t 19), (5, .t 20), (6, .t 21), (7, .t 22)], none⟩,
⟨some 24, .len false (.t 23), none⟩,
⟨some 25, .mov (.k (.int .i64 0)), none⟩]
[2, 23, 24, 25])
(.block 0
(.loop [2, 23, 24, 25] [2, 3, 23, 24, 36, 35, 34, 33, 32, 31, 30, 29, 28, 27, 26, 25]
  (.seq (.reg [⟨some 26, .bin .lss (.t 25) (.t 24), none⟩]
[2, 23, 24, 25, 26])
(.seq (.cond (.t 26)
.skip
(.exit 0))
(.seq (.block 1
(.seq (.reg [⟨some 27, .iaddr 1 (.t 23) (.t 25), none⟩,
⟨some 28, .load (.t 27), none⟩,
⟨some 6, .mov (.t 28), none⟩]
[2, 6, 23, 24, 25])
(.seq (.reg [⟨some 29, .mov (.t 6), none⟩,
⟨some 30, .callvB (.t 29) [], none⟩,
⟨some 7, .mov (.t 30), none⟩]
[2, 7, 23, 24, 25])
(.seq (.reg [⟨some 31, .mov (.t 7), none⟩,
⟨some 32, .eqI true (.t 31) (.k (.nili)), none⟩]
[2, 7, 23, 24, 25, 32])
(.cond (.t 32)
(.seq (.reg [⟨some 33, .mov (.t 7), none⟩,
⟨some 4, .mov (.t 33), none⟩]
[4])
.ret)
.skip)))))
(.reg [⟨some 34, .bin .add (.t 25) (.k (.int .i64 1)), none⟩,
⟨some 25, .mov (.t 34), none⟩]
[2, 23, 24, 25])))))))
(.seq (.reg [⟨some 35, .load (.t 2), none⟩,
⟨some 36, .call n_check_checker_order [.t 35], none⟩]
[])
(.seq (.reg [⟨some 4, .mov (.k (.nili)), none⟩]
[4])
.ret)))))⟩
theorem k_check_checker_run : chkF Go.Proofs.Tryz.prog Go.Proofs.Tryz.f24 c_check_checker_run = true := by kernel_rfl
def c_check_checker_run_1 : AFun := ⟨8, 2, [.t 2],
  (.seq (.reg [⟨some 2, .mov (.k (.nili)), none⟩]
[0, 1])
(.seq (.reg [⟨some 3, .faddr (.t 0) 3, none⟩,
⟨some 4, .load (.t 3), none⟩,
⟨some 5, .load (.t 1), none⟩,
⟨some 6, .mkfn (n_check_checker_decl + 1000000) [.t 5], none⟩,
⟨some 7, .call n_check_each_api_TreeDecl [.t 4, .t 6], none⟩,
⟨some 2, .mov (.t 7), none⟩]
[2])
.ret))⟩
theorem k_check_checker_run_1 : chkF Go.Proofs.Tryz.prog Go.Proofs.Tryz.f60 c_check_checker_run_1 = true := by kernel_rfl
def c_check_checker_run_2 : AFun := ⟨8, 2, [.t 2],
  (.seq (.reg [⟨some 2, .mov (.k (.nili)), none⟩]
[0, 1])
(.seq (.reg [⟨some 3, .faddr (.t 0) 4, none⟩,
⟨some 4, .load (.t 3), none⟩,
⟨some 5, .load (.t 1), none⟩,
⟨some 6, .mkfn (n_check_checker_quant + 1000000) [.t 5], none⟩,
⟨some 7, .call n_check_each_api_TreeQuant [.t 4, .t 6], none⟩,
⟨some 2, .mov (.t 7), none⟩]
[2])
.ret))⟩
theorem k_check_checker_run_2 : chkF Go.Proofs.Tryz.prog Go.Proofs.Tryz.f63 c_check_checker_run_2 = true := by kernel_rfl
def c_check_checker_run_3 : AFun := ⟨8, 2, [.t 2],
  (.seq (.reg [⟨some 2, .mov (.k (.nili)), none⟩]
[0, 1])
(.seq (.reg [⟨some 3, .faddr (.t 0) 5, none⟩,
⟨some 4, .load (.t 3), none⟩,
⟨some 5, .load (.t 1), none⟩,
⟨some 6, .mkfn (n_check_checker_free + 1000000) [.t 5], none⟩,
⟨some 7, .call n_check_each_api_TreeFree [.t 4, .t 6], none⟩,
⟨some 2, .mov (.t 7), none⟩]
[2])
.ret))⟩
theorem k_check_checker_run_3 : chkF Go.Proofs.Tryz.prog Go.Proofs.Tryz.f66 c_check_checker_run_3 = true := by kernel_rfl
def c_check_checker_run_4 : AFun := ⟨8, 2, [.t 2],
  (.seq (.reg [⟨some 2, .mov (.k (.nili)), none⟩]
[0, 1])
(.seq (.reg [⟨some 3, .faddr (.t 0) 6, none⟩,
⟨some 4, .load (.t 3), none⟩,
⟨some 5, .load (.t 1), none⟩,
⟨some 6, .mkfn (n_check_checker_state + 1000000) [.t 5], none⟩,
⟨some 7, .call n_check_each_api_TreeState [.t 4, .t 6], none⟩,
⟨some 2, .mov (.t 7), none⟩]
[2])
.ret))⟩
theorem k_check_checker_run_4 : chkF Go.Proofs.Tryz.prog Go.Proofs.Tryz.f69 c_check_checker_run_4 = true := by kernel_rfl
def c_check_checker_run_5 : AFun := ⟨15, 2, [.t 2],
  (.seq (.reg [⟨some 2, .mov (.k (.nili)), none⟩]
[0, 1])
(.seq (.dregC [⟨some 4, .load (.t 0), none⟩,
⟨some 5, .load (.t 0), none⟩,
⟨some 6, .faddr (.t 1) 7, none⟩,
⟨some 7, .loadN (.t 6) 3, none⟩,
⟨some 8, .call n_check_checker_find [.t 5, .t 7], none⟩,
⟨some 3, .mov (.t 8), none⟩,
⟨some 9, .ext (.t 3) 0, none⟩,
⟨some 10, .ext (.t 3) 1, none⟩,
⟨some 11, .nchk (.t 4), none⟩,
⟨some 12, .faddr (.t 11) 0, none⟩,
⟨some 13, .faddr (.t 12) 5, none⟩,
⟨none, .store (.t 13) (.t 9) 1, none⟩,
⟨some 2, .mov (.t 10), none⟩]
[11] [0, 0, 0, 0, 0, 0, 0, 0, 0, 0, 0, 1, 1] [0, 0, 0, 0, 0, 0, 0, 1, 0, 0, 0, 1, 1] [([0, 1, 2, 3, 4, 5, 6, 7, 8, 9, 10], []), ([12], [7])] [0, 1, 2, 3, 4, 5, 6, 7, 8, 9, 10, 11, 12, 13]
[2])
(.seq (.reg [⟨some 14, .mov (.t 2), none⟩,
⟨some 2, .mov (.t 14), none⟩]
[2])
.ret)))⟩
theorem k_check_checker_run_5 : chkF Go.Proofs.Tryz.prog Go.Proofs.Tryz.f72 c_check_checker_run_5 = true := by kernel_rfl
def c_check_checker_run_6 : AFun := ⟨7, 2, [.t 2],
  (.seq (.reg [⟨some 2, .mov (.k (.nili)), none⟩]
[0, 1])
(.seq (.reg [⟨some 3, .faddr (.t 0) 10, none⟩,
⟨some 4, .load (.t 3), none⟩,
⟨some 5, .mkfn n_check_checker_run_6_1 [.t 1], none⟩,
⟨some 6, .call n_check_each_api_TreeSymbol [.t 4, .t 5], none⟩,
⟨some 2, .mov (.t 6), none⟩]
[2])
.ret))⟩
theorem k_check_checker_run_6 : chkF Go.Proofs.Tryz.prog Go.Proofs.Tryz.f74 c_check_checker_run_6 = true := by kernel_rfl
def c_check_checker_run_7 : AFun := ⟨8, 2, [.t 2],
  (.seq (.reg [⟨some 2, .mov (.k (.nili)), none⟩]
[0, 1])
(.seq (.reg [⟨some 3, .faddr (.t 0) 11, none⟩,
⟨some 4, .load (.t 3), none⟩,
⟨some 5, .load (.t 1), none⟩,
⟨some 6, .mkfn (n_check_checker_trans + 1000000) [.t 5], none⟩,
⟨some 7, .call n_check_each_api_TreeTrans [.t 4, .t 6], none⟩,
⟨some 2, .mov (.t 7), none⟩]
[2])
.ret))⟩
theorem k_check_checker_run_7 : chkF Go.Proofs.Tryz.prog Go.Proofs.Tryz.f78 c_check_checker_run_7 = true := by kernel_rfl
def c_check_checker_run_8 : AFun := ⟨7, 2, [.t 2],
  (.seq (.reg [⟨some 2, .mov (.k (.nili)), none⟩]
[0, 1])
(.seq (.reg [⟨some 3, .load (.t 0), none⟩,
⟨some 4, .faddr (.t 1) 4, none⟩,
⟨some 5, .load (.t 4), none⟩,
⟨some 6, .call n_check_checker_stands [.t 3, .t 5], none⟩,
⟨some 2, .mov (.t 6), none⟩]
[2])
.ret))⟩
theorem k_check_checker_run_8 : chkF Go.Proofs.Tryz.prog Go.Proofs.Tryz.f81 c_check_checker_run_8 = true := by kernel_rfl
def c_check_checker_state : AFun := ⟨40, 2, [.t 4],
  (.seq (.reg [⟨some 3, .box t_api_TreeState 5 (.t 1), none⟩,
⟨some 4, .mov (.k (.nili)), none⟩]
[0, 3])
(.seq (.reg [⟨some 6, .mov (.t 0), none⟩,
⟨some 7, .nchk (.t 6), none⟩,
⟨some 8, .faddr (.t 7) 0, none⟩,
⟨some 9, .faddr (.t 8) 4, none⟩,
⟨some 10, .load (.t 9), none⟩,
⟨some 11, .len false (.t 10), none⟩,
⟨some 5, .mov (.t 11), none⟩]
[0, 3, 5])
(.seq (.dregC [⟨some 12, .mov (.t 0), none⟩,
⟨some 13, .mov (.t 0), none⟩,
⟨some 14, .nchk (.t 13), none⟩,
⟨some 15, .faddr (.t 14) 0, none⟩,
⟨some 16, .faddr (.t 15) 4, none⟩,
⟨some 17, .load (.t 16), none⟩,
⟨some 18, .faddr (.t 3) 0, none⟩,
⟨some 19, .faddr (.t 18) 0, none⟩,
⟨some 20, .load (.t 19), none⟩,
⟨some 21, .faddr (.t 3) 3, none⟩,
⟨some 22, .load (.t 21), none⟩,
⟨some 23, .faddr (.t 3) 4, none⟩,
⟨some 24, .load (.t 23), none⟩,
⟨some 25, .build [.str [], .bool false, .bool false] [(0, 1, .t 20), (1, 1, .t 22), (2, 1, .t 24)], none⟩,
⟨some 26, .mkrow t_api_State 3 1 (.agg [.str [], .bool false, .bool false]) [(0, .t 25)], none⟩,
⟨some 27, .app t_api_State 3 24 (.t 17) (.t 26), none⟩,
⟨some 28, .nchk (.t 12), none⟩,
⟨some 29, .faddr (.t 28) 0, none⟩,
⟨some 30, .faddr (.t 29) 4, none⟩,
⟨none, .store (.t 30) (.t 27) 1, none⟩]
[14, 15, 19] [0, 0, 0, 0, 0, 0, 0, 0, 0, 0, 0, 0, 0, 0, 1, 2, 2, 2, 2, 3] [2, 1, 1, 1, 1, 1, 0, 0, 0, 0, 0, 0, 0, 0, 3, 3, 2, 2, 2, 3] [([0, 1, 2, 3, 4, 5, 6, 7, 8, 9, 10, 11, 12, 13], []), ([], [0, 1, 2, 3, 4, 5]), ([16, 17, 18], [0]), ([], [])] [0, 3, 5, 12, 13, 14, 15, 16, 17, 18, 19, 20, 21, 22, 23, 24, 25, 26, 27, 28, 29, 30]
[0, 3, 5])
(.seq (.dreg [⟨some 31, .mov (.t 0), none⟩,
⟨some 32, .nchk (.t 31), none⟩,
⟨some 33, .faddr (.t 32) 11, none⟩,
⟨some 34, .load (.t 33), none⟩,
⟨some 35, .faddr (.t 3) 0, none⟩,
⟨some 36, .loadN (.t 35) 3, none⟩,
⟨some 37, .mov (.t 5), none⟩,
⟨some 38, .mov (.t 5), none⟩,
⟨some 39, .callB n_check_fresh_int [.t 34, .t 36, .t 37, .t 38, .k (.int .i64 32)], none⟩,
⟨some 4, .mov (.t 39), none⟩]
[4])
.ret))))⟩
theorem k_check_checker_state : chkF Go.Proofs.Tryz.prog Go.Proofs.Tryz.f71 c_check_checker_state = true := by kernel_rfl
def c_check_checker_find : AFun := ⟨23, 2, [.t 4, .t 5],
  (.seq (.reg [⟨some 3, .box t_api_Ident 3 (.t 1), none⟩,
⟨some 4, .mov (.k (.int .i64 0)), none⟩,
⟨some 5, .mov (.k (.nili)), none⟩]
[0, 3])
(.seq (.dreg [⟨some 9, .mov (.t 0), none⟩,
⟨some 10, .nchk (.t 9), none⟩,
⟨some 11, .faddr (.t 10) 11, none⟩,
⟨some 12, .load (.t 11), none⟩,
⟨some 13, .faddr (.t 3) 0, none⟩,
⟨some 14, .load (.t 13), none⟩,
⟨some 15, .mget true false [1] (.int .i64 0) (.t 12) (.t 14), none⟩,
⟨some 8, .mov (.t 15), none⟩,
⟨some 16, .ext (.t 8) 0, none⟩,
⟨some 17, .ext (.t 8) 1, none⟩,
⟨some 6, .mov (.t 16), none⟩,
⟨some 7, .mov (.t 17), none⟩]
[3, 6, 7])
(.seq (.seq (.reg [⟨some 18, .mov (.t 7), none⟩,
⟨some 19, .un .not (.t 18), none⟩]
[3, 6, 19])
(.cond (.t 19)
(.seq (.reg [⟨some 20, .loadN (.t 3) 3, none⟩,
⟨some 21, .call n_check_at [.k (.int .i64 11), .t 20], none⟩,
⟨some 4, .mov (.k (.int .i64 0)), none⟩,
⟨some 5, .mov (.t 21), none⟩]
[4, 5])
.ret)
.skip))
(.seq (.reg [⟨some 22, .mov (.t 6), none⟩,
⟨some 4, .mov (.t 22), none⟩,
⟨some 5, .mov (.k (.nili)), none⟩]
[4, 5])
.ret))))⟩
theorem k_check_checker_find : chkF Go.Proofs.Tryz.prog Go.Proofs.Tryz.f73 c_check_checker_find = true := by kernel_rfl
def c_check_checker_stands : AFun := ⟨26, 2, [.t 4],
  (.seq (.reg [⟨some 4, .mov (.k (.nili)), none⟩]
[0, 1])
(.seq (.seq (.reg [⟨some 7, .mov (.t 1), none⟩,
⟨some 8, .len false (.t 7), none⟩,
⟨some 9, .mov (.k (.int .i64 0)), none⟩]
[0, 7, 8, 9])
(.block 0
(.loop [0, 7, 8, 9] [8, 25, 24, 23, 22, 21, 20, 19, 18, 17, 16, 15, 14]
  (.seq (.reg [⟨some 10, .bin .lss (.t 9) (.t 8), none⟩]
[0, 7, 8, 9, 10])
(.seq (.cond (.t 10)
.skip
(.exit 0))
(.seq (.block 1
(.seq (.reg [⟨some 11, .mov (.t 9), none⟩,
⟨some 12, .iaddr 5 (.t 7) (.t 9), none⟩,
⟨some 13, .loadN (.t 12) 5, none⟩,
⟨some 5, .alloc t_int 1 (.int .i64 0), none⟩,
⟨some 6, .alloc t_api_TreeQuant 5 (.agg [.bool false, .str [], .int .i64 0, .int .i64 0, .int .i64 0]), none⟩,
⟨none, .store (.t 5) (.t 11) 1, none⟩,
⟨none, .store (.t 6) (.t 13) 5, none⟩]
[0, 5, 6, 7, 8, 9])
(.seq (.reg [⟨some 14, .mov (.t 0), none⟩,
⟨some 15, .nchk (.t 14), none⟩,
⟨some 16, .faddr (.t 15) 0, none⟩,
⟨some 17, .faddr (.t 16) 6, none⟩,
⟨some 18, .load (.t 17), none⟩,
⟨some 19, .mkfn n_check_checker_stands_1 [.t 5], none⟩,
⟨some 20, .call n_slices_ContainsFunc_api_Symbol_api_Symbol [.t 18, .t 19], none⟩,
⟨some 21, .un .not (.t 20), none⟩]
[0, 6, 7, 8, 9, 21])
(.cond (.t 21)
(.seq (.reg [⟨some 22, .faddr (.t 6) 1, none⟩,
⟨some 23, .loadN (.t 22) 3, none⟩,
⟨some 24, .call n_check_at [.k (.int .i64 9), .t 23], none⟩,
⟨some 4, .mov (.t 24), none⟩]
[4])
.ret)
.skip))))
(.reg [⟨some 25, .bin .add (.t 9) (.k (.int .i64 1)), none⟩,
⟨some 9, .mov (.t 25), none⟩]
[0, 7, 8, 9])))))))
(.seq (.reg [⟨some 4, .mov (.k (.nili)), none⟩]
[4])
.ret)))⟩
theorem k_check_checker_stands : chkF Go.Proofs.Tryz.prog Go.Proofs.Tryz.f82 c_check_checker_stands = true := by kernel_rfl
def c_check_checker_order : AFun := ⟨106, 1, [],
  (.seq (.reg [⟨some 2, .nilrow t_int 1, none⟩,
⟨some 3, .nilrow t_int 1, none⟩]
[0, 2, 3])
(.seq (.seq (.reg [⟨some 12, .mov (.t 0), none⟩,
⟨some 13, .nchk (.t 12), none⟩,
⟨some 14, .faddr (.t 13) 0, none⟩,
⟨some 15, .faddr (.t 14) 8, none⟩,
⟨some 16, .load (.t 15), none⟩,
⟨some 17, .len false (.t 16), none⟩,
⟨some 18, .mov (.k (.int .i64 0)), none⟩]
[0, 2, 3, 16, 17, 18])
(.block 0
(.loop [0, 2, 3, 16, 17, 18] [2, 3, 17, 31, 105, 104, 103, 102, 101, 100, 99, 98, 97, 96, 95, 94]
  (.seq (.reg [⟨some 19, .bin .lss (.t 18) (.t 17), none⟩]
[0, 2, 3, 16, 17, 18, 19])
(.seq (.cond (.t 19)
.skip
(.exit 0))
(.seq (.block 1
(.seq (.reg [⟨some 20, .iaddr 5 (.t 16) (.t 18), none⟩,
⟨some 21, .loadN (.t 20) 5, none⟩,
⟨some 5, .alloc t_api_Trans 5 (.agg [.int .i64 0, .int .i64 0, .int .i64 0, .int .i64 0, .nils]), none⟩,
⟨none, .store (.t 5) (.t 21) 5, none⟩]
[0, 2, 3, 5, 16, 17, 18])
(.seq (.reg [⟨some 22, .mov (.t 3), none⟩,
⟨some 23, .faddr (.t 5) 1, none⟩,
⟨some 24, .load (.t 23), none⟩,
⟨some 25, .call n_slices_Contains_int_int [.t 22, .t 24], none⟩,
⟨some 26, .un .not (.t 25), none⟩]
[0, 2, 3, 5, 16, 17, 18, 26])
(.cond (.t 26)
(.reg [⟨some 27, .mov (.t 3), none⟩,
⟨some 28, .faddr (.t 5) 1, none⟩,
⟨some 29, .load (.t 28), none⟩,
⟨some 30, .mkrow t_int 1 1 (.int .i64 0) [(0, .t 29)], none⟩,
⟨some 31, .app t_int 1 8 (.t 27) (.t 30), none⟩,
⟨some 3, .mov (.t 31), none⟩]
[0, 2, 3, 16, 17, 18])
.skip))))
(.reg [⟨some 32, .bin .add (.t 18) (.k (.int .i64 1)), none⟩,
⟨some 18, .mov (.t 32), none⟩]
[0, 2, 3, 16, 17, 18])))))))
(.seq (.seq (.reg [⟨some 33, .mov (.t 0), none⟩,
⟨some 34, .nchk (.t 33), none⟩,
⟨some 35, .faddr (.t 34) 0, none⟩,
⟨some 36, .faddr (.t 35) 6, none⟩,
⟨some 37, .load (.t 36), none⟩,
⟨some 38, .len false (.t 37), none⟩,
⟨some 39, .mov (.k (.int .i64 0)), none⟩]
[0, 2, 3, 38, 39])
(.block 2
(.loop [0, 2, 3, 38, 39] [2, 3, 17, 5, 25, 30, 31, 38, 49, 105, 104, 103, 102, 101, 100, 99, 98, 97, 96, 95, 94]
  (.seq (.reg [⟨some 40, .bin .lss (.t 39) (.t 38), none⟩]
[0, 2, 3, 38, 39, 40])
(.seq (.cond (.t 40)
.skip
(.exit 2))
(.seq (.block 3
(.seq (.reg [⟨some 41, .mov (.t 39), none⟩,
⟨some 6, .mov (.t 41), none⟩]
[0, 2, 3, 6, 38, 39])
(.seq (.reg [⟨some 42, .mov (.t 3), none⟩,
⟨some 43, .mov (.t 6), none⟩,
⟨some 44, .call n_slices_Contains_int_int [.t 42, .t 43], none⟩,
⟨some 45, .un .not (.t 44), none⟩]
[0, 2, 3, 6, 38, 39, 45])
(.cond (.t 45)
(.reg [⟨some 46, .mov (.t 2), none⟩,
⟨some 47, .mov (.t 6), none⟩,
⟨some 48, .mkrow t_int 1 1 (.int .i64 0) [(0, .t 47)], none⟩,
⟨some 49, .app t_int 1 8 (.t 46) (.t 48), none⟩,
⟨some 2, .mov (.t 49), none⟩]
[0, 2, 3, 38, 39])
.skip))))
(.reg [⟨some 50, .bin .add (.t 39) (.k (.int .i64 1)), none⟩,
⟨some 39, .mov (.t 50), none⟩]
[0, 2, 3, 38, 39])))))))
(.seq (.reg [⟨some 7, .nilrow t_api_Symbol 2, none⟩]
[0, 2, 3, 7])
(.seq (.reg [⟨some 51, .mov (.t 2), none⟩,
⟨some 52, .mov (.t 3), none⟩,
⟨some 53, .app t_int 1 8 (.t 51) (.t 52), none⟩,
⟨some 8, .mov (.t 53), none⟩]
[0, 7, 8])
(.seq (.seq (.reg [⟨some 54, .mov (.t 8), none⟩,
⟨some 55, .len false (.t 54), none⟩,
⟨some 56, .mov (.k (.int .i64 0)), none⟩]
[0, 7, 8, 54, 55, 56])
(.block 4
(.loop [0, 7, 8, 54, 55, 56] [2, 3, 17, 5, 25, 30, 31, 38, 44, 48, 49, 7, 53, 55, 70, 105, 104, 103, 102, 101, 100, 99, 98, 97, 96, 95, 94]
  (.seq (.reg [⟨some 57, .bin .lss (.t 56) (.t 55), none⟩]
[0, 7, 8, 54, 55, 56, 57])
(.seq (.cond (.t 57)
.skip
(.exit 4))
(.seq (.block 5
(.seq (.reg [⟨some 58, .iaddr 1 (.t 54) (.t 56), none⟩,
⟨some 59, .load (.t 58), none⟩,
⟨some 10, .mov (.t 59), none⟩]
[0, 7, 8, 10, 54, 55, 56])
(.reg [⟨some 60, .mov (.t 7), none⟩,
⟨some 61, .mov (.t 0), none⟩,
⟨some 62, .nchk (.t 61), none⟩,
⟨some 63, .faddr (.t 62) 0, none⟩,
⟨some 64, .faddr (.t 63) 6, none⟩,
⟨some 65, .load (.t 64), none⟩,
⟨some 66, .mov (.t 10), none⟩,
⟨some 67, .iaddr 2 (.t 65) (.t 66), none⟩,
⟨some 68, .loadN (.t 67) 2, none⟩,
⟨some 69, .mkrow t_api_Symbol 2 1 (.agg [.int .i64 0, .nils]) [(0, .t 68)], none⟩,
⟨some 70, .app t_api_Symbol 2 32 (.t 60) (.t 69), none⟩,
⟨some 7, .mov (.t 70), none⟩]
[0, 7, 8, 54, 55, 56])))
(.reg [⟨some 71, .bin .add (.t 56) (.k (.int .i64 1)), none⟩,
⟨some 56, .mov (.t 71), none⟩]
[0, 7, 8, 54, 55, 56])))))))
(.seq (.reg [⟨some 72, .mov (.t 0), none⟩,
⟨some 73, .mov (.t 7), none⟩,
⟨some 74, .nchk (.t 72), none⟩,
⟨some 75, .faddr (.t 74) 0, none⟩,
⟨some 76, .faddr (.t 75) 6, none⟩,
⟨none, .store (.t 76) (.t 73) 1, none⟩]
[0, 8])
(.seq (.reg [⟨some 77, .mov (.t 0), none⟩,
⟨some 78, .nchk (.t 77), none⟩,
⟨some 79, .faddr (.t 78) 0, none⟩,
⟨some 80, .faddr (.t 79) 8, none⟩,
⟨some 81, .load (.t 80), none⟩,
⟨some 82, .len false (.t 81), none⟩,
⟨some 83, .mov (.k (.int .i64 0)), none⟩]
[0, 8, 82, 83])
(.block 6
(.loop [0, 8, 82, 83] [2, 3, 17, 5, 25, 30, 31, 38, 44, 48, 49, 7, 53, 55, 69, 70, 82, 105, 104, 103, 102, 101, 100, 99, 98, 97, 96, 95, 94]
  (.seq (.reg [⟨some 84, .bin .lss (.t 83) (.t 82), none⟩]
[0, 8, 82, 83, 84])
(.seq (.cond (.t 84)
.skip
(.exit 6))
(.seq (.block 7
(.seq (.reg [⟨some 85, .mov (.t 83), none⟩,
⟨some 11, .mov (.t 85), none⟩]
[0, 8, 11, 82, 83])
(.dreg [⟨some 86, .mov (.t 0), none⟩,
⟨some 87, .nchk (.t 86), none⟩,
⟨some 88, .faddr (.t 87) 0, none⟩,
⟨some 89, .faddr (.t 88) 8, none⟩,
⟨some 90, .load (.t 89), none⟩,
⟨some 91, .mov (.t 11), none⟩,
⟨some 92, .mov (.t 8), none⟩,
⟨some 93, .mov (.t 0), none⟩,
⟨some 94, .nchk (.t 93), none⟩,
⟨some 95, .faddr (.t 94) 0, none⟩,
⟨some 96, .faddr (.t 95) 8, none⟩,
⟨some 97, .load (.t 96), none⟩,
⟨some 98, .mov (.t 11), none⟩,
⟨some 99, .iaddr 5 (.t 97) (.t 98), none⟩,
⟨some 100, .faddr (.t 99) 1, none⟩,
⟨some 101, .load (.t 100), none⟩,
⟨some 102, .call n_slices_Index_int_int [.t 92, .t 101], none⟩,
⟨some 103, .iaddr 5 (.t 90) (.t 91), none⟩,
⟨some 104, .faddr (.t 103) 1, none⟩,
⟨none, .store (.t 104) (.t 102) 1, none⟩]
[0, 8, 82, 83])))
(.reg [⟨some 105, .bin .add (.t 83) (.k (.int .i64 1)), none⟩,
⟨some 83, .mov (.t 105), none⟩]
[0, 8, 82, 83]))))))))))))))⟩
theorem k_check_checker_order : chkF Go.Proofs.Tryz.prog Go.Proofs.Tryz.f83 c_check_checker_order = true := by kernel_rfl
def c_check_each_api_TreeDecl : AFun := ⟨21, 2, [.t 4],
  (.seq (.reg [⟨some 4, .mov (.k (.nili)), none⟩]
[0, 1])
(.seq (.seq (.reg [⟨some 8, .mov (.t 0), none⟩,
⟨some 9, .len false (.t 8), none⟩,
⟨some 10, .mov (.k (.int .i64 0)), none⟩]
[1, 8, 9, 10])
(.block 0
(.loop [1, 8, 9, 10] [9, 20, 19, 18, 17, 16, 15, 14, 13, 12, 11, 10]
  (.seq (.reg [⟨some 11, .bin .lss (.t 10) (.t 9), none⟩]
[1, 8, 9, 10, 11])
(.seq (.cond (.t 11)
.skip
(.exit 0))
(.seq (.block 1
(.seq (.reg [⟨some 12, .iaddr 4 (.t 8) (.t 10), none⟩,
⟨some 13, .loadN (.t 12) 4, none⟩,
⟨some 6, .alloc t_api_TreeDecl 4 (.agg [.str [], .int .i64 0, .int .i64 0, .nils]), none⟩,
⟨none, .store (.t 6) (.t 13) 4, none⟩]
[1, 6, 8, 9, 10])
(.seq (.reg [⟨some 14, .mov (.t 1), none⟩,
⟨some 15, .loadN (.t 6) 4, none⟩,
⟨some 16, .callvB (.t 14) [.t 15], none⟩,
⟨some 7, .mov (.t 16), none⟩]
[1, 7, 8, 9, 10])
(.seq (.reg [⟨some 17, .mov (.t 7), none⟩,
⟨some 18, .eqI true (.t 17) (.k (.nili)), none⟩]
[1, 7, 8, 9, 10, 18])
(.cond (.t 18)
(.seq (.reg [⟨some 19, .mov (.t 7), none⟩,
⟨some 4, .mov (.t 19), none⟩]
[4])
.ret)
.skip)))))
(.reg [⟨some 20, .bin .add (.t 10) (.k (.int .i64 1)), none⟩,
⟨some 10, .mov (.t 20), none⟩]
[1, 8, 9, 10])))))))
(.seq (.reg [⟨some 4, .mov (.k (.nili)), none⟩]
[4])
.ret)))⟩
theorem k_check_each_api_TreeDecl : chkF Go.Proofs.Tryz.prog Go.Proofs.Tryz.f61 c_check_each_api_TreeDecl = true := by kernel_rfl
def c_check_each_api_TreeQuant : AFun := ⟨21, 2, [.t 4],
  (.seq (.reg [⟨some 4, .mov (.k (.nili)), none⟩]
[0, 1])
(.seq (.seq (.reg [⟨some 8, .mov (.t 0), none⟩,
⟨some 9, .len false (.t 8), none⟩,
⟨some 10, .mov (.k (.int .i64 0)), none⟩]
[1, 8, 9, 10])
(.block 0
(.loop [1, 8, 9, 10] [9, 20, 19, 18, 17, 16, 15, 14, 13, 12, 11, 10]
  (.seq (.reg [⟨some 11, .bin .lss (.t 10) (.t 9), none⟩]
[1, 8, 9, 10, 11])
(.seq (.cond (.t 11)
.skip
(.exit 0))
(.seq (.block 1
(.seq (.reg [⟨some 12, .iaddr 5 (.t 8) (.t 10), none⟩,
⟨some 13, .loadN (.t 12) 5, none⟩,
⟨some 6, .alloc t_api_TreeQuant 5 (.agg [.bool false, .str [], .int .i64 0, .int .i64 0, .int .i64 0]), none⟩,
⟨none, .store (.t 6) (.t 13) 5, none⟩]
[1, 6, 8, 9, 10])
(.seq (.reg [⟨some 14, .mov (.t 1), none⟩,
⟨some 15, .loadN (.t 6) 5, none⟩,
⟨some 16, .callvB (.t 14) [.t 15], none⟩,
⟨some 7, .mov (.t 16), none⟩]
[1, 7, 8, 9, 10])
(.seq (.reg [⟨some 17, .mov (.t 7), none⟩,
⟨some 18, .eqI true (.t 17) (.k (.nili)), none⟩]
[1, 7, 8, 9, 10, 18])
(.cond (.t 18)
(.seq (.reg [⟨some 19, .mov (.t 7), none⟩,
⟨some 4, .mov (.t 19), none⟩]
[4])
.ret)
.skip)))))
(.reg [⟨some 20, .bin .add (.t 10) (.k (.int .i64 1)), none⟩,
⟨some 10, .mov (.t 20), none⟩]
[1, 8, 9, 10])))))))
(.seq (.reg [⟨some 4, .mov (.k (.nili)), none⟩]
[4])
.ret)))⟩
theorem k_check_each_api_TreeQuant : chkF Go.Proofs.Tryz.prog Go.Proofs.Tryz.f64 c_check_each_api_TreeQuant = true := by kernel_rfl
def c_check_each_api_TreeFree : AFun := ⟨21, 2, [.t 4],
  (.seq (.reg [⟨some 4, .mov (.k (.nili)), none⟩]
[0, 1])
(.seq (.seq (.reg [⟨some 8, .mov (.t 0), none⟩,
⟨some 9, .len false (.t 8), none⟩,
⟨some 10, .mov (.k (.int .i64 0)), none⟩]
[1, 8, 9, 10])
(.block 0
(.loop [1, 8, 9, 10] [9, 20, 19, 18, 17, 16, 15, 14, 13, 12, 11, 10]
  (.seq (.reg [⟨some 11, .bin .lss (.t 10) (.t 9), none⟩]
[1, 8, 9, 10, 11])
(.seq (.cond (.t 11)
.skip
(.exit 0))
(.seq (.block 1
(.seq (.reg [⟨some 12, .iaddr 7 (.t 8) (.t 10), none⟩,
⟨some 13, .loadN (.t 12) 7, none⟩,
⟨some 6, .alloc t_api_TreeFree 7 (.agg [.str [], .int .i64 0, .int .i64 0, .int .i64 0, .int .i64 0, .str [], .bool false]), none⟩,
⟨none, .store (.t 6) (.t 13) 7, none⟩]
[1, 6, 8, 9, 10])
(.seq (.reg [⟨some 14, .mov (.t 1), none⟩,
⟨some 15, .loadN (.t 6) 7, none⟩,
⟨some 16, .callvB (.t 14) [.t 15], none⟩,
⟨some 7, .mov (.t 16), none⟩]
[1, 7, 8, 9, 10])
(.seq (.reg [⟨some 17, .mov (.t 7), none⟩,
⟨some 18, .eqI true (.t 17) (.k (.nili)), none⟩]
[1, 7, 8, 9, 10, 18])
(.cond (.t 18)
(.seq (.reg [⟨some 19, .mov (.t 7), none⟩,
⟨some 4, .mov (.t 19), none⟩]
[4])
.ret)
.skip)))))
(.reg [⟨some 20, .bin .add (.t 10) (.k (.int .i64 1)), none⟩,
⟨some 10, .mov (.t 20), none⟩]
[1, 8, 9, 10])))))))
(.seq (.reg [⟨some 4, .mov (.k (.nili)), none⟩]
[4])
.ret)))⟩
theorem k_check_each_api_TreeFree : chkF Go.Proofs.Tryz.prog Go.Proofs.Tryz.f67 c_check_each_api_TreeFree = true := by kernel_rfl
def c_check_each_api_TreeState : AFun := ⟨21, 2, [.t 4],
  (.seq (.reg [⟨some 4, .mov (.k (.nili)), none⟩]
[0, 1])
(.seq (.seq (.reg [⟨some 8, .mov (.t 0), none⟩,
⟨some 9, .len false (.t 8), none⟩,
⟨some 10, .mov (.k (.int .i64 0)), none⟩]
[1, 8, 9, 10])
(.block 0
(.loop [1, 8, 9, 10] [9, 20, 19, 18, 17, 16, 15, 14, 13, 12, 11, 10]
  (.seq (.reg [⟨some 11, .bin .lss (.t 10) (.t 9), none⟩]
[1, 8, 9, 10, 11])
(.seq (.cond (.t 11)
.skip
(.exit 0))
(.seq (.block 1
(.seq (.reg [⟨some 12, .iaddr 5 (.t 8) (.t 10), none⟩,
⟨some 13, .loadN (.t 12) 5, none⟩,
⟨some 6, .alloc t_api_TreeState 5 (.agg [.str [], .int .i64 0, .int .i64 0, .bool false, .bool false]), none⟩,
⟨none, .store (.t 6) (.t 13) 5, none⟩]
[1, 6, 8, 9, 10])
(.seq (.reg [⟨some 14, .mov (.t 1), none⟩,
⟨some 15, .loadN (.t 6) 5, none⟩,
⟨some 16, .callvB (.t 14) [.t 15], none⟩,
⟨some 7, .mov (.t 16), none⟩]
[1, 7, 8, 9, 10])
(.seq (.reg [⟨some 17, .mov (.t 7), none⟩,
⟨some 18, .eqI true (.t 17) (.k (.nili)), none⟩]
[1, 7, 8, 9, 10, 18])
(.cond (.t 18)
(.seq (.reg [⟨some 19, .mov (.t 7), none⟩,
⟨some 4, .mov (.t 19), none⟩]
[4])
.ret)
.skip)))))
(.reg [⟨some 20, .bin .add (.t 10) (.k (.int .i64 1)), none⟩,
⟨some 10, .mov (.t 20), none⟩]
[1, 8, 9, 10])))))))
(.seq (.reg [⟨some 4, .mov (.k (.nili)), none⟩]
[4])
.ret)))⟩
theorem k_check_each_api_TreeState : chkF Go.Proofs.Tryz.prog Go.Proofs.Tryz.f70 c_check_each_api_TreeState = true := by kernel_rfl
def c_check_each_api_TreeSymbol : AFun := ⟨21, 2, [.t 4],
  (.seq (.reg [⟨some 4, .mov (.k (.nili)), none⟩]
[0, 1])
(.seq (.seq (.reg [⟨some 8, .mov (.t 0), none⟩,
⟨some 9, .len false (.t 8), none⟩,
⟨some 10, .mov (.k (.int .i64 0)), none⟩]
[1, 8, 9, 10])
(.block 0
(.loop [1, 8, 9, 10] [9, 20, 19, 18, 17, 16, 15, 14, 13, 12, 11, 10]
  (.seq (.reg [⟨some 11, .bin .lss (.t 10) (.t 9), none⟩]
[1, 8, 9, 10, 11])
(.seq (.cond (.t 11)
.skip
(.exit 0))
(.seq (.block 1
(.seq (.reg [⟨some 12, .iaddr 4 (.t 8) (.t 10), none⟩,
⟨some 13, .loadN (.t 12) 4, none⟩,
⟨some 6, .alloc t_api_TreeSymbol 4 (.agg [.str [], .nils, .int .i64 0, .int .i64 0]), none⟩,
⟨none, .store (.t 6) (.t 13) 4, none⟩]
[1, 6, 8, 9, 10])
(.seq (.reg [⟨some 14, .mov (.t 1), none⟩,
⟨some 15, .loadN (.t 6) 4, none⟩,
⟨some 16, .callvB (.t 14) [.t 15], none⟩,
⟨some 7, .mov (.t 16), none⟩]
[1, 7, 8, 9, 10])
(.seq (.reg [⟨some 17, .mov (.t 7), none⟩,
⟨some 18, .eqI true (.t 17) (.k (.nili)), none⟩]
[1, 7, 8, 9, 10, 18])
(.cond (.t 18)
(.seq (.reg [⟨some 19, .mov (.t 7), none⟩,
⟨some 4, .mov (.t 19), none⟩]
[4])
.ret)
.skip)))))
(.reg [⟨some 20, .bin .add (.t 10) (.k (.int .i64 1)), none⟩,
⟨some 10, .mov (.t 20), none⟩]
[1, 8, 9, 10])))))))
(.seq (.reg [⟨some 4, .mov (.k (.nili)), none⟩]
[4])
.ret)))⟩
theorem k_check_each_api_TreeSymbol : chkF Go.Proofs.Tryz.prog Go.Proofs.Tryz.f75 c_check_each_api_TreeSymbol = true := by kernel_rfl
def c_check_each_api_TreeTrans : AFun := ⟨21, 2, [.t 4],
  (.seq (.reg [⟨some 4, .mov (.k (.nili)), none⟩]
[0, 1])
(.seq (.seq (.reg [⟨some 8, .mov (.t 0), none⟩,
⟨some 9, .len false (.t 8), none⟩,
⟨some 10, .mov (.k (.int .i64 0)), none⟩]
[1, 8, 9, 10])
(.block 0
(.loop [1, 8, 9, 10] [9, 20, 19, 18, 17, 16, 15, 14, 13, 12, 11, 10]
  (.seq (.reg [⟨some 11, .bin .lss (.t 10) (.t 9), none⟩]
[1, 8, 9, 10, 11])
(.seq (.cond (.t 11)
.skip
(.exit 0))
(.seq (.block 1
(.seq (.reg [⟨some 12, .iaddr 13 (.t 8) (.t 10), none⟩,
⟨some 13, .loadN (.t 12) 13, none⟩,
⟨some 6, .alloc t_api_TreeTrans 13 (.agg [.str [], .int .i64 0, .int .i64 0, .str [], .int .i64 0, .int .i64 0, .str [], .nils, .int .i64 0, .int .i64 0, .nils, .int .i64 0, .nils]), none⟩,
⟨none, .store (.t 6) (.t 13) 13, none⟩]
[1, 6, 8, 9, 10])
(.seq (.reg [⟨some 14, .mov (.t 1), none⟩,
⟨some 15, .loadN (.t 6) 13, none⟩,
⟨some 16, .callvB (.t 14) [.t 15], none⟩,
⟨some 7, .mov (.t 16), none⟩]
[1, 7, 8, 9, 10])
(.seq (.reg [⟨some 17, .mov (.t 7), none⟩,
⟨some 18, .eqI true (.t 17) (.k (.nili)), none⟩]
[1, 7, 8, 9, 10, 18])
(.cond (.t 18)
(.seq (.reg [⟨some 19, .mov (.t 7), none⟩,
⟨some 4, .mov (.t 19), none⟩]
[4])
.ret)
.skip)))))
(.reg [⟨some 20, .bin .add (.t 10) (.k (.int .i64 1)), none⟩,
⟨some 10, .mov (.t 20), none⟩]
[1, 8, 9, 10])))))))
(.seq (.reg [⟨some 4, .mov (.k (.nili)), none⟩]
[4])
.ret)))⟩
theorem k_check_each_api_TreeTrans : chkF Go.Proofs.Tryz.prog Go.Proofs.Tryz.f79 c_check_each_api_TreeTrans = true := by kernel_rfl
def c_check_fresh_int : AFun := ⟨32, 5, [.t 10],
  (.seq (.reg [⟨some 6, .box t_api_Ident 3 (.t 1), none⟩,
⟨some 10, .mov (.k (.nili)), none⟩]
[0, 2, 3, 4, 6])
(.seq (.seq (.reg [⟨some 13, .mov (.t 3), none⟩,
⟨some 14, .mov (.t 4), none⟩,
⟨some 15, .bin .geq (.t 13) (.t 14), none⟩]
[0, 2, 6, 15])
(.cond (.t 15)
(.seq (.reg [⟨some 16, .loadN (.t 6) 3, none⟩,
⟨some 17, .call n_check_at [.k (.int .i64 14), .t 16], none⟩,
⟨some 10, .mov (.t 17), none⟩]
[10])
.ret)
.skip))
(.seq (.seq (.reg [⟨some 19, .mov (.t 0), none⟩,
⟨some 20, .faddr (.t 6) 0, none⟩,
⟨some 21, .load (.t 20), none⟩,
⟨some 22, .mget true false [1] (.int .i64 0) (.t 19) (.t 21), none⟩,
⟨some 18, .mov (.t 22), none⟩,
⟨some 23, .ext (.t 18) 0, none⟩,
⟨some 24, .ext (.t 18) 1, none⟩,
⟨some 11, .mov (.t 23), none⟩,
⟨some 12, .mov (.t 24), none⟩]
[0, 2, 6, 12])
(.seq (.reg [⟨some 25, .mov (.t 12), none⟩]
[0, 2, 6, 25])
(.cond (.t 25)
(.seq (.reg [⟨some 26, .loadN (.t 6) 3, none⟩,
⟨some 27, .call n_check_at [.k (.int .i64 10), .t 26], none⟩,
⟨some 10, .mov (.t 27), none⟩]
[10])
.ret)
.skip)))
(.seq (.reg [⟨some 28, .mov (.t 0), none⟩,
⟨some 29, .faddr (.t 6) 0, none⟩,
⟨some 30, .load (.t 29), none⟩,
⟨some 31, .mov (.t 2), none⟩,
⟨none, .mput false [1] (.t 28) (.t 30) (.t 31), none⟩]
[])
(.seq (.reg [⟨some 10, .mov (.k (.nili)), none⟩]
[10])
.ret)))))⟩
theorem k_check_fresh_int : chkF Go.Proofs.Tryz.prog Go.Proofs.Tryz.f152 c_check_fresh_int = true := by kernel_rfl
def c_tree_Right : AFun := ⟨41, 1, [.t 2],
  (.seq (.reg [⟨some 1, .box t_api_Tree 12 (.t 0), none⟩,
⟨some 2, .mov (.k (.bool false)), none⟩]
[1])
(.seq (.reg [⟨some 3, .faddr (.t 1) 0, none⟩,
⟨some 4, .loadN (.t 3) 3, none⟩,
⟨some 5, .call n_tree_name [.t 4], none⟩,
⟨some 6, .mov (.t 5), none⟩,
⟨some 7, .faddr (.t 1) 7, (some (6, true))⟩,
⟨some 8, .loadN (.t 7) 3, (some (6, true))⟩,
⟨some 9, .call n_tree_name [.t 8], (some (6, true))⟩,
⟨some 10, .pick (.t 6) (.t 9) (.k (.bool false)), none⟩,
⟨some 11, .mov (.t 10), none⟩,
⟨some 12, .faddr (.t 1) 3, (some (11, true))⟩,
⟨some 13, .load (.t 12), (some (11, true))⟩,
⟨some 14, .call n_tree_all_api_TreeDecl [.t 13, .f n_tree_Right_1], (some (11, true))⟩,
⟨some 15, .pick (.t 11) (.t 14) (.k (.bool false)), none⟩,
⟨some 16, .mov (.t 15), none⟩,
⟨some 17, .faddr (.t 1) 4, (some (16, true))⟩,
⟨some 18, .load (.t 17), (some (16, true))⟩,
⟨some 19, .call n_tree_all_api_TreeQuant [.t 18, .f n_tree_Right_2], (some (16, true))⟩,
⟨some 20, .pick (.t 16) (.t 19) (.k (.bool false)), none⟩,
⟨some 21, .mov (.t 20), none⟩,
⟨some 22, .faddr (.t 1) 5, (some (21, true))⟩,
⟨some 23, .load (.t 22), (some (21, true))⟩,
⟨some 24, .call n_tree_all_api_TreeFree [.t 23, .f n_tree_Right_3], (some (21, true))⟩,
⟨some 25, .pick (.t 21) (.t 24) (.k (.bool false)), none⟩,
⟨some 26, .mov (.t 25), none⟩,
⟨some 27, .faddr (.t 1) 6, (some (26, true))⟩,
⟨some 28, .load (.t 27), (some (26, true))⟩,
⟨some 29, .call n_tree_all_api_TreeState [.t 28, .f n_tree_Right_4], (some (26, true))⟩,
⟨some 30, .pick (.t 26) (.t 29) (.k (.bool false)), none⟩,
⟨some 31, .mov (.t 30), none⟩,
⟨some 32, .faddr (.t 1) 10, (some (31, true))⟩,
⟨some 33, .load (.t 32), (some (31, true))⟩,
⟨some 34, .call n_tree_all_api_TreeSymbol [.t 33, .f n_tree_symbol], (some (31, true))⟩,
⟨some 35, .pick (.t 31) (.t 34) (.k (.bool false)), none⟩,
⟨some 36, .mov (.t 35), none⟩,
⟨some 37, .faddr (.t 1) 11, (some (36, true))⟩,
⟨some 38, .load (.t 37), (some (36, true))⟩,
⟨some 39, .call n_tree_all_api_TreeTrans [.t 38, .f n_tree_trans], (some (36, true))⟩,
⟨some 40, .pick (.t 36) (.t 39) (.k (.bool false)), none⟩,
⟨some 2, .mov (.t 40), none⟩]
[2])
.ret))⟩
theorem k_tree_Right : chkF Go.Proofs.Tryz.prog Go.Proofs.Tryz.f22 c_tree_Right = true := by kernel_rfl
def c_tree_Right_4 : AFun := ⟨6, 1, [.t 2],
  (.seq (.reg [⟨some 1, .box t_api_TreeState 5 (.t 0), none⟩,
⟨some 2, .mov (.k (.bool false)), none⟩]
[1])
(.seq (.reg [⟨some 3, .faddr (.t 1) 0, none⟩,
⟨some 4, .loadN (.t 3) 3, none⟩,
⟨some 5, .call n_tree_name [.t 4], none⟩,
⟨some 2, .mov (.t 5), none⟩]
[2])
.ret))⟩
theorem k_tree_Right_4 : chkF Go.Proofs.Tryz.prog Go.Proofs.Tryz.f51 c_tree_Right_4 = true := by kernel_rfl
def c_tree_name : AFun := ⟨6, 1, [.t 2],
  (.seq (.reg [⟨some 1, .box t_api_Ident 3 (.t 0), none⟩,
⟨some 2, .mov (.k (.bool false)), none⟩]
[1])
(.seq (.reg [⟨some 3, .faddr (.t 1) 0, none⟩,
⟨some 4, .load (.t 3), none⟩,
⟨some 5, .call n_schema_Name [.t 4], none⟩,
⟨some 2, .mov (.t 5), none⟩]
[2])
.ret))⟩
theorem k_tree_name : chkF Go.Proofs.Tryz.prog Go.Proofs.Tryz.f40 c_tree_name = true := by kernel_rfl
def c_tree_all_api_TreeDecl : AFun := ⟨9, 2, [.t 4],
  (.seq (.reg [⟨some 3, .box t_func_api_TreeDecl_bool 1 (.t 1), none⟩,
⟨some 4, .mov (.k (.bool false)), none⟩]
[0, 3])
(.seq (.reg [⟨some 5, .mov (.t 0), none⟩,
⟨some 6, .mkfn n_tree_all_api_TreeDecl_1 [.t 3], none⟩,
⟨some 7, .call n_slices_ContainsFunc_api_TreeDecl_api_TreeDecl [.t 5, .t 6], none⟩,
⟨some 8, .un .not (.t 7), none⟩,
⟨some 4, .mov (.t 8), none⟩]
[4])
.ret))⟩
theorem k_tree_all_api_TreeDecl : chkF Go.Proofs.Tryz.prog Go.Proofs.Tryz.f41 c_tree_all_api_TreeDecl = true := by kernel_rfl
def c_tree_all_api_TreeQuant : AFun := ⟨9, 2, [.t 4],
  (.seq (.reg [⟨some 3, .box t_func_api_TreeQuant_bool 1 (.t 1), none⟩,
⟨some 4, .mov (.k (.bool false)), none⟩]
[0, 3])
(.seq (.reg [⟨some 5, .mov (.t 0), none⟩,
⟨some 6, .mkfn n_tree_all_api_TreeQuant_1 [.t 3], none⟩,
⟨some 7, .call n_slices_ContainsFunc_api_TreeQuant_api_TreeQuant [.t 5, .t 6], none⟩,
⟨some 8, .un .not (.t 7), none⟩,
⟨some 4, .mov (.t 8), none⟩]
[4])
.ret))⟩
theorem k_tree_all_api_TreeQuant : chkF Go.Proofs.Tryz.prog Go.Proofs.Tryz.f45 c_tree_all_api_TreeQuant = true := by kernel_rfl
def c_tree_all_api_TreeFree : AFun := ⟨9, 2, [.t 4],
  (.seq (.reg [⟨some 3, .box t_func_api_TreeFree_bool 1 (.t 1), none⟩,
⟨some 4, .mov (.k (.bool false)), none⟩]
[0, 3])
(.seq (.reg [⟨some 5, .mov (.t 0), none⟩,
⟨some 6, .mkfn n_tree_all_api_TreeFree_1 [.t 3], none⟩,
⟨some 7, .call n_slices_ContainsFunc_api_TreeFree_api_TreeFree [.t 5, .t 6], none⟩,
⟨some 8, .un .not (.t 7), none⟩,
⟨some 4, .mov (.t 8), none⟩]
[4])
.ret))⟩
theorem k_tree_all_api_TreeFree : chkF Go.Proofs.Tryz.prog Go.Proofs.Tryz.f47 c_tree_all_api_TreeFree = true := by kernel_rfl
def c_tree_all_api_TreeState : AFun := ⟨9, 2, [.t 4],
  (.seq (.reg [⟨some 3, .box t_func_api_TreeState_bool 1 (.t 1), none⟩,
⟨some 4, .mov (.k (.bool false)), none⟩]
[0, 3])
(.seq (.reg [⟨some 5, .mov (.t 0), none⟩,
⟨some 6, .mkfn n_tree_all_api_TreeState_1 [.t 3], none⟩,
⟨some 7, .call n_slices_ContainsFunc_api_TreeState_api_TreeState [.t 5, .t 6], none⟩,
⟨some 8, .un .not (.t 7), none⟩,
⟨some 4, .mov (.t 8), none⟩]
[4])
.ret))⟩
theorem k_tree_all_api_TreeState : chkF Go.Proofs.Tryz.prog Go.Proofs.Tryz.f50 c_tree_all_api_TreeState = true := by kernel_rfl
def c_tree_all_api_TreeSymbol : AFun := ⟨9, 2, [.t 4],
  (.seq (.reg [⟨some 3, .box t_func_api_TreeSymbol_bool 1 (.t 1), none⟩,
⟨some 4, .mov (.k (.bool false)), none⟩]
[0, 3])
(.seq (.reg [⟨some 5, .mov (.t 0), none⟩,
⟨some 6, .mkfn n_tree_all_api_TreeSymbol_1 [.t 3], none⟩,
⟨some 7, .call n_slices_ContainsFunc_api_TreeSymbol_api_TreeSymbol [.t 5, .t 6], none⟩,
⟨some 8, .un .not (.t 7), none⟩,
⟨some 4, .mov (.t 8), none⟩]
[4])
.ret))⟩
theorem k_tree_all_api_TreeSymbol : chkF Go.Proofs.Tryz.prog Go.Proofs.Tryz.f52 c_tree_all_api_TreeSymbol = true := by kernel_rfl
def c_tree_all_api_TreeTrans : AFun := ⟨9, 2, [.t 4],
  (.seq (.reg [⟨some 3, .box t_func_api_TreeTrans_bool 1 (.t 1), none⟩,
⟨some 4, .mov (.k (.bool false)), none⟩]
[0, 3])
(.seq (.reg [⟨some 5, .mov (.t 0), none⟩,
⟨some 6, .mkfn n_tree_all_api_TreeTrans_1 [.t 3], none⟩,
⟨some 7, .call n_slices_ContainsFunc_api_TreeTrans_api_TreeTrans [.t 5, .t 6], none⟩,
⟨some 8, .un .not (.t 7), none⟩,
⟨some 4, .mov (.t 8), none⟩]
[4])
.ret))⟩
theorem k_tree_all_api_TreeTrans : chkF Go.Proofs.Tryz.prog Go.Proofs.Tryz.f54 c_tree_all_api_TreeTrans = true := by kernel_rfl
def c_tree_all_api_TreeState_1 : AFun := ⟨8, 2, [.t 3],
  (.seq (.reg [⟨some 2, .box t_api_TreeState 5 (.t 0), none⟩,
⟨some 3, .mov (.k (.bool false)), none⟩]
[1, 2])
(.seq (.reg [⟨some 4, .load (.t 1), none⟩,
⟨some 5, .loadN (.t 2) 5, none⟩,
⟨some 6, .callv (.t 4) [.t 5], none⟩,
⟨some 7, .un .not (.t 6), none⟩,
⟨some 3, .mov (.t 7), none⟩]
[3])
.ret))⟩
theorem k_tree_all_api_TreeState_1 : chkF Go.Proofs.Tryz.prog Go.Proofs.Tryz.f137 c_tree_all_api_TreeState_1 = true := by kernel_rfl
def c_slices_ContainsFunc_api_TreeDecl_api_TreeDecl : AFun := ⟨9, 2, [.t 4],
  (.seq (.reg [⟨some 4, .mov (.k (.bool false)), none⟩]
[0, 1])
(.seq (.reg [⟨some 5, .mov (.t 0), none⟩,
⟨some 6, .mov (.t 1), none⟩,
⟨some 7, .call n_slices_IndexFunc_api_TreeDecl_api_TreeDecl [.t 5, .t 6], none⟩,
⟨some 8, .bin .geq (.t 7) (.k (.int .i64 0)), none⟩,
⟨some 4, .mov (.t 8), none⟩]
[4])
.ret))⟩
theorem k_slices_ContainsFunc_api_TreeDecl_api_TreeDecl : chkF Go.Proofs.Tryz.prog Go.Proofs.Tryz.f124 c_slices_ContainsFunc_api_TreeDecl_api_TreeDecl = true := by kernel_rfl
def c_slices_ContainsFunc_api_TreeQuant_api_TreeQuant : AFun := ⟨9, 2, [.t 4],
  (.seq (.reg [⟨some 4, .mov (.k (.bool false)), none⟩]
[0, 1])
(.seq (.reg [⟨some 5, .mov (.t 0), none⟩,
⟨some 6, .mov (.t 1), none⟩,
⟨some 7, .call n_slices_IndexFunc_api_TreeQuant_api_TreeQuant [.t 5, .t 6], none⟩,
⟨some 8, .bin .geq (.t 7) (.k (.int .i64 0)), none⟩,
⟨some 4, .mov (.t 8), none⟩]
[4])
.ret))⟩
theorem k_slices_ContainsFunc_api_TreeQuant_api_TreeQuant : chkF Go.Proofs.Tryz.prog Go.Proofs.Tryz.f129 c_slices_ContainsFunc_api_TreeQuant_api_TreeQuant = true := by kernel_rfl
def c_slices_ContainsFunc_api_TreeFree_api_TreeFree : AFun := ⟨9, 2, [.t 4],
  (.seq (.reg [⟨some 4, .mov (.k (.bool false)), none⟩]
[0, 1])
(.seq (.reg [⟨some 5, .mov (.t 0), none⟩,
⟨some 6, .mov (.t 1), none⟩,
⟨some 7, .call n_slices_IndexFunc_api_TreeFree_api_TreeFree [.t 5, .t 6], none⟩,
⟨some 8, .bin .geq (.t 7) (.k (.int .i64 0)), none⟩,
⟨some 4, .mov (.t 8), none⟩]
[4])
.ret))⟩
theorem k_slices_ContainsFunc_api_TreeFree_api_TreeFree : chkF Go.Proofs.Tryz.prog Go.Proofs.Tryz.f131 c_slices_ContainsFunc_api_TreeFree_api_TreeFree = true := by kernel_rfl
def c_slices_ContainsFunc_api_TreeState_api_TreeState : AFun := ⟨9, 2, [.t 4],
  (.seq (.reg [⟨some 4, .mov (.k (.bool false)), none⟩]
[0, 1])
(.seq (.reg [⟨some 5, .mov (.t 0), none⟩,
⟨some 6, .mov (.t 1), none⟩,
⟨some 7, .call n_slices_IndexFunc_api_TreeState_api_TreeState [.t 5, .t 6], none⟩,
⟨some 8, .bin .geq (.t 7) (.k (.int .i64 0)), none⟩,
⟨some 4, .mov (.t 8), none⟩]
[4])
.ret))⟩
theorem k_slices_ContainsFunc_api_TreeState_api_TreeState : chkF Go.Proofs.Tryz.prog Go.Proofs.Tryz.f136 c_slices_ContainsFunc_api_TreeState_api_TreeState = true := by kernel_rfl
def c_slices_ContainsFunc_api_TreeSymbol_api_TreeSymbol : AFun := ⟨9, 2, [.t 4],
  (.seq (.reg [⟨some 4, .mov (.k (.bool false)), none⟩]
[0, 1])
(.seq (.reg [⟨some 5, .mov (.t 0), none⟩,
⟨some 6, .mov (.t 1), none⟩,
⟨some 7, .call n_slices_IndexFunc_api_TreeSymbol_api_TreeSymbol [.t 5, .t 6], none⟩,
⟨some 8, .bin .geq (.t 7) (.k (.int .i64 0)), none⟩,
⟨some 4, .mov (.t 8), none⟩]
[4])
.ret))⟩
theorem k_slices_ContainsFunc_api_TreeSymbol_api_TreeSymbol : chkF Go.Proofs.Tryz.prog Go.Proofs.Tryz.f138 c_slices_ContainsFunc_api_TreeSymbol_api_TreeSymbol = true := by kernel_rfl
def c_slices_ContainsFunc_api_TreeTrans_api_TreeTrans : AFun := ⟨9, 2, [.t 4],
  (.seq (.reg [⟨some 4, .mov (.k (.bool false)), none⟩]
[0, 1])
(.seq (.reg [⟨some 5, .mov (.t 0), none⟩,
⟨some 6, .mov (.t 1), none⟩,
⟨some 7, .call n_slices_IndexFunc_api_TreeTrans_api_TreeTrans [.t 5, .t 6], none⟩,
⟨some 8, .bin .geq (.t 7) (.k (.int .i64 0)), none⟩,
⟨some 4, .mov (.t 8), none⟩]
[4])
.ret))⟩
theorem k_slices_ContainsFunc_api_TreeTrans_api_TreeTrans : chkF Go.Proofs.Tryz.prog Go.Proofs.Tryz.f142 c_slices_ContainsFunc_api_TreeTrans_api_TreeTrans = true := by kernel_rfl
def c_slices_IndexFunc_api_TreeDecl_api_TreeDecl : AFun := ⟨19, 2, [.t 4],
  (.seq (.reg [⟨some 4, .mov (.k (.int .i64 0)), none⟩]
[0, 1])
(.seq (.seq (.reg [⟨some 6, .mov (.t 0), none⟩,
⟨some 7, .len false (.t 6), none⟩,
⟨some 8, .mov (.k (.int .i64 0)), none⟩]
[0, 1, 7, 8])
(.block 0
(.loop [0, 1, 7, 8] [7, 18, 17, 16, 15, 14, 13, 12, 11, 10, 9, 8]
  (.seq (.reg [⟨some 9, .bin .lss (.t 8) (.t 7), none⟩]
[0, 1, 7, 8, 9])
(.seq (.cond (.t 9)
.skip
(.exit 0))
(.seq (.block 1
(.seq (.reg [⟨some 10, .mov (.t 8), none⟩,
⟨some 5, .mov (.t 10), none⟩]
[0, 1, 5, 7, 8])
(.seq (.reg [⟨some 11, .mov (.t 1), none⟩,
⟨some 12, .mov (.t 0), none⟩,
⟨some 13, .mov (.t 5), none⟩,
⟨some 14, .iaddr 4 (.t 12) (.t 13), none⟩,
⟨some 15, .loadN (.t 14) 4, none⟩,
⟨some 16, .callv (.t 11) [.t 15], none⟩]
[0, 1, 5, 7, 8, 16])
(.cond (.t 16)
(.seq (.reg [⟨some 17, .mov (.t 5), none⟩,
⟨some 4, .mov (.t 17), none⟩]
[4])
.ret)
.skip))))
(.reg [⟨some 18, .bin .add (.t 8) (.k (.int .i64 1)), none⟩,
⟨some 8, .mov (.t 18), none⟩]
[0, 1, 7, 8])))))))
(.seq (.reg [⟨some 4, .mov (.k (.int .i64 (-1))), none⟩]
[4])
.ret)))⟩
theorem k_slices_IndexFunc_api_TreeDecl_api_TreeDecl : chkF Go.Proofs.Tryz.prog Go.Proofs.Tryz.f186 c_slices_IndexFunc_api_TreeDecl_api_TreeDecl = true := by kernel_rfl
def c_slices_IndexFunc_api_TreeQuant_api_TreeQuant : AFun := ⟨19, 2, [.t 4],
  (.seq (.reg [⟨some 4, .mov (.k (.int .i64 0)), none⟩]
[0, 1])
(.seq (.seq (.reg [⟨some 6, .mov (.t 0), none⟩,
⟨some 7, .len false (.t 6), none⟩,
⟨some 8, .mov (.k (.int .i64 0)), none⟩]
[0, 1, 7, 8])
(.block 0
(.loop [0, 1, 7, 8] [7, 18, 17, 16, 15, 14, 13, 12, 11, 10, 9, 8]
  (.seq (.reg [⟨some 9, .bin .lss (.t 8) (.t 7), none⟩]
[0, 1, 7, 8, 9])
(.seq (.cond (.t 9)
.skip
(.exit 0))
(.seq (.block 1
(.seq (.reg [⟨some 10, .mov (.t 8), none⟩,
⟨some 5, .mov (.t 10), none⟩]
[0, 1, 5, 7, 8])
(.seq (.reg [⟨some 11, .mov (.t 1), none⟩,
⟨some 12, .mov (.t 0), none⟩,
⟨some 13, .mov (.t 5), none⟩,
⟨some 14, .iaddr 5 (.t 12) (.t 13), none⟩,
⟨some 15, .loadN (.t 14) 5, none⟩,
⟨some 16, .callv (.t 11) [.t 15], none⟩]
[0, 1, 5, 7, 8, 16])
(.cond (.t 16)
(.seq (.reg [⟨some 17, .mov (.t 5), none⟩,
⟨some 4, .mov (.t 17), none⟩]
[4])
.ret)
.skip))))
(.reg [⟨some 18, .bin .add (.t 8) (.k (.int .i64 1)), none⟩,
⟨some 8, .mov (.t 18), none⟩]
[0, 1, 7, 8])))))))
(.seq (.reg [⟨some 4, .mov (.k (.int .i64 (-1))), none⟩]
[4])
.ret)))⟩
theorem k_slices_IndexFunc_api_TreeQuant_api_TreeQuant : chkF Go.Proofs.Tryz.prog Go.Proofs.Tryz.f188 c_slices_IndexFunc_api_TreeQuant_api_TreeQuant = true := by kernel_rfl
def c_slices_IndexFunc_api_TreeFree_api_TreeFree : AFun := ⟨19, 2, [.t 4],
  (.seq (.reg [⟨some 4, .mov (.k (.int .i64 0)), none⟩]
[0, 1])
(.seq (.seq (.reg [⟨some 6, .mov (.t 0), none⟩,
⟨some 7, .len false (.t 6), none⟩,
⟨some 8, .mov (.k (.int .i64 0)), none⟩]
[0, 1, 7, 8])
(.block 0
(.loop [0, 1, 7, 8] [7, 18, 17, 16, 15, 14, 13, 12, 11, 10, 9, 8]
  (.seq (.reg [⟨some 9, .bin .lss (.t 8) (.t 7), none⟩]
[0, 1, 7, 8, 9])
(.seq (.cond (.t 9)
.skip
(.exit 0))
(.seq (.block 1
(.seq (.reg [⟨some 10, .mov (.t 8), none⟩,
⟨some 5, .mov (.t 10), none⟩]
[0, 1, 5, 7, 8])
(.seq (.reg [⟨some 11, .mov (.t 1), none⟩,
⟨some 12, .mov (.t 0), none⟩,
⟨some 13, .mov (.t 5), none⟩,
⟨some 14, .iaddr 7 (.t 12) (.t 13), none⟩,
⟨some 15, .loadN (.t 14) 7, none⟩,
⟨some 16, .callv (.t 11) [.t 15], none⟩]
[0, 1, 5, 7, 8, 16])
(.cond (.t 16)
(.seq (.reg [⟨some 17, .mov (.t 5), none⟩,
⟨some 4, .mov (.t 17), none⟩]
[4])
.ret)
.skip))))
(.reg [⟨some 18, .bin .add (.t 8) (.k (.int .i64 1)), none⟩,
⟨some 8, .mov (.t 18), none⟩]
[0, 1, 7, 8])))))))
(.seq (.reg [⟨some 4, .mov (.k (.int .i64 (-1))), none⟩]
[4])
.ret)))⟩
theorem k_slices_IndexFunc_api_TreeFree_api_TreeFree : chkF Go.Proofs.Tryz.prog Go.Proofs.Tryz.f189 c_slices_IndexFunc_api_TreeFree_api_TreeFree = true := by kernel_rfl
def c_slices_IndexFunc_api_TreeState_api_TreeState : AFun := ⟨19, 2, [.t 4],
  (.seq (.reg [⟨some 4, .mov (.k (.int .i64 0)), none⟩]
[0, 1])
(.seq (.seq (.reg [⟨some 6, .mov (.t 0), none⟩,
⟨some 7, .len false (.t 6), none⟩,
⟨some 8, .mov (.k (.int .i64 0)), none⟩]
[0, 1, 7, 8])
(.block 0
(.loop [0, 1, 7, 8] [7, 18, 17, 16, 15, 14, 13, 12, 11, 10, 9, 8]
  (.seq (.reg [⟨some 9, .bin .lss (.t 8) (.t 7), none⟩]
[0, 1, 7, 8, 9])
(.seq (.cond (.t 9)
.skip
(.exit 0))
(.seq (.block 1
(.seq (.reg [⟨some 10, .mov (.t 8), none⟩,
⟨some 5, .mov (.t 10), none⟩]
[0, 1, 5, 7, 8])
(.seq (.reg [⟨some 11, .mov (.t 1), none⟩,
⟨some 12, .mov (.t 0), none⟩,
⟨some 13, .mov (.t 5), none⟩,
⟨some 14, .iaddr 5 (.t 12) (.t 13), none⟩,
⟨some 15, .loadN (.t 14) 5, none⟩,
⟨some 16, .callv (.t 11) [.t 15], none⟩]
[0, 1, 5, 7, 8, 16])
(.cond (.t 16)
(.seq (.reg [⟨some 17, .mov (.t 5), none⟩,
⟨some 4, .mov (.t 17), none⟩]
[4])
.ret)
.skip))))
(.reg [⟨some 18, .bin .add (.t 8) (.k (.int .i64 1)), none⟩,
⟨some 8, .mov (.t 18), none⟩]
[0, 1, 7, 8])))))))
(.seq (.reg [⟨some 4, .mov (.k (.int .i64 (-1))), none⟩]
[4])
.ret)))⟩
theorem k_slices_IndexFunc_api_TreeState_api_TreeState : chkF Go.Proofs.Tryz.prog Go.Proofs.Tryz.f190 c_slices_IndexFunc_api_TreeState_api_TreeState = true := by kernel_rfl
def c_slices_IndexFunc_api_TreeSymbol_api_TreeSymbol : AFun := ⟨19, 2, [.t 4],
  (.seq (.reg [⟨some 4, .mov (.k (.int .i64 0)), none⟩]
[0, 1])
(.seq (.seq (.reg [⟨some 6, .mov (.t 0), none⟩,
⟨some 7, .len false (.t 6), none⟩,
⟨some 8, .mov (.k (.int .i64 0)), none⟩]
[0, 1, 7, 8])
(.block 0
(.loop [0, 1, 7, 8] [7, 18, 17, 16, 15, 14, 13, 12, 11, 10, 9, 8]
  (.seq (.reg [⟨some 9, .bin .lss (.t 8) (.t 7), none⟩]
[0, 1, 7, 8, 9])
(.seq (.cond (.t 9)
.skip
(.exit 0))
(.seq (.block 1
(.seq (.reg [⟨some 10, .mov (.t 8), none⟩,
⟨some 5, .mov (.t 10), none⟩]
[0, 1, 5, 7, 8])
(.seq (.reg [⟨some 11, .mov (.t 1), none⟩,
⟨some 12, .mov (.t 0), none⟩,
⟨some 13, .mov (.t 5), none⟩,
⟨some 14, .iaddr 4 (.t 12) (.t 13), none⟩,
⟨some 15, .loadN (.t 14) 4, none⟩,
⟨some 16, .callv (.t 11) [.t 15], none⟩]
[0, 1, 5, 7, 8, 16])
(.cond (.t 16)
(.seq (.reg [⟨some 17, .mov (.t 5), none⟩,
⟨some 4, .mov (.t 17), none⟩]
[4])
.ret)
.skip))))
(.reg [⟨some 18, .bin .add (.t 8) (.k (.int .i64 1)), none⟩,
⟨some 8, .mov (.t 18), none⟩]
[0, 1, 7, 8])))))))
(.seq (.reg [⟨some 4, .mov (.k (.int .i64 (-1))), none⟩]
[4])
.ret)))⟩
theorem k_slices_IndexFunc_api_TreeSymbol_api_TreeSymbol : chkF Go.Proofs.Tryz.prog Go.Proofs.Tryz.f191 c_slices_IndexFunc_api_TreeSymbol_api_TreeSymbol = true := by kernel_rfl
def c_slices_IndexFunc_api_TreeTrans_api_TreeTrans : AFun := ⟨19, 2, [.t 4],
  (.seq (.reg [⟨some 4, .mov (.k (.int .i64 0)), none⟩]
[0, 1])
(.seq (.seq (.reg [⟨some 6, .mov (.t 0), none⟩,
⟨some 7, .len false (.t 6), none⟩,
⟨some 8, .mov (.k (.int .i64 0)), none⟩]
[0, 1, 7, 8])
(.block 0
(.loop [0, 1, 7, 8] [7, 18, 17, 16, 15, 14, 13, 12, 11, 10, 9, 8]
  (.seq (.reg [⟨some 9, .bin .lss (.t 8) (.t 7), none⟩]
[0, 1, 7, 8, 9])
(.seq (.cond (.t 9)
.skip
(.exit 0))
(.seq (.block 1
(.seq (.reg [⟨some 10, .mov (.t 8), none⟩,
⟨some 5, .mov (.t 10), none⟩]
[0, 1, 5, 7, 8])
(.seq (.reg [⟨some 11, .mov (.t 1), none⟩,
⟨some 12, .mov (.t 0), none⟩,
⟨some 13, .mov (.t 5), none⟩,
⟨some 14, .iaddr 13 (.t 12) (.t 13), none⟩,
⟨some 15, .loadN (.t 14) 13, none⟩,
⟨some 16, .callv (.t 11) [.t 15], none⟩]
[0, 1, 5, 7, 8, 16])
(.cond (.t 16)
(.seq (.reg [⟨some 17, .mov (.t 5), none⟩,
⟨some 4, .mov (.t 17), none⟩]
[4])
.ret)
.skip))))
(.reg [⟨some 18, .bin .add (.t 8) (.k (.int .i64 1)), none⟩,
⟨some 8, .mov (.t 18), none⟩]
[0, 1, 7, 8])))))))
(.seq (.reg [⟨some 4, .mov (.k (.int .i64 (-1))), none⟩]
[4])
.ret)))⟩
theorem k_slices_IndexFunc_api_TreeTrans_api_TreeTrans : chkF Go.Proofs.Tryz.prog Go.Proofs.Tryz.f194 c_slices_IndexFunc_api_TreeTrans_api_TreeTrans = true := by kernel_rfl
def c_schema_Name : AFun := ⟨14, 1, [.t 2],
  (.seq (.reg [⟨some 2, .mov (.k (.bool false)), none⟩]
[0])
(.seq (.reg [⟨some 3, .mov (.t 0), none⟩,
⟨some 4, .call n_schema_Spelt [.t 3], none⟩,
⟨some 5, .mov (.t 4), none⟩,
⟨some 6, .mov (.t 0), (some (5, true))⟩,
⟨some 7, .call n_schema_Word [.t 6], (some (5, true))⟩,
⟨some 8, .un .not (.t 7), (some (5, true))⟩,
⟨some 9, .pick (.t 5) (.t 8) (.k (.bool false)), none⟩,
⟨some 10, .mov (.t 9), none⟩,
⟨some 11, .mov (.t 0), (some (10, true))⟩,
⟨some 12, .bin .neq (.t 11) (.k (.str [95])), (some (10, true))⟩,
⟨some 13, .pick (.t 10) (.t 12) (.k (.bool false)), none⟩,
⟨some 2, .mov (.t 13), none⟩]
[2])
.ret))⟩
theorem k_schema_Name : chkF Go.Proofs.Tryz.prog Go.Proofs.Tryz.f123 c_schema_Name = true := by kernel_rfl
def c_schema_Spelt : AFun := ⟨25, 1, [.t 2],
  (.seq (.reg [⟨some 2, .mov (.k (.bool false)), none⟩]
[0])
(.seq (.seq (.reg [⟨some 4, .mov (.t 0), none⟩,
⟨some 5, .bin .eql (.t 4) (.k (.str [])), none⟩,
⟨some 6, .mov (.t 5), none⟩,
⟨some 7, .mov (.t 0), (some (6, false))⟩,
⟨some 8, .len true (.t 7), (some (6, false))⟩,
⟨some 9, .bin .gtr (.t 8) (.k (.int .i64 32)), (some (6, false))⟩,
⟨some 10, .pick (.t 6) (.k (.bool true)) (.t 9), none⟩,
⟨some 11, .mov (.t 10), none⟩,
⟨some 12, .mov (.t 0), (some (11, false))⟩,
⟨some 13, .idx (.t 12) (.k (.int .i64 0)), (some (11, false))⟩,
⟨some 14, .bin .geq (.t 13) (.k (.int .u8 48)), (some (11, false))⟩,
⟨some 15, .mov (.t 14), (some (11, false))⟩,
⟨some 16, .mov (.t 0), (some (15, true))⟩,
⟨some 17, .idx (.t 16) (.k (.int .i64 0)), (some (15, true))⟩,
⟨some 18, .bin .leq (.t 17) (.k (.int .u8 57)), (some (15, true))⟩,
⟨some 19, .pick (.t 15) (.t 18) (.k (.bool false)), (some (11, false))⟩,
⟨some 20, .pick (.t 11) (.k (.bool true)) (.t 19), none⟩]
[0, 20])
(.cond (.t 20)
(.seq (.reg [⟨some 2, .mov (.k (.bool false)), none⟩]
[2])
.ret)
.skip))
(.seq (.reg [⟨some 3, .mov (.f n_schema_Spelt_1), none⟩]
[0, 3])
(.seq (.reg [⟨some 21, .mov (.t 0), none⟩,
⟨some 22, .mov (.t 3), none⟩,
⟨some 23, .call n_strings_IndexFunc [.t 21, .t 22], none⟩,
⟨some 24, .bin .lss (.t 23) (.k (.int .i64 0)), none⟩,
⟨some 2, .mov (.t 24), none⟩]
[2])
.ret))))⟩
theorem k_schema_Spelt : chkF Go.Proofs.Tryz.prog Go.Proofs.Tryz.f184 c_schema_Spelt = true := by kernel_rfl
def c_schema_Spelt_1 : AFun := ⟨29, 1, [.t 2],
  (.seq (.reg [⟨some 2, .mov (.k (.bool false)), none⟩]
[0])
(.seq (.reg [⟨some 3, .mov (.t 0), none⟩,
⟨some 4, .bin .neq (.t 3) (.k (.int .i32 95)), none⟩,
⟨some 5, .mov (.t 4), none⟩,
⟨some 6, .mov (.t 0), (some (5, true))⟩,
⟨some 7, .bin .lss (.t 6) (.k (.int .i32 48)), (some (5, true))⟩,
⟨some 8, .mov (.t 7), (some (5, true))⟩,
⟨some 9, .mov (.t 0), (some (8, false))⟩,
⟨some 10, .bin .gtr (.t 9) (.k (.int .i32 57)), (some (8, false))⟩,
⟨some 11, .pick (.t 8) (.k (.bool true)) (.t 10), (some (5, true))⟩,
⟨some 12, .pick (.t 5) (.t 11) (.k (.bool false)), none⟩,
⟨some 13, .mov (.t 12), none⟩,
⟨some 14, .mov (.t 0), (some (13, true))⟩,
⟨some 15, .bin .lss (.t 14) (.k (.int .i32 65)), (some (13, true))⟩,
⟨some 16, .mov (.t 15), (some (13, true))⟩,
⟨some 17, .mov (.t 0), (some (16, false))⟩,
⟨some 18, .bin .gtr (.t 17) (.k (.int .i32 90)), (some (16, false))⟩,
⟨some 19, .pick (.t 16) (.k (.bool true)) (.t 18), (some (13, true))⟩,
⟨some 20, .pick (.t 13) (.t 19) (.k (.bool false)), none⟩,
⟨some 21, .mov (.t 20), none⟩,
⟨some 22, .mov (.t 0), (some (21, true))⟩,
⟨some 23, .bin .lss (.t 22) (.k (.int .i32 97)), (some (21, true))⟩,
⟨some 24, .mov (.t 23), (some (21, true))⟩,
⟨some 25, .mov (.t 0), (some (24, false))⟩,
⟨some 26, .bin .gtr (.t 25) (.k (.int .i32 122)), (some (24, false))⟩,
⟨some 27, .pick (.t 24) (.k (.bool true)) (.t 26), (some (21, true))⟩,
⟨some 28, .pick (.t 21) (.t 27) (.k (.bool false)), none⟩,
⟨some 2, .mov (.t 28), none⟩]
[2])
.ret))⟩
theorem k_schema_Spelt_1 : chkF Go.Proofs.Tryz.prog Go.Proofs.Tryz.f217 c_schema_Spelt_1 = true := by kernel_rfl
def c_strings_IndexFunc : AFun := ⟨8, 2, [.t 4],
  (.seq (.reg [⟨some 4, .mov (.k (.int .i64 0)), none⟩]
[0, 1])
(.seq (.reg [⟨some 5, .mov (.t 0), none⟩,
⟨some 6, .mov (.t 1), none⟩,
⟨some 7, .call n_strings_indexFunc [.t 5, .t 6, .k (.bool true)], none⟩,
⟨some 4, .mov (.t 7), none⟩]
[4])
.ret))⟩
theorem k_strings_IndexFunc : chkF Go.Proofs.Tryz.prog Go.Proofs.Tryz.f218 c_strings_IndexFunc = true := by kernel_rfl
def c_strings_indexFunc : AFun := ⟨21, 3, [.t 6],
  (.seq (.reg [⟨some 6, .mov (.k (.int .i64 0)), none⟩]
[0, 1, 2])
(.seq (.seq (.reg [⟨some 9, .mov (.t 0), none⟩,
⟨some 10, .rng (.t 9), none⟩]
[1, 2, 10])
(.block 0
(.loop [1, 2, 10] [10, 20, 19, 18, 17, 16, 15, 14, 13, 12, 11, 9, 8]
  (.seq (.reg [⟨some 11, .nxt (.t 10), none⟩,
⟨some 12, .ext (.t 11) 0, none⟩]
[1, 2, 10, 11, 12])
(.seq (.cond (.t 12)
.skip
(.exit 0))
(.block 1
(.seq (.reg [⟨some 13, .ext (.t 11) 1, none⟩,
⟨some 14, .ext (.t 11) 2, none⟩,
⟨some 7, .mov (.t 13), none⟩,
⟨some 8, .mov (.t 14), none⟩]
[1, 2, 7, 8, 10])
(.seq (.reg [⟨some 15, .mov (.t 1), none⟩,
⟨some 16, .mov (.t 8), none⟩,
⟨some 17, .callv (.t 15) [.t 16], none⟩,
⟨some 18, .mov (.t 2), none⟩,
⟨some 19, .eqB false (.t 17) (.t 18), none⟩]
[1, 2, 7, 10, 19])
(.cond (.t 19)
(.seq (.reg [⟨some 20, .mov (.t 7), none⟩,
⟨some 6, .mov (.t 20), none⟩]
[6])
.ret)
.skip)))))))))
(.seq (.reg [⟨some 6, .mov (.k (.int .i64 (-1))), none⟩]
[6])
.ret)))⟩
theorem k_strings_indexFunc : chkF Go.Proofs.Tryz.prog Go.Proofs.Tryz.f234 c_strings_indexFunc = true := by kernel_rfl
def c_core_Same : AFun := ⟨66, 2, [.t 4],
  (.seq (.reg [⟨some 2, .box t_api_Qea 9 (.t 0), none⟩,
⟨some 3, .box t_api_Qea 9 (.t 1), none⟩,
⟨some 4, .mov (.k (.bool false)), none⟩]
[2, 3])
(.seq (.reg [⟨some 5, .faddr (.t 2) 0, none⟩,
⟨some 6, .load (.t 5), none⟩,
⟨some 7, .faddr (.t 3) 0, none⟩,
⟨some 8, .load (.t 7), none⟩,
⟨some 9, .bin .eql (.t 6) (.t 8), none⟩,
⟨some 10, .mov (.t 9), none⟩,
⟨some 11, .faddr (.t 2) 1, (some (10, true))⟩,
⟨some 12, .load (.t 11), (some (10, true))⟩,
⟨some 13, .faddr (.t 3) 1, (some (10, true))⟩,
⟨some 14, .load (.t 13), (some (10, true))⟩,
⟨some 15, .call n_schema_Same [.t 12, .t 14], (some (10, true))⟩,
⟨some 16, .pick (.t 10) (.t 15) (.k (.bool false)), none⟩,
⟨some 17, .mov (.t 16), none⟩,
⟨some 18, .faddr (.t 2) 2, (some (17, true))⟩,
⟨some 19, .load (.t 18), (some (17, true))⟩,
⟨some 20, .faddr (.t 3) 2, (some (17, true))⟩,
⟨some 21, .load (.t 20), (some (17, true))⟩,
⟨some 22, .call n_slices_Equal_api_Quant_api_Quant [.t 19, .t 21], (some (17, true))⟩,
⟨some 23, .pick (.t 17) (.t 22) (.k (.bool false)), none⟩,
⟨some 24, .mov (.t 23), none⟩,
⟨some 25, .faddr (.t 2) 3, (some (24, true))⟩,
⟨some 26, .load (.t 25), (some (24, true))⟩,
⟨some 27, .faddr (.t 3) 3, (some (24, true))⟩,
⟨some 28, .load (.t 27), (some (24, true))⟩,
⟨some 29, .call n_slices_Equal_api_Free_api_Free [.t 26, .t 28], (some (24, true))⟩,
⟨some 30, .pick (.t 24) (.t 29) (.k (.bool false)), none⟩,
⟨some 31, .mov (.t 30), none⟩,
⟨some 32, .faddr (.t 2) 4, (some (31, true))⟩,
⟨some 33, .load (.t 32), (some (31, true))⟩,
⟨some 34, .faddr (.t 3) 4, (some (31, true))⟩,
⟨some 35, .load (.t 34), (some (31, true))⟩,
⟨some 36, .call n_slices_Equal_api_State_api_State [.t 33, .t 35], (some (31, true))⟩,
⟨some 37, .pick (.t 31) (.t 36) (.k (.bool false)), none⟩,
⟨some 38, .mov (.t 37), none⟩,
⟨some 39, .faddr (.t 2) 5, (some (38, true))⟩,
⟨some 40, .load (.t 39), (some (38, true))⟩,
⟨some 41, .faddr (.t 3) 5, (some (38, true))⟩,
⟨some 42, .load (.t 41), (some (38, true))⟩,
⟨some 43, .bin .eql (.t 40) (.t 42), (some (38, true))⟩,
⟨some 44, .pick (.t 38) (.t 43) (.k (.bool false)), none⟩,
⟨some 45, .mov (.t 44), none⟩,
⟨some 46, .faddr (.t 2) 6, (some (45, true))⟩,
⟨some 47, .load (.t 46), (some (45, true))⟩,
⟨some 48, .faddr (.t 3) 6, (some (45, true))⟩,
⟨some 49, .load (.t 48), (some (45, true))⟩,
⟨some 50, .call n_slices_EqualFunc_api_Symbol_api_Symbol_api_Symbol_api_Symbol [.t 47, .t 49, .f n_core_sameSymbol], (some (45, true))⟩,
⟨some 51, .pick (.t 45) (.t 50) (.k (.bool false)), none⟩,
⟨some 52, .mov (.t 51), none⟩,
⟨some 53, .faddr (.t 2) 7, (some (52, true))⟩,
⟨some 54, .load (.t 53), (some (52, true))⟩,
⟨some 55, .faddr (.t 3) 7, (some (52, true))⟩,
⟨some 56, .load (.t 55), (some (52, true))⟩,
⟨some 57, .call n_slices_Equal_api_Node_api_Node [.t 54, .t 56], (some (52, true))⟩,
⟨some 58, .pick (.t 52) (.t 57) (.k (.bool false)), none⟩,
⟨some 59, .mov (.t 58), none⟩,
⟨some 60, .faddr (.t 2) 8, (some (59, true))⟩,
⟨some 61, .load (.t 60), (some (59, true))⟩,
⟨some 62, .faddr (.t 3) 8, (some (59, true))⟩,
⟨some 63, .load (.t 62), (some (59, true))⟩,
⟨some 64, .call n_slices_EqualFunc_api_Trans_api_Trans_api_Trans_api_Trans [.t 61, .t 63, .f n_core_Same_1], (some (59, true))⟩,
⟨some 65, .pick (.t 59) (.t 64) (.k (.bool false)), none⟩,
⟨some 4, .mov (.t 65), none⟩]
[4])
.ret))⟩
theorem k_core_Same : chkF Go.Proofs.Tryz.prog Go.Proofs.Tryz.f17 c_core_Same = true := by kernel_rfl
def c_core_sameSymbol : AFun := ⟨17, 2, [.t 4],
  (.seq (.reg [⟨some 2, .box t_api_Symbol 2 (.t 0), none⟩,
⟨some 3, .box t_api_Symbol 2 (.t 1), none⟩,
⟨some 4, .mov (.k (.bool false)), none⟩]
[2, 3])
(.seq (.reg [⟨some 5, .faddr (.t 2) 0, none⟩,
⟨some 6, .load (.t 5), none⟩,
⟨some 7, .faddr (.t 3) 0, none⟩,
⟨some 8, .load (.t 7), none⟩,
⟨some 9, .bin .eql (.t 6) (.t 8), none⟩,
⟨some 10, .mov (.t 9), none⟩,
⟨some 11, .faddr (.t 2) 1, (some (10, true))⟩,
⟨some 12, .load (.t 11), (some (10, true))⟩,
⟨some 13, .faddr (.t 3) 1, (some (10, true))⟩,
⟨some 14, .load (.t 13), (some (10, true))⟩,
⟨some 15, .call n_slices_Equal_api_Arg_api_Arg [.t 12, .t 14], (some (10, true))⟩,
⟨some 16, .pick (.t 10) (.t 15) (.k (.bool false)), none⟩,
⟨some 4, .mov (.t 16), none⟩]
[4])
.ret))⟩
theorem k_core_sameSymbol : chkF Go.Proofs.Tryz.prog Go.Proofs.Tryz.f31 c_core_sameSymbol = true := by kernel_rfl
def c_core_Same_1 : AFun := ⟨38, 2, [.t 4],
  (.seq (.reg [⟨some 2, .box t_api_Trans 5 (.t 0), none⟩,
⟨some 3, .box t_api_Trans 5 (.t 1), none⟩,
⟨some 4, .mov (.k (.bool false)), none⟩]
[2, 3])
(.seq (.reg [⟨some 5, .faddr (.t 2) 0, none⟩,
⟨some 6, .load (.t 5), none⟩,
⟨some 7, .faddr (.t 3) 0, none⟩,
⟨some 8, .load (.t 7), none⟩,
⟨some 9, .bin .eql (.t 6) (.t 8), none⟩,
⟨some 10, .mov (.t 9), none⟩,
⟨some 11, .faddr (.t 2) 1, (some (10, true))⟩,
⟨some 12, .load (.t 11), (some (10, true))⟩,
⟨some 13, .faddr (.t 3) 1, (some (10, true))⟩,
⟨some 14, .load (.t 13), (some (10, true))⟩,
⟨some 15, .bin .eql (.t 12) (.t 14), (some (10, true))⟩,
⟨some 16, .pick (.t 10) (.t 15) (.k (.bool false)), none⟩,
⟨some 17, .mov (.t 16), none⟩,
⟨some 18, .faddr (.t 2) 2, (some (17, true))⟩,
⟨some 19, .load (.t 18), (some (17, true))⟩,
⟨some 20, .faddr (.t 3) 2, (some (17, true))⟩,
⟨some 21, .load (.t 20), (some (17, true))⟩,
⟨some 22, .bin .eql (.t 19) (.t 21), (some (17, true))⟩,
⟨some 23, .pick (.t 17) (.t 22) (.k (.bool false)), none⟩,
⟨some 24, .mov (.t 23), none⟩,
⟨some 25, .faddr (.t 2) 3, (some (24, true))⟩,
⟨some 26, .load (.t 25), (some (24, true))⟩,
⟨some 27, .faddr (.t 3) 3, (some (24, true))⟩,
⟨some 28, .load (.t 27), (some (24, true))⟩,
⟨some 29, .bin .eql (.t 26) (.t 28), (some (24, true))⟩,
⟨some 30, .pick (.t 24) (.t 29) (.k (.bool false)), none⟩,
⟨some 31, .mov (.t 30), none⟩,
⟨some 32, .faddr (.t 2) 4, (some (31, true))⟩,
⟨some 33, .load (.t 32), (some (31, true))⟩,
⟨some 34, .faddr (.t 3) 4, (some (31, true))⟩,
⟨some 35, .load (.t 34), (some (31, true))⟩,
⟨some 36, .call n_slices_Equal_api_Set_api_Set [.t 33, .t 35], (some (31, true))⟩,
⟨some 37, .pick (.t 31) (.t 36) (.k (.bool false)), none⟩,
⟨some 4, .mov (.t 37), none⟩]
[4])
.ret))⟩
theorem k_core_Same_1 : chkF Go.Proofs.Tryz.prog Go.Proofs.Tryz.f34 c_core_Same_1 = true := by kernel_rfl
def c_schema_Same : AFun := ⟨8, 2, [.t 4],
  (.seq (.reg [⟨some 4, .mov (.k (.bool false)), none⟩]
[0, 1])
(.seq (.reg [⟨some 5, .mov (.t 0), none⟩,
⟨some 6, .mov (.t 1), none⟩,
⟨some 7, .call n_slices_EqualFunc_api_Decl_api_Decl_api_Decl_api_Decl [.t 5, .t 6, .f n_schema_Same_1], none⟩,
⟨some 4, .mov (.t 7), none⟩]
[4])
.ret))⟩
theorem k_schema_Same : chkF Go.Proofs.Tryz.prog Go.Proofs.Tryz.f26 c_schema_Same = true := by kernel_rfl
def c_schema_Same_1 : AFun := ⟨17, 2, [.t 4],
  (.seq (.reg [⟨some 2, .box t_api_Decl 2 (.t 0), none⟩,
⟨some 3, .box t_api_Decl 2 (.t 1), none⟩,
⟨some 4, .mov (.k (.bool false)), none⟩]
[2, 3])
(.seq (.reg [⟨some 5, .faddr (.t 2) 0, none⟩,
⟨some 6, .load (.t 5), none⟩,
⟨some 7, .faddr (.t 3) 0, none⟩,
⟨some 8, .load (.t 7), none⟩,
⟨some 9, .bin .eql (.t 6) (.t 8), none⟩,
⟨some 10, .mov (.t 9), none⟩,
⟨some 11, .faddr (.t 2) 1, (some (10, true))⟩,
⟨some 12, .load (.t 11), (some (10, true))⟩,
⟨some 13, .faddr (.t 3) 1, (some (10, true))⟩,
⟨some 14, .load (.t 13), (some (10, true))⟩,
⟨some 15, .call n_slices_Equal_int_int [.t 12, .t 14], (some (10, true))⟩,
⟨some 16, .pick (.t 10) (.t 15) (.k (.bool false)), none⟩,
⟨some 4, .mov (.t 16), none⟩]
[4])
.ret))⟩
theorem k_schema_Same_1 : chkF Go.Proofs.Tryz.prog Go.Proofs.Tryz.f86 c_schema_Same_1 = true := by kernel_rfl
def c_slices_Equal_api_Quant_api_Quant : AFun := ⟨26, 2, [.t 4],
  (.seq (.reg [⟨some 4, .mov (.k (.bool false)), none⟩]
[0, 1])
(.seq (.seq (.reg [⟨some 6, .mov (.t 0), none⟩,
⟨some 7, .len false (.t 6), none⟩,
⟨some 8, .mov (.t 1), none⟩,
⟨some 9, .len false (.t 8), none⟩,
⟨some 10, .bin .neq (.t 7) (.t 9), none⟩]
[0, 1, 10])
(.cond (.t 10)
(.seq (.reg [⟨some 4, .mov (.k (.bool false)), none⟩]
[4])
.ret)
.skip))
(.seq (.seq (.reg [⟨some 11, .mov (.t 0), none⟩,
⟨some 12, .len false (.t 11), none⟩,
⟨some 13, .mov (.k (.int .i64 0)), none⟩]
[0, 1, 12, 13])
(.block 0
(.loop [0, 1, 12, 13] [7, 9, 12, 25, 24, 23, 22, 21, 20, 19, 18, 17, 16, 15, 14]
  (.seq (.reg [⟨some 14, .bin .lss (.t 13) (.t 12), none⟩]
[0, 1, 12, 13, 14])
(.seq (.cond (.t 14)
.skip
(.exit 0))
(.seq (.block 1
(.seq (.reg [⟨some 15, .mov (.t 13), none⟩,
⟨some 5, .mov (.t 15), none⟩]
[0, 1, 5, 12, 13])
(.seq (.dreg [⟨some 16, .mov (.t 0), none⟩,
⟨some 17, .mov (.t 5), none⟩,
⟨some 18, .iaddr 3 (.t 16) (.t 17), none⟩,
⟨some 19, .loadN (.t 18) 3, none⟩,
⟨some 20, .mov (.t 1), none⟩,
⟨some 21, .mov (.t 5), none⟩,
⟨some 22, .iaddr 3 (.t 20) (.t 21), none⟩,
⟨some 23, .loadN (.t 22) 3, none⟩,
⟨some 24, .eqA true [2, 1, 0] (.t 19) (.t 23), none⟩]
[0, 1, 12, 13, 24])
(.cond (.t 24)
(.seq (.reg [⟨some 4, .mov (.k (.bool false)), none⟩]
[4])
.ret)
.skip))))
(.reg [⟨some 25, .bin .add (.t 13) (.k (.int .i64 1)), none⟩,
⟨some 13, .mov (.t 25), none⟩]
[0, 1, 12, 13])))))))
(.seq (.reg [⟨some 4, .mov (.k (.bool true)), none⟩]
[4])
.ret))))⟩
theorem k_slices_Equal_api_Quant_api_Quant : chkF Go.Proofs.Tryz.prog Go.Proofs.Tryz.f27 c_slices_Equal_api_Quant_api_Quant = true := by kernel_rfl
def c_slices_Equal_api_Free_api_Free : AFun := ⟨26, 2, [.t 4],
  (.seq (.reg [⟨some 4, .mov (.k (.bool false)), none⟩]
[0, 1])
(.seq (.seq (.reg [⟨some 6, .mov (.t 0), none⟩,
⟨some 7, .len false (.t 6), none⟩,
⟨some 8, .mov (.t 1), none⟩,
⟨some 9, .len false (.t 8), none⟩,
⟨some 10, .bin .neq (.t 7) (.t 9), none⟩]
[0, 1, 10])
(.cond (.t 10)
(.seq (.reg [⟨some 4, .mov (.k (.bool false)), none⟩]
[4])
.ret)
.skip))
(.seq (.seq (.reg [⟨some 11, .mov (.t 0), none⟩,
⟨some 12, .len false (.t 11), none⟩,
⟨some 13, .mov (.k (.int .i64 0)), none⟩]
[0, 1, 12, 13])
(.block 0
(.loop [0, 1, 12, 13] [7, 9, 12, 25, 24, 23, 22, 21, 20, 19, 18, 17, 16, 15, 14]
  (.seq (.reg [⟨some 14, .bin .lss (.t 13) (.t 12), none⟩]
[0, 1, 12, 13, 14])
(.seq (.cond (.t 14)
.skip
(.exit 0))
(.seq (.block 1
(.seq (.reg [⟨some 15, .mov (.t 13), none⟩,
⟨some 5, .mov (.t 15), none⟩]
[0, 1, 5, 12, 13])
(.seq (.dreg [⟨some 16, .mov (.t 0), none⟩,
⟨some 17, .mov (.t 5), none⟩,
⟨some 18, .iaddr 5 (.t 16) (.t 17), none⟩,
⟨some 19, .loadN (.t 18) 5, none⟩,
⟨some 20, .mov (.t 1), none⟩,
⟨some 21, .mov (.t 5), none⟩,
⟨some 22, .iaddr 5 (.t 20) (.t 21), none⟩,
⟨some 23, .loadN (.t 22) 5, none⟩,
⟨some 24, .eqA true [1, 0, 0, 1, 2] (.t 19) (.t 23), none⟩]
[0, 1, 12, 13, 24])
(.cond (.t 24)
(.seq (.reg [⟨some 4, .mov (.k (.bool false)), none⟩]
[4])
.ret)
.skip))))
(.reg [⟨some 25, .bin .add (.t 13) (.k (.int .i64 1)), none⟩,
⟨some 13, .mov (.t 25), none⟩]
[0, 1, 12, 13])))))))
(.seq (.reg [⟨some 4, .mov (.k (.bool true)), none⟩]
[4])
.ret))))⟩
theorem k_slices_Equal_api_Free_api_Free : chkF Go.Proofs.Tryz.prog Go.Proofs.Tryz.f28 c_slices_Equal_api_Free_api_Free = true := by kernel_rfl
def c_slices_Equal_api_State_api_State : AFun := ⟨26, 2, [.t 4],
  (.seq (.reg [⟨some 4, .mov (.k (.bool false)), none⟩]
[0, 1])
(.seq (.seq (.reg [⟨some 6, .mov (.t 0), none⟩,
⟨some 7, .len false (.t 6), none⟩,
⟨some 8, .mov (.t 1), none⟩,
⟨some 9, .len false (.t 8), none⟩,
⟨some 10, .bin .neq (.t 7) (.t 9), none⟩]
[0, 1, 10])
(.cond (.t 10)
(.seq (.reg [⟨some 4, .mov (.k (.bool false)), none⟩]
[4])
.ret)
.skip))
(.seq (.seq (.reg [⟨some 11, .mov (.t 0), none⟩,
⟨some 12, .len false (.t 11), none⟩,
⟨some 13, .mov (.k (.int .i64 0)), none⟩]
[0, 1, 12, 13])
(.block 0
(.loop [0, 1, 12, 13] [7, 9, 12, 25, 24, 23, 22, 21, 20, 19, 18, 17, 16, 15, 14]
  (.seq (.reg [⟨some 14, .bin .lss (.t 13) (.t 12), none⟩]
[0, 1, 12, 13, 14])
(.seq (.cond (.t 14)
.skip
(.exit 0))
(.seq (.block 1
(.seq (.reg [⟨some 15, .mov (.t 13), none⟩,
⟨some 5, .mov (.t 15), none⟩]
[0, 1, 5, 12, 13])
(.seq (.dreg [⟨some 16, .mov (.t 0), none⟩,
⟨some 17, .mov (.t 5), none⟩,
⟨some 18, .iaddr 3 (.t 16) (.t 17), none⟩,
⟨some 19, .loadN (.t 18) 3, none⟩,
⟨some 20, .mov (.t 1), none⟩,
⟨some 21, .mov (.t 5), none⟩,
⟨some 22, .iaddr 3 (.t 20) (.t 21), none⟩,
⟨some 23, .loadN (.t 22) 3, none⟩,
⟨some 24, .eqA true [1, 2, 2] (.t 19) (.t 23), none⟩]
[0, 1, 12, 13, 24])
(.cond (.t 24)
(.seq (.reg [⟨some 4, .mov (.k (.bool false)), none⟩]
[4])
.ret)
.skip))))
(.reg [⟨some 25, .bin .add (.t 13) (.k (.int .i64 1)), none⟩,
⟨some 13, .mov (.t 25), none⟩]
[0, 1, 12, 13])))))))
(.seq (.reg [⟨some 4, .mov (.k (.bool true)), none⟩]
[4])
.ret))))⟩
theorem k_slices_Equal_api_State_api_State : chkF Go.Proofs.Tryz.prog Go.Proofs.Tryz.f29 c_slices_Equal_api_State_api_State = true := by kernel_rfl
def c_slices_Equal_api_Node_api_Node : AFun := ⟨26, 2, [.t 4],
  (.seq (.reg [⟨some 4, .mov (.k (.bool false)), none⟩]
[0, 1])
(.seq (.seq (.reg [⟨some 6, .mov (.t 0), none⟩,
⟨some 7, .len false (.t 6), none⟩,
⟨some 8, .mov (.t 1), none⟩,
⟨some 9, .len false (.t 8), none⟩,
⟨some 10, .bin .neq (.t 7) (.t 9), none⟩]
[0, 1, 10])
(.cond (.t 10)
(.seq (.reg [⟨some 4, .mov (.k (.bool false)), none⟩]
[4])
.ret)
.skip))
(.seq (.seq (.reg [⟨some 11, .mov (.t 0), none⟩,
⟨some 12, .len false (.t 11), none⟩,
⟨some 13, .mov (.k (.int .i64 0)), none⟩]
[0, 1, 12, 13])
(.block 0
(.loop [0, 1, 12, 13] [7, 9, 12, 25, 24, 23, 22, 21, 20, 19, 18, 17, 16, 15, 14]
  (.seq (.reg [⟨some 14, .bin .lss (.t 13) (.t 12), none⟩]
[0, 1, 12, 13, 14])
(.seq (.cond (.t 14)
.skip
(.exit 0))
(.seq (.block 1
(.seq (.reg [⟨some 15, .mov (.t 13), none⟩,
⟨some 5, .mov (.t 15), none⟩]
[0, 1, 5, 12, 13])
(.seq (.dreg [⟨some 16, .mov (.t 0), none⟩,
⟨some 17, .mov (.t 5), none⟩,
⟨some 18, .iaddr 7 (.t 16) (.t 17), none⟩,
⟨some 19, .loadN (.t 18) 7, none⟩,
⟨some 20, .mov (.t 1), none⟩,
⟨some 21, .mov (.t 5), none⟩,
⟨some 22, .iaddr 7 (.t 20) (.t 21), none⟩,
⟨some 23, .loadN (.t 22) 7, none⟩,
⟨some 24, .eqA true [0, 0, 0, 0, 0, 1, 2] (.t 19) (.t 23), none⟩]
[0, 1, 12, 13, 24])
(.cond (.t 24)
(.seq (.reg [⟨some 4, .mov (.k (.bool false)), none⟩]
[4])
.ret)
.skip))))
(.reg [⟨some 25, .bin .add (.t 13) (.k (.int .i64 1)), none⟩,
⟨some 13, .mov (.t 25), none⟩]
[0, 1, 12, 13])))))))
(.seq (.reg [⟨some 4, .mov (.k (.bool true)), none⟩]
[4])
.ret))))⟩
theorem k_slices_Equal_api_Node_api_Node : chkF Go.Proofs.Tryz.prog Go.Proofs.Tryz.f32 c_slices_Equal_api_Node_api_Node = true := by kernel_rfl
def c_slices_EqualFunc_api_Symbol_api_Symbol_api_Symbol_api_Symbol : AFun := ⟨32, 3, [.t 6],
  (.seq (.reg [⟨some 6, .mov (.k (.bool false)), none⟩]
[0, 1, 2])
(.seq (.seq (.reg [⟨some 10, .mov (.t 0), none⟩,
⟨some 11, .len false (.t 10), none⟩,
⟨some 12, .mov (.t 1), none⟩,
⟨some 13, .len false (.t 12), none⟩,
⟨some 14, .bin .neq (.t 11) (.t 13), none⟩]
[0, 1, 2, 14])
(.cond (.t 14)
(.seq (.reg [⟨some 6, .mov (.k (.bool false)), none⟩]
[6])
.ret)
.skip))
(.seq (.seq (.reg [⟨some 15, .mov (.t 0), none⟩,
⟨some 16, .len false (.t 15), none⟩,
⟨some 17, .mov (.k (.int .i64 0)), none⟩]
[1, 2, 15, 16, 17])
(.block 0
(.loop [1, 2, 15, 16, 17] [11, 13, 16, 31, 30, 29, 28, 27, 26, 25, 24, 23, 22, 21, 20]
  (.seq (.reg [⟨some 18, .bin .lss (.t 17) (.t 16), none⟩]
[1, 2, 15, 16, 17, 18])
(.seq (.cond (.t 18)
.skip
(.exit 0))
(.seq (.block 1
(.seq (.reg [⟨some 19, .mov (.t 17), none⟩,
⟨some 20, .iaddr 2 (.t 15) (.t 17), none⟩,
⟨some 21, .loadN (.t 20) 2, none⟩,
⟨some 8, .alloc t_api_Symbol 2 (.agg [.int .i64 0, .nils]), none⟩,
⟨some 7, .mov (.t 19), none⟩,
⟨none, .store (.t 8) (.t 21) 2, none⟩]
[1, 2, 7, 8, 15, 16, 17])
(.seq (.reg [⟨some 22, .mov (.t 1), none⟩,
⟨some 23, .mov (.t 7), none⟩,
⟨some 24, .iaddr 2 (.t 22) (.t 23), none⟩,
⟨some 25, .loadN (.t 24) 2, none⟩,
⟨some 9, .alloc t_api_Symbol 2 (.agg [.int .i64 0, .nils]), none⟩,
⟨none, .store (.t 9) (.t 25) 2, none⟩]
[1, 2, 8, 9, 15, 16, 17])
(.seq (.reg [⟨some 26, .mov (.t 2), none⟩,
⟨some 27, .loadN (.t 8) 2, none⟩,
⟨some 28, .loadN (.t 9) 2, none⟩,
⟨some 29, .callv (.t 26) [.t 27, .t 28], none⟩,
⟨some 30, .un .not (.t 29), none⟩]
[1, 2, 15, 16, 17, 30])
(.cond (.t 30)
(.seq (.reg [⟨some 6, .mov (.k (.bool false)), none⟩]
[6])
.ret)
.skip)))))
(.reg [⟨some 31, .bin .add (.t 17) (.k (.int .i64 1)), none⟩,
⟨some 17, .mov (.t 31), none⟩]
[1, 2, 15, 16, 17])))))))
(.seq (.reg [⟨some 6, .mov (.k (.bool true)), none⟩]
[6])
.ret))))⟩
theorem k_slices_EqualFunc_api_Symbol_api_Symbol_api_Symbol_api_Symbol : chkF Go.Proofs.Tryz.prog Go.Proofs.Tryz.f30 c_slices_EqualFunc_api_Symbol_api_Symbol_api_Symbol_api_Symbol = true := by kernel_rfl
def c_slices_EqualFunc_api_Trans_api_Trans_api_Trans_api_Trans : AFun := ⟨32, 3, [.t 6],
  (.seq (.reg [⟨some 6, .mov (.k (.bool false)), none⟩]
[0, 1, 2])
(.seq (.seq (.reg [⟨some 10, .mov (.t 0), none⟩,
⟨some 11, .len false (.t 10), none⟩,
⟨some 12, .mov (.t 1), none⟩,
⟨some 13, .len false (.t 12), none⟩,
⟨some 14, .bin .neq (.t 11) (.t 13), none⟩]
[0, 1, 2, 14])
(.cond (.t 14)
(.seq (.reg [⟨some 6, .mov (.k (.bool false)), none⟩]
[6])
.ret)
.skip))
(.seq (.seq (.reg [⟨some 15, .mov (.t 0), none⟩,
⟨some 16, .len false (.t 15), none⟩,
⟨some 17, .mov (.k (.int .i64 0)), none⟩]
[1, 2, 15, 16, 17])
(.block 0
(.loop [1, 2, 15, 16, 17] [11, 13, 16, 31, 30, 29, 28, 27, 26, 25, 24, 23, 22, 21, 20]
  (.seq (.reg [⟨some 18, .bin .lss (.t 17) (.t 16), none⟩]
[1, 2, 15, 16, 17, 18])
(.seq (.cond (.t 18)
.skip
(.exit 0))
(.seq (.block 1
(.seq (.reg [⟨some 19, .mov (.t 17), none⟩,
⟨some 20, .iaddr 5 (.t 15) (.t 17), none⟩,
⟨some 21, .loadN (.t 20) 5, none⟩,
⟨some 8, .alloc t_api_Trans 5 (.agg [.int .i64 0, .int .i64 0, .int .i64 0, .int .i64 0, .nils]), none⟩,
⟨some 7, .mov (.t 19), none⟩,
⟨none, .store (.t 8) (.t 21) 5, none⟩]
[1, 2, 7, 8, 15, 16, 17])
(.seq (.reg [⟨some 22, .mov (.t 1), none⟩,
⟨some 23, .mov (.t 7), none⟩,
⟨some 24, .iaddr 5 (.t 22) (.t 23), none⟩,
⟨some 25, .loadN (.t 24) 5, none⟩,
⟨some 9, .alloc t_api_Trans 5 (.agg [.int .i64 0, .int .i64 0, .int .i64 0, .int .i64 0, .nils]), none⟩,
⟨none, .store (.t 9) (.t 25) 5, none⟩]
[1, 2, 8, 9, 15, 16, 17])
(.seq (.reg [⟨some 26, .mov (.t 2), none⟩,
⟨some 27, .loadN (.t 8) 5, none⟩,
⟨some 28, .loadN (.t 9) 5, none⟩,
⟨some 29, .callv (.t 26) [.t 27, .t 28], none⟩,
⟨some 30, .un .not (.t 29), none⟩]
[1, 2, 15, 16, 17, 30])
(.cond (.t 30)
(.seq (.reg [⟨some 6, .mov (.k (.bool false)), none⟩]
[6])
.ret)
.skip)))))
(.reg [⟨some 31, .bin .add (.t 17) (.k (.int .i64 1)), none⟩,
⟨some 17, .mov (.t 31), none⟩]
[1, 2, 15, 16, 17])))))))
(.seq (.reg [⟨some 6, .mov (.k (.bool true)), none⟩]
[6])
.ret))))⟩
theorem k_slices_EqualFunc_api_Trans_api_Trans_api_Trans_api_Trans : chkF Go.Proofs.Tryz.prog Go.Proofs.Tryz.f33 c_slices_EqualFunc_api_Trans_api_Trans_api_Trans_api_Trans = true := by kernel_rfl
def c_slices_EqualFunc_api_Decl_api_Decl_api_Decl_api_Decl : AFun := ⟨32, 3, [.t 6],
  (.seq (.reg [⟨some 6, .mov (.k (.bool false)), none⟩]
[0, 1, 2])
(.seq (.seq (.reg [⟨some 10, .mov (.t 0), none⟩,
⟨some 11, .len false (.t 10), none⟩,
⟨some 12, .mov (.t 1), none⟩,
⟨some 13, .len false (.t 12), none⟩,
⟨some 14, .bin .neq (.t 11) (.t 13), none⟩]
[0, 1, 2, 14])
(.cond (.t 14)
(.seq (.reg [⟨some 6, .mov (.k (.bool false)), none⟩]
[6])
.ret)
.skip))
(.seq (.seq (.reg [⟨some 15, .mov (.t 0), none⟩,
⟨some 16, .len false (.t 15), none⟩,
⟨some 17, .mov (.k (.int .i64 0)), none⟩]
[1, 2, 15, 16, 17])
(.block 0
(.loop [1, 2, 15, 16, 17] [11, 13, 16, 31, 30, 29, 28, 27, 26, 25, 24, 23, 22, 21, 20]
  (.seq (.reg [⟨some 18, .bin .lss (.t 17) (.t 16), none⟩]
[1, 2, 15, 16, 17, 18])
(.seq (.cond (.t 18)
.skip
(.exit 0))
(.seq (.block 1
(.seq (.reg [⟨some 19, .mov (.t 17), none⟩,
⟨some 20, .iaddr 2 (.t 15) (.t 17), none⟩,
⟨some 21, .loadN (.t 20) 2, none⟩,
⟨some 8, .alloc t_api_Decl 2 (.agg [.str [], .nils]), none⟩,
⟨some 7, .mov (.t 19), none⟩,
⟨none, .store (.t 8) (.t 21) 2, none⟩]
[1, 2, 7, 8, 15, 16, 17])
(.seq (.reg [⟨some 22, .mov (.t 1), none⟩,
⟨some 23, .mov (.t 7), none⟩,
⟨some 24, .iaddr 2 (.t 22) (.t 23), none⟩,
⟨some 25, .loadN (.t 24) 2, none⟩,
⟨some 9, .alloc t_api_Decl 2 (.agg [.str [], .nils]), none⟩,
⟨none, .store (.t 9) (.t 25) 2, none⟩]
[1, 2, 8, 9, 15, 16, 17])
(.seq (.reg [⟨some 26, .mov (.t 2), none⟩,
⟨some 27, .loadN (.t 8) 2, none⟩,
⟨some 28, .loadN (.t 9) 2, none⟩,
⟨some 29, .callv (.t 26) [.t 27, .t 28], none⟩,
⟨some 30, .un .not (.t 29), none⟩]
[1, 2, 15, 16, 17, 30])
(.cond (.t 30)
(.seq (.reg [⟨some 6, .mov (.k (.bool false)), none⟩]
[6])
.ret)
.skip)))))
(.reg [⟨some 31, .bin .add (.t 17) (.k (.int .i64 1)), none⟩,
⟨some 17, .mov (.t 31), none⟩]
[1, 2, 15, 16, 17])))))))
(.seq (.reg [⟨some 6, .mov (.k (.bool true)), none⟩]
[6])
.ret))))⟩
theorem k_slices_EqualFunc_api_Decl_api_Decl_api_Decl_api_Decl : chkF Go.Proofs.Tryz.prog Go.Proofs.Tryz.f85 c_slices_EqualFunc_api_Decl_api_Decl_api_Decl_api_Decl = true := by kernel_rfl
end Go.Proofs.YtgdlgdchdohdoaaGreatDoor.Ab
