/-
  The table of abstract codes by which the example of chapter 44 is run, by program (mkx.py). No claim is proved here.
-/
import Derived.Test.YtgdlgdchdohdoaaGreatDoorQAbX
import Derived.Test.YtgdlgdchdohdoaaGreatDoorQAcR
namespace Go.Proofs.YtgdlgdchdohdoaaGreatDoor.Ab
open Go
def xtab : XTab := [
  (n_proctorlaw44_BatchJoint, ⟨c_proctorlaw44_BatchJoint, 0, [87, 86, 85, 84, 83, 82, 81, 80, 79, 78, 77, 76]⟩),
  (n_proctorlaw44_awake, ⟨c_proctorlaw44_awake, 0, [36, 35, 34, 33, 32, 31, 30, 29, 28, 27, 26, 25]⟩),
  (n_proctorref32_Right, ⟨c_proctorref32_Right, 0, [21, 20, 19, 18, 17, 16, 15, 14, 13, 12, 11, 10]⟩),
  (n_batch_Joint, ⟨c_batch_Joint, 0, [63, 62, 59, 58, 57, 56, 53, 52, 51, 50, 49, 48]⟩),
  (n_batch_joint, ⟨c_batch_joint, 0, [15, 14, 13, 12, 11, 10, 9, 8, 7, 6, 4, 3]⟩),
  (n_verdict_Name, ⟨c_verdict_Name, 0, [12, 11, 10, 9, 8, 7, 6, 5, 4, 3, 2, 1]⟩),
  (n_slices_Contains_int_int, ⟨c_slices_Contains_int_int, 0, [8, 7, 6, 5, 4, 3, 2]⟩),
  (n_slices_Index_int_int, ⟨c_slices_Index_int_int, 0, [18, 17, 16, 15, 14, 13, 12, 11, 10, 9, 8, 7]⟩),
  (n_batch_Groups, ⟨c_batch_Groups, 0, [51, 50, 49, 46, 45, 44, 43, 42, 41, 40, 36, 35]⟩),
  (n_batch_Groups_1, ⟨c_batch_Groups_1, 0, [6, 5, 4, 3]⟩),
  (n_slices_IndexFunc_batch_read_batch_read, ⟨c_slices_IndexFunc_batch_read_batch_read, 0, [18, 17, 16, 15, 14, 13, 12, 11, 10, 9, 8, 7]⟩),
  (n_batch_alike, ⟨c_batch_alike, 0, [16, 15, 14, 13, 12, 11, 10, 9, 8, 7, 6, 5]⟩),
  (n_check_Read, ⟨c_check_Read, 0, [19, 18, 17, 16, 15, 14, 13, 12, 11, 10, 9, 8]⟩),
  (n_parse_Parse, ⟨c_parse_Parse, 0, [15, 14, 13, 12, 11, 10, 9, 8, 7, 6, 1]⟩),
  (n_parse_Parse_1, ⟨c_parse_Parse_1, 1, [9, 8, 7, 6, 5, 4, 3, 2]⟩),
  (n_parse_run, ⟨c_parse_run, 1, [42, 41, 40, 39, 38, 37, 36, 35, 34, 33, 32, 31]⟩),
  (n_lex_All, ⟨c_lex_All, 0, [66, 65, 64, 63, 62, 61, 60, 59, 58, 57, 56, 55]⟩),
  (n_lex_blank, ⟨c_lex_blank, 0, [33, 32, 31, 30, 29, 28, 27, 26, 25, 24, 23, 22]⟩),
  (n_lex_blank_1, ⟨c_lex_blank_1, 0, [16, 15, 14, 13, 12, 11, 10, 9, 8, 7, 6, 5]⟩),
  (n_lex_move, ⟨c_lex_move, 0, [25, 24, 23, 22, 21, 20, 19, 18, 17, 16, 15, 14]⟩),
  (n_lex_first, ⟨c_lex_first, 0, [51, 50, 49, 48, 47, 46, 45, 44, 43, 42, 41, 40]⟩),
  (n_lex_letters, ⟨c_lex_letters, 0, [30, 29, 28, 27, 26, 25, 24, 23, 22, 21, 20, 19]⟩),
  (n_lex_isLetter, ⟨c_lex_isLetter, 0, [28, 27, 26, 25, 24, 23, 22, 21, 20, 19, 18, 17]⟩),
  (n_strings_LastIndexByte, ⟨c_strings_LastIndexByte, 0, [7, 6, 5, 4, 3, 2]⟩),
  (n_internal_bytealg_LastIndexByteString, ⟨c_internal_bytealg_LastIndexByteString, 0, [18, 17, 16, 15, 14, 13, 12, 11, 10, 9, 8, 7]⟩),
  (n_schema_Word, ⟨c_schema_Word, 0, [9, 8, 7, 6, 5, 4, 3, 2, 1]⟩),
  (n_slices_Contains_string_string, ⟨c_slices_Contains_string_string, 0, [8, 7, 6, 5, 4, 3, 2]⟩),
  (n_slices_Index_string_string, ⟨c_slices_Index_string_string, 0, [18, 17, 16, 15, 14, 13, 12, 11, 10, 9, 8, 7]⟩),
  (n_errors_As, ⟨c_errors_As, 0, [41, 40, 39, 38, 37, 36, 35, 34, 33, 32, 31, 30]⟩),
  (n_parse_parser_spec, ⟨c_parse_parser_spec, 1, [46, 45, 44, 43, 40, 39, 38, 37, 36, 35, 34, 33]⟩),
  (n_parse_parser_head, ⟨c_parse_parser_head, 1, [32, 31, 30, 29, 28, 27, 26, 25, 24, 23, 22, 21]⟩),
  (n_parse_parser_head_1, ⟨c_parse_parser_head_1, 1, [4, 2, 1]⟩),
  (n_parse_parser_head_2, ⟨c_parse_parser_head_2, 1, [9, 8, 7, 6, 5, 4, 3, 2]⟩),
  (n_parse_parser_head_3, ⟨c_parse_parser_head_3, 1, [11, 10, 9, 8, 7, 6, 4, 3, 2]⟩),
  (n_parse_parser_head_4, ⟨c_parse_parser_head_4, 1, [11, 10, 9, 8, 7, 6, 4, 3, 2]⟩),
  (n_parse_parser_head_5, ⟨c_parse_parser_head_5, 1, [11, 10, 9, 8, 7, 6, 4, 3, 2]⟩),
  (n_parse_parser_head_6, ⟨c_parse_parser_head_6, 1, [11, 10, 9, 8, 7, 6, 4, 3, 2]⟩),
  (n_parse_parser_head_6_1, ⟨c_parse_parser_head_6_1, 1, [10, 9, 8, 7, 6, 5, 4, 2]⟩),
  (n_parse_parser_head_7, ⟨c_parse_parser_head_7, 1, [4, 2, 1]⟩),
  (n_parse_parser_head_8, ⟨c_parse_parser_head_8, 1, [9, 8, 7, 6, 5, 4, 3, 2]⟩),
  (n_parse_parser_head_9, ⟨c_parse_parser_head_9, 1, [11, 10, 9, 8, 7, 6, 4, 3, 2]⟩),
  (n_parse_parser_want, ⟨c_parse_parser_want, 1, [19, 18, 17, 16, 15, 14, 13, 12, 11, 10, 9, 8]⟩),
  (n_parse_parser_name, ⟨c_parse_parser_name, 1, [37, 36, 35, 34, 33, 32, 31, 30, 29, 28, 27, 26]⟩),
  (n_parse_parser_take, ⟨c_parse_parser_take, 2, [18, 17, 16, 15, 14, 13, 12, 11, 10, 9, 8, 7]⟩),
  (n_parse_parser_is, ⟨c_parse_parser_is, 0, [24, 23, 22, 21, 20, 19, 18, 17, 16, 15, 14, 13]⟩),
  (n_parse_parser_state, ⟨c_parse_parser_state, 1, [22, 21, 20, 19, 18, 17, 16, 15, 14, 13, 12, 11]⟩),
  (n_parse_place_peek, ⟨c_parse_place_peek, 0, [53, 52, 51, 50, 49, 48, 47, 46, 45, 44, 43, 42]⟩),
  (n_parse_many_api_TreeDecl, ⟨c_parse_many_api_TreeDecl, 1, [42, 41, 40, 39, 38, 37, 36, 35, 34, 33, 32, 31]⟩),
  (n_parse_many_api_TreeQuant, ⟨c_parse_many_api_TreeQuant, 1, [42, 41, 40, 39, 38, 37, 36, 35, 34, 33, 32, 31]⟩),
  (n_parse_many_api_TreeFree, ⟨c_parse_many_api_TreeFree, 1, [42, 41, 40, 39, 38, 37, 36, 35, 34, 33, 32, 31]⟩),
  (n_parse_many_api_TreeState, ⟨c_parse_many_api_TreeState, 1, [42, 41, 40, 39, 38, 37, 36, 35, 34, 33, 32, 31]⟩),
  (n_parse_many_api_TreeSymbol, ⟨c_parse_many_api_TreeSymbol, 1, [42, 41, 40, 39, 38, 37, 36, 35, 34, 33, 32, 31]⟩),
  (n_check_Lower, ⟨c_check_Lower, 0, [38, 37, 36, 35, 34, 33, 32, 31, 30, 29, 28, 27]⟩),
  (n_check_checker_run, ⟨c_check_checker_run, 1, [36, 35, 34, 33, 32, 31, 30, 29, 28, 27, 26, 25]⟩),
  (n_check_checker_run_1, ⟨c_check_checker_run_1, 1, [7, 6, 5, 4, 3, 2]⟩),
  (n_check_checker_run_2, ⟨c_check_checker_run_2, 1, [7, 6, 5, 4, 3, 2]⟩),
  (n_check_checker_run_3, ⟨c_check_checker_run_3, 1, [7, 6, 5, 4, 3, 2]⟩),
  (n_check_checker_run_4, ⟨c_check_checker_run_4, 1, [7, 6, 5, 4, 3, 2]⟩),
  (n_check_checker_run_5, ⟨c_check_checker_run_5, 1, [14, 13, 12, 11, 10, 9, 8, 7, 6, 5, 4, 3]⟩),
  (n_check_checker_run_6, ⟨c_check_checker_run_6, 1, [6, 5, 4, 3, 2]⟩),
  (n_check_checker_run_7, ⟨c_check_checker_run_7, 1, [7, 6, 5, 4, 3, 2]⟩),
  (n_check_checker_run_8, ⟨c_check_checker_run_8, 1, [6, 5, 4, 3, 2]⟩),
  (n_check_checker_state, ⟨c_check_checker_state, 1, [39, 38, 37, 36, 35, 34, 33, 32, 31, 30, 29, 28]⟩),
  (n_check_checker_find, ⟨c_check_checker_find, 0, [22, 21, 20, 19, 18, 17, 16, 15, 14, 13, 12, 11]⟩),
  (n_check_checker_stands, ⟨c_check_checker_stands, 0, [25, 24, 23, 22, 21, 20, 19, 18, 17, 16, 15, 14]⟩),
  (n_check_checker_order, ⟨c_check_checker_order, 1, [105, 104, 103, 102, 101, 100, 99, 98, 97, 96, 95, 94]⟩),
  (n_check_each_api_TreeDecl, ⟨c_check_each_api_TreeDecl, 1, [20, 19, 18, 17, 16, 15, 14, 13, 12, 11, 10, 9]⟩),
  (n_check_each_api_TreeQuant, ⟨c_check_each_api_TreeQuant, 1, [20, 19, 18, 17, 16, 15, 14, 13, 12, 11, 10, 9]⟩),
  (n_check_each_api_TreeFree, ⟨c_check_each_api_TreeFree, 1, [20, 19, 18, 17, 16, 15, 14, 13, 12, 11, 10, 9]⟩),
  (n_check_each_api_TreeState, ⟨c_check_each_api_TreeState, 1, [20, 19, 18, 17, 16, 15, 14, 13, 12, 11, 10, 9]⟩),
  (n_check_each_api_TreeSymbol, ⟨c_check_each_api_TreeSymbol, 1, [20, 19, 18, 17, 16, 15, 14, 13, 12, 11, 10, 9]⟩),
  (n_check_each_api_TreeTrans, ⟨c_check_each_api_TreeTrans, 1, [20, 19, 18, 17, 16, 15, 14, 13, 12, 11, 10, 9]⟩),
  (n_check_fresh_int, ⟨c_check_fresh_int, 1, [31, 30, 29, 28, 27, 26, 25, 24, 23, 22, 21, 20]⟩),
  (n_tree_Right, ⟨c_tree_Right, 0, [40, 39, 38, 37, 36, 35, 34, 33, 32, 31, 30, 29]⟩),
  (n_tree_Right_4, ⟨c_tree_Right_4, 0, [5, 4, 3, 2]⟩),
  (n_tree_name, ⟨c_tree_name, 0, [5, 4, 3, 2]⟩),
  (n_tree_all_api_TreeDecl, ⟨c_tree_all_api_TreeDecl, 0, [8, 7, 6, 5, 4, 2]⟩),
  (n_tree_all_api_TreeQuant, ⟨c_tree_all_api_TreeQuant, 0, [8, 7, 6, 5, 4, 2]⟩),
  (n_tree_all_api_TreeFree, ⟨c_tree_all_api_TreeFree, 0, [8, 7, 6, 5, 4, 2]⟩),
  (n_tree_all_api_TreeState, ⟨c_tree_all_api_TreeState, 0, [8, 7, 6, 5, 4, 2]⟩),
  (n_tree_all_api_TreeSymbol, ⟨c_tree_all_api_TreeSymbol, 0, [8, 7, 6, 5, 4, 2]⟩),
  (n_tree_all_api_TreeTrans, ⟨c_tree_all_api_TreeTrans, 0, [8, 7, 6, 5, 4, 2]⟩),
  (n_tree_all_api_TreeState_1, ⟨c_tree_all_api_TreeState_1, 0, [7, 6, 5, 4, 3]⟩),
  (n_slices_ContainsFunc_api_TreeDecl_api_TreeDecl, ⟨c_slices_ContainsFunc_api_TreeDecl_api_TreeDecl, 0, [8, 7, 6, 5, 4, 3, 2]⟩),
  (n_slices_ContainsFunc_api_TreeQuant_api_TreeQuant, ⟨c_slices_ContainsFunc_api_TreeQuant_api_TreeQuant, 0, [8, 7, 6, 5, 4, 3, 2]⟩),
  (n_slices_ContainsFunc_api_TreeFree_api_TreeFree, ⟨c_slices_ContainsFunc_api_TreeFree_api_TreeFree, 0, [8, 7, 6, 5, 4, 3, 2]⟩),
  (n_slices_ContainsFunc_api_TreeState_api_TreeState, ⟨c_slices_ContainsFunc_api_TreeState_api_TreeState, 0, [8, 7, 6, 5, 4, 3, 2]⟩),
  (n_slices_ContainsFunc_api_TreeSymbol_api_TreeSymbol, ⟨c_slices_ContainsFunc_api_TreeSymbol_api_TreeSymbol, 0, [8, 7, 6, 5, 4, 3, 2]⟩),
  (n_slices_ContainsFunc_api_TreeTrans_api_TreeTrans, ⟨c_slices_ContainsFunc_api_TreeTrans_api_TreeTrans, 0, [8, 7, 6, 5, 4, 3, 2]⟩),
  (n_slices_IndexFunc_api_TreeDecl_api_TreeDecl, ⟨c_slices_IndexFunc_api_TreeDecl_api_TreeDecl, 0, [18, 17, 16, 15, 14, 13, 12, 11, 10, 9, 8, 7]⟩),
  (n_slices_IndexFunc_api_TreeQuant_api_TreeQuant, ⟨c_slices_IndexFunc_api_TreeQuant_api_TreeQuant, 0, [18, 17, 16, 15, 14, 13, 12, 11, 10, 9, 8, 7]⟩),
  (n_slices_IndexFunc_api_TreeFree_api_TreeFree, ⟨c_slices_IndexFunc_api_TreeFree_api_TreeFree, 0, [18, 17, 16, 15, 14, 13, 12, 11, 10, 9, 8, 7]⟩),
  (n_slices_IndexFunc_api_TreeState_api_TreeState, ⟨c_slices_IndexFunc_api_TreeState_api_TreeState, 0, [18, 17, 16, 15, 14, 13, 12, 11, 10, 9, 8, 7]⟩),
  (n_slices_IndexFunc_api_TreeSymbol_api_TreeSymbol, ⟨c_slices_IndexFunc_api_TreeSymbol_api_TreeSymbol, 0, [18, 17, 16, 15, 14, 13, 12, 11, 10, 9, 8, 7]⟩),
  (n_slices_IndexFunc_api_TreeTrans_api_TreeTrans, ⟨c_slices_IndexFunc_api_TreeTrans_api_TreeTrans, 0, [18, 17, 16, 15, 14, 13, 12, 11, 10, 9, 8, 7]⟩),
  (n_schema_Name, ⟨c_schema_Name, 0, [13, 12, 11, 10, 9, 8, 7, 6, 5, 4, 3, 2]⟩),
  (n_schema_Spelt, ⟨c_schema_Spelt, 0, [24, 23, 22, 21, 20, 19, 18, 17, 16, 15, 14, 13]⟩),
  (n_schema_Spelt_1, ⟨c_schema_Spelt_1, 0, [28, 27, 26, 25, 24, 23, 22, 21, 20, 19, 18, 17]⟩),
  (n_strings_IndexFunc, ⟨c_strings_IndexFunc, 0, [7, 6, 5, 4, 3, 2]⟩),
  (n_strings_indexFunc, ⟨c_strings_indexFunc, 0, [20, 19, 18, 17, 16, 15, 14, 13, 12, 11, 9, 8]⟩),
  (n_core_Same, ⟨c_core_Same, 0, [65, 64, 63, 62, 61, 60, 59, 58, 57, 56, 55, 54]⟩),
  (n_core_sameSymbol, ⟨c_core_sameSymbol, 0, [16, 15, 14, 13, 12, 11, 10, 9, 8, 7, 6, 5]⟩),
  (n_core_Same_1, ⟨c_core_Same_1, 0, [37, 36, 35, 34, 33, 32, 31, 30, 29, 28, 27, 26]⟩),
  (n_schema_Same, ⟨c_schema_Same, 0, [7, 6, 5, 4, 3, 2]⟩),
  (n_schema_Same_1, ⟨c_schema_Same_1, 0, [16, 15, 14, 13, 12, 11, 10, 9, 8, 7, 6, 5]⟩),
  (n_slices_Equal_api_Quant_api_Quant, ⟨c_slices_Equal_api_Quant_api_Quant, 0, [25, 24, 23, 22, 21, 20, 19, 18, 17, 16, 15, 14]⟩),
  (n_slices_Equal_api_Free_api_Free, ⟨c_slices_Equal_api_Free_api_Free, 0, [25, 24, 23, 22, 21, 20, 19, 18, 17, 16, 15, 14]⟩),
  (n_slices_Equal_api_State_api_State, ⟨c_slices_Equal_api_State_api_State, 0, [25, 24, 23, 22, 21, 20, 19, 18, 17, 16, 15, 14]⟩),
  (n_slices_Equal_api_Node_api_Node, ⟨c_slices_Equal_api_Node_api_Node, 0, [25, 24, 23, 22, 21, 20, 19, 18, 17, 16, 15, 14]⟩),
  (n_slices_EqualFunc_api_Symbol_api_Symbol_api_Symbol_api_Symbol, ⟨c_slices_EqualFunc_api_Symbol_api_Symbol_api_Symbol_api_Symbol, 0, [31, 30, 29, 28, 27, 26, 25, 24, 23, 22, 21, 20]⟩),
  (n_slices_EqualFunc_api_Trans_api_Trans_api_Trans_api_Trans, ⟨c_slices_EqualFunc_api_Trans_api_Trans_api_Trans_api_Trans, 0, [31, 30, 29, 28, 27, 26, 25, 24, 23, 22, 21, 20]⟩),
  (n_slices_EqualFunc_api_Decl_api_Decl_api_Decl_api_Decl, ⟨c_slices_EqualFunc_api_Decl_api_Decl_api_Decl_api_Decl, 0, [31, 30, 29, 28, 27, 26, 25, 24, 23, 22, 21, 20]⟩)]
theorem xt_proctorlaw44_BatchJoint : bodyB Tryz.prog n_proctorlaw44_BatchJoint = true ∧ ∃ fn, Tryz.prog.funcs[n_proctorlaw44_BatchJoint]? = some fn ∧ chkF Tryz.prog fn c_proctorlaw44_BatchJoint = true := ⟨by kernel_rfl, _, Go.Proofs.Tryz.func3, k_proctorlaw44_BatchJoint⟩
theorem xt_proctorlaw44_awake : bodyB Tryz.prog n_proctorlaw44_awake = true ∧ ∃ fn, Tryz.prog.funcs[n_proctorlaw44_awake]? = some fn ∧ chkF Tryz.prog fn c_proctorlaw44_awake = true := ⟨by kernel_rfl, _, Go.Proofs.Tryz.func4, k_proctorlaw44_awake⟩
theorem xt_proctorref32_Right : bodyB Tryz.prog n_proctorref32_Right = true ∧ ∃ fn, Tryz.prog.funcs[n_proctorref32_Right]? = some fn ∧ chkF Tryz.prog fn c_proctorref32_Right = true := ⟨by kernel_rfl, _, Go.Proofs.Tryz.func5, k_proctorref32_Right⟩
theorem xt_batch_Joint : bodyB Tryz.prog n_batch_Joint = true ∧ ∃ fn, Tryz.prog.funcs[n_batch_Joint]? = some fn ∧ chkF Tryz.prog fn c_batch_Joint = true := ⟨by kernel_rfl, _, Go.Proofs.Tryz.func6, k_batch_Joint⟩
theorem xt_batch_joint : bodyB Tryz.prog n_batch_joint = true ∧ ∃ fn, Tryz.prog.funcs[n_batch_joint]? = some fn ∧ chkF Tryz.prog fn c_batch_joint = true := ⟨by kernel_rfl, _, Go.Proofs.Tryz.func9, k_batch_joint⟩
theorem xt_verdict_Name : bodyB Tryz.prog n_verdict_Name = true ∧ ∃ fn, Tryz.prog.funcs[n_verdict_Name]? = some fn ∧ chkF Tryz.prog fn c_verdict_Name = true := ⟨by kernel_rfl, _, Go.Proofs.Tryz.func8, k_verdict_Name⟩
theorem xt_slices_Contains_int_int : bodyB Tryz.prog n_slices_Contains_int_int = true ∧ ∃ fn, Tryz.prog.funcs[n_slices_Contains_int_int]? = some fn ∧ chkF Tryz.prog fn c_slices_Contains_int_int = true := ⟨by kernel_rfl, _, Go.Proofs.Tryz.func14, k_slices_Contains_int_int⟩
theorem xt_slices_Index_int_int : bodyB Tryz.prog n_slices_Index_int_int = true ∧ ∃ fn, Tryz.prog.funcs[n_slices_Index_int_int]? = some fn ∧ chkF Tryz.prog fn c_slices_Index_int_int = true := ⟨by kernel_rfl, _, Go.Proofs.Tryz.func18, k_slices_Index_int_int⟩
theorem xt_batch_Groups : bodyB Tryz.prog n_batch_Groups = true ∧ ∃ fn, Tryz.prog.funcs[n_batch_Groups]? = some fn ∧ chkF Tryz.prog fn c_batch_Groups = true := ⟨by kernel_rfl, _, Go.Proofs.Tryz.func7, k_batch_Groups⟩
theorem xt_batch_Groups_1 : bodyB Tryz.prog n_batch_Groups_1 = true ∧ ∃ fn, Tryz.prog.funcs[n_batch_Groups_1]? = some fn ∧ chkF Tryz.prog fn c_batch_Groups_1 = true := ⟨by kernel_rfl, _, Go.Proofs.Tryz.func12, k_batch_Groups_1⟩
theorem xt_slices_IndexFunc_batch_read_batch_read : bodyB Tryz.prog n_slices_IndexFunc_batch_read_batch_read = true ∧ ∃ fn, Tryz.prog.funcs[n_slices_IndexFunc_batch_read_batch_read]? = some fn ∧ chkF Tryz.prog fn c_slices_IndexFunc_batch_read_batch_read = true := ⟨by kernel_rfl, _, Go.Proofs.Tryz.func11, k_slices_IndexFunc_batch_read_batch_read⟩
theorem xt_batch_alike : bodyB Tryz.prog n_batch_alike = true ∧ ∃ fn, Tryz.prog.funcs[n_batch_alike]? = some fn ∧ chkF Tryz.prog fn c_batch_alike = true := ⟨by kernel_rfl, _, Go.Proofs.Tryz.func13, k_batch_alike⟩
theorem xt_check_Read : bodyB Tryz.prog n_check_Read = true ∧ ∃ fn, Tryz.prog.funcs[n_check_Read]? = some fn ∧ chkF Tryz.prog fn c_check_Read = true := ⟨by kernel_rfl, _, Go.Proofs.Tryz.func10, k_check_Read⟩
theorem xt_parse_Parse : bodyB Tryz.prog n_parse_Parse = true ∧ ∃ fn, Tryz.prog.funcs[n_parse_Parse]? = some fn ∧ chkF Tryz.prog fn c_parse_Parse = true := ⟨by kernel_rfl, _, Go.Proofs.Tryz.func15, k_parse_Parse⟩
theorem xt_parse_Parse_1 : bodyB Tryz.prog n_parse_Parse_1 = true ∧ ∃ fn, Tryz.prog.funcs[n_parse_Parse_1]? = some fn ∧ chkF Tryz.prog fn c_parse_Parse_1 = true := ⟨by kernel_rfl, _, Go.Proofs.Tryz.func20, k_parse_Parse_1⟩
theorem xt_parse_run : bodyB Tryz.prog n_parse_run = true ∧ ∃ fn, Tryz.prog.funcs[n_parse_run]? = some fn ∧ chkF Tryz.prog fn c_parse_run = true := ⟨by kernel_rfl, _, Go.Proofs.Tryz.func19, k_parse_run⟩
theorem xt_lex_All : bodyB Tryz.prog n_lex_All = true ∧ ∃ fn, Tryz.prog.funcs[n_lex_All]? = some fn ∧ chkF Tryz.prog fn c_lex_All = true := ⟨by kernel_rfl, _, Go.Proofs.Tryz.func36, k_lex_All⟩
theorem xt_lex_blank : bodyB Tryz.prog n_lex_blank = true ∧ ∃ fn, Tryz.prog.funcs[n_lex_blank]? = some fn ∧ chkF Tryz.prog fn c_lex_blank = true := ⟨by kernel_rfl, _, Go.Proofs.Tryz.func89, k_lex_blank⟩
theorem xt_lex_blank_1 : bodyB Tryz.prog n_lex_blank_1 = true ∧ ∃ fn, Tryz.prog.funcs[n_lex_blank_1]? = some fn ∧ chkF Tryz.prog fn c_lex_blank_1 = true := ⟨by kernel_rfl, _, Go.Proofs.Tryz.func164, k_lex_blank_1⟩
theorem xt_lex_move : bodyB Tryz.prog n_lex_move = true ∧ ∃ fn, Tryz.prog.funcs[n_lex_move]? = some fn ∧ chkF Tryz.prog fn c_lex_move = true := ⟨by kernel_rfl, _, Go.Proofs.Tryz.func90, k_lex_move⟩
theorem xt_lex_first : bodyB Tryz.prog n_lex_first = true ∧ ∃ fn, Tryz.prog.funcs[n_lex_first]? = some fn ∧ chkF Tryz.prog fn c_lex_first = true := ⟨by kernel_rfl, _, Go.Proofs.Tryz.func91, k_lex_first⟩
theorem xt_lex_letters : bodyB Tryz.prog n_lex_letters = true ∧ ∃ fn, Tryz.prog.funcs[n_lex_letters]? = some fn ∧ chkF Tryz.prog fn c_lex_letters = true := ⟨by kernel_rfl, _, Go.Proofs.Tryz.func170, k_lex_letters⟩
theorem xt_lex_isLetter : bodyB Tryz.prog n_lex_isLetter = true ∧ ∃ fn, Tryz.prog.funcs[n_lex_isLetter]? = some fn ∧ chkF Tryz.prog fn c_lex_isLetter = true := ⟨by kernel_rfl, _, Go.Proofs.Tryz.func169, k_lex_isLetter⟩
theorem xt_strings_LastIndexByte : bodyB Tryz.prog n_strings_LastIndexByte = true ∧ ∃ fn, Tryz.prog.funcs[n_strings_LastIndexByte]? = some fn ∧ chkF Tryz.prog fn c_strings_LastIndexByte = true := ⟨by kernel_rfl, _, Go.Proofs.Tryz.func167, k_strings_LastIndexByte⟩
theorem xt_internal_bytealg_LastIndexByteString : bodyB Tryz.prog n_internal_bytealg_LastIndexByteString = true ∧ ∃ fn, Tryz.prog.funcs[n_internal_bytealg_LastIndexByteString]? = some fn ∧ chkF Tryz.prog fn c_internal_bytealg_LastIndexByteString = true := ⟨by kernel_rfl, _, Go.Proofs.Tryz.func207, k_internal_bytealg_LastIndexByteString⟩
theorem xt_schema_Word : bodyB Tryz.prog n_schema_Word = true ∧ ∃ fn, Tryz.prog.funcs[n_schema_Word]? = some fn ∧ chkF Tryz.prog fn c_schema_Word = true := ⟨by kernel_rfl, _, Go.Proofs.Tryz.func185, k_schema_Word⟩
theorem xt_slices_Contains_string_string : bodyB Tryz.prog n_slices_Contains_string_string = true ∧ ∃ fn, Tryz.prog.funcs[n_slices_Contains_string_string]? = some fn ∧ chkF Tryz.prog fn c_slices_Contains_string_string = true := ⟨by kernel_rfl, _, Go.Proofs.Tryz.func219, k_slices_Contains_string_string⟩
theorem xt_slices_Index_string_string : bodyB Tryz.prog n_slices_Index_string_string = true ∧ ∃ fn, Tryz.prog.funcs[n_slices_Index_string_string]? = some fn ∧ chkF Tryz.prog fn c_slices_Index_string_string = true := ⟨by kernel_rfl, _, Go.Proofs.Tryz.func235, k_slices_Index_string_string⟩
theorem xt_errors_As : bodyB Tryz.prog n_errors_As = true ∧ ∃ fn, Tryz.prog.funcs[n_errors_As]? = some fn ∧ chkF Tryz.prog fn c_errors_As = true := ⟨by kernel_rfl, _, Go.Proofs.Tryz.func23, k_errors_As⟩
theorem xt_parse_parser_spec : bodyB Tryz.prog n_parse_parser_spec = true ∧ ∃ fn, Tryz.prog.funcs[n_parse_parser_spec]? = some fn ∧ chkF Tryz.prog fn c_parse_parser_spec = true := ⟨by kernel_rfl, _, Go.Proofs.Tryz.func21, k_parse_parser_spec⟩
theorem xt_parse_parser_head : bodyB Tryz.prog n_parse_parser_head = true ∧ ∃ fn, Tryz.prog.funcs[n_parse_parser_head]? = some fn ∧ chkF Tryz.prog fn c_parse_parser_head = true := ⟨by kernel_rfl, _, Go.Proofs.Tryz.func38, k_parse_parser_head⟩
theorem xt_parse_parser_head_1 : bodyB Tryz.prog n_parse_parser_head_1 = true ∧ ∃ fn, Tryz.prog.funcs[n_parse_parser_head_1]? = some fn ∧ chkF Tryz.prog fn c_parse_parser_head_1 = true := ⟨by kernel_rfl, _, Go.Proofs.Tryz.func92, k_parse_parser_head_1⟩
theorem xt_parse_parser_head_2 : bodyB Tryz.prog n_parse_parser_head_2 = true ∧ ∃ fn, Tryz.prog.funcs[n_parse_parser_head_2]? = some fn ∧ chkF Tryz.prog fn c_parse_parser_head_2 = true := ⟨by kernel_rfl, _, Go.Proofs.Tryz.func94, k_parse_parser_head_2⟩
theorem xt_parse_parser_head_3 : bodyB Tryz.prog n_parse_parser_head_3 = true ∧ ∃ fn, Tryz.prog.funcs[n_parse_parser_head_3]? = some fn ∧ chkF Tryz.prog fn c_parse_parser_head_3 = true := ⟨by kernel_rfl, _, Go.Proofs.Tryz.func96, k_parse_parser_head_3⟩
theorem xt_parse_parser_head_4 : bodyB Tryz.prog n_parse_parser_head_4 = true ∧ ∃ fn, Tryz.prog.funcs[n_parse_parser_head_4]? = some fn ∧ chkF Tryz.prog fn c_parse_parser_head_4 = true := ⟨by kernel_rfl, _, Go.Proofs.Tryz.func100, k_parse_parser_head_4⟩
theorem xt_parse_parser_head_5 : bodyB Tryz.prog n_parse_parser_head_5 = true ∧ ∃ fn, Tryz.prog.funcs[n_parse_parser_head_5]? = some fn ∧ chkF Tryz.prog fn c_parse_parser_head_5 = true := ⟨by kernel_rfl, _, Go.Proofs.Tryz.func104, k_parse_parser_head_5⟩
theorem xt_parse_parser_head_6 : bodyB Tryz.prog n_parse_parser_head_6 = true ∧ ∃ fn, Tryz.prog.funcs[n_parse_parser_head_6]? = some fn ∧ chkF Tryz.prog fn c_parse_parser_head_6 = true := ⟨by kernel_rfl, _, Go.Proofs.Tryz.func108, k_parse_parser_head_6⟩
theorem xt_parse_parser_head_6_1 : bodyB Tryz.prog n_parse_parser_head_6_1 = true ∧ ∃ fn, Tryz.prog.funcs[n_parse_parser_head_6_1]? = some fn ∧ chkF Tryz.prog fn c_parse_parser_head_6_1 = true := ⟨by kernel_rfl, _, Go.Proofs.Tryz.func110, k_parse_parser_head_6_1⟩
theorem xt_parse_parser_head_7 : bodyB Tryz.prog n_parse_parser_head_7 = true ∧ ∃ fn, Tryz.prog.funcs[n_parse_parser_head_7]? = some fn ∧ chkF Tryz.prog fn c_parse_parser_head_7 = true := ⟨by kernel_rfl, _, Go.Proofs.Tryz.func112, k_parse_parser_head_7⟩
theorem xt_parse_parser_head_8 : bodyB Tryz.prog n_parse_parser_head_8 = true ∧ ∃ fn, Tryz.prog.funcs[n_parse_parser_head_8]? = some fn ∧ chkF Tryz.prog fn c_parse_parser_head_8 = true := ⟨by kernel_rfl, _, Go.Proofs.Tryz.func113, k_parse_parser_head_8⟩
theorem xt_parse_parser_head_9 : bodyB Tryz.prog n_parse_parser_head_9 = true ∧ ∃ fn, Tryz.prog.funcs[n_parse_parser_head_9]? = some fn ∧ chkF Tryz.prog fn c_parse_parser_head_9 = true := ⟨by kernel_rfl, _, Go.Proofs.Tryz.func114, k_parse_parser_head_9⟩
theorem xt_parse_parser_want : bodyB Tryz.prog n_parse_parser_want = true ∧ ∃ fn, Tryz.prog.funcs[n_parse_parser_want]? = some fn ∧ chkF Tryz.prog fn c_parse_parser_want = true := ⟨by kernel_rfl, _, Go.Proofs.Tryz.func93, k_parse_parser_want⟩
theorem xt_parse_parser_name : bodyB Tryz.prog n_parse_parser_name = true ∧ ∃ fn, Tryz.prog.funcs[n_parse_parser_name]? = some fn ∧ chkF Tryz.prog fn c_parse_parser_name = true := ⟨by kernel_rfl, _, Go.Proofs.Tryz.func95, k_parse_parser_name⟩
theorem xt_parse_parser_take : bodyB Tryz.prog n_parse_parser_take = true ∧ ∃ fn, Tryz.prog.funcs[n_parse_parser_take]? = some fn ∧ chkF Tryz.prog fn c_parse_parser_take = true := ⟨by kernel_rfl, _, Go.Proofs.Tryz.func119, k_parse_parser_take⟩
theorem xt_parse_parser_is : bodyB Tryz.prog n_parse_parser_is = true ∧ ∃ fn, Tryz.prog.funcs[n_parse_parser_is]? = some fn ∧ chkF Tryz.prog fn c_parse_parser_is = true := ⟨by kernel_rfl, _, Go.Proofs.Tryz.func180, k_parse_parser_is⟩
theorem xt_parse_parser_state : bodyB Tryz.prog n_parse_parser_state = true ∧ ∃ fn, Tryz.prog.funcs[n_parse_parser_state]? = some fn ∧ chkF Tryz.prog fn c_parse_parser_state = true := ⟨by kernel_rfl, _, Go.Proofs.Tryz.func111, k_parse_parser_state⟩
theorem xt_parse_place_peek : bodyB Tryz.prog n_parse_place_peek = true ∧ ∃ fn, Tryz.prog.funcs[n_parse_place_peek]? = some fn ∧ chkF Tryz.prog fn c_parse_place_peek = true := ⟨by kernel_rfl, _, Go.Proofs.Tryz.func173, k_parse_place_peek⟩
theorem xt_parse_many_api_TreeDecl : bodyB Tryz.prog n_parse_many_api_TreeDecl = true ∧ ∃ fn, Tryz.prog.funcs[n_parse_many_api_TreeDecl]? = some fn ∧ chkF Tryz.prog fn c_parse_many_api_TreeDecl = true := ⟨by kernel_rfl, _, Go.Proofs.Tryz.func97, k_parse_many_api_TreeDecl⟩
theorem xt_parse_many_api_TreeQuant : bodyB Tryz.prog n_parse_many_api_TreeQuant = true ∧ ∃ fn, Tryz.prog.funcs[n_parse_many_api_TreeQuant]? = some fn ∧ chkF Tryz.prog fn c_parse_many_api_TreeQuant = true := ⟨by kernel_rfl, _, Go.Proofs.Tryz.func101, k_parse_many_api_TreeQuant⟩
theorem xt_parse_many_api_TreeFree : bodyB Tryz.prog n_parse_many_api_TreeFree = true ∧ ∃ fn, Tryz.prog.funcs[n_parse_many_api_TreeFree]? = some fn ∧ chkF Tryz.prog fn c_parse_many_api_TreeFree = true := ⟨by kernel_rfl, _, Go.Proofs.Tryz.func105, k_parse_many_api_TreeFree⟩
theorem xt_parse_many_api_TreeState : bodyB Tryz.prog n_parse_many_api_TreeState = true ∧ ∃ fn, Tryz.prog.funcs[n_parse_many_api_TreeState]? = some fn ∧ chkF Tryz.prog fn c_parse_many_api_TreeState = true := ⟨by kernel_rfl, _, Go.Proofs.Tryz.func109, k_parse_many_api_TreeState⟩
theorem xt_parse_many_api_TreeSymbol : bodyB Tryz.prog n_parse_many_api_TreeSymbol = true ∧ ∃ fn, Tryz.prog.funcs[n_parse_many_api_TreeSymbol]? = some fn ∧ chkF Tryz.prog fn c_parse_many_api_TreeSymbol = true := ⟨by kernel_rfl, _, Go.Proofs.Tryz.func115, k_parse_many_api_TreeSymbol⟩
theorem xt_check_Lower : bodyB Tryz.prog n_check_Lower = true ∧ ∃ fn, Tryz.prog.funcs[n_check_Lower]? = some fn ∧ chkF Tryz.prog fn c_check_Lower = true := ⟨by kernel_rfl, _, Go.Proofs.Tryz.func16, k_check_Lower⟩
theorem xt_check_checker_run : bodyB Tryz.prog n_check_checker_run = true ∧ ∃ fn, Tryz.prog.funcs[n_check_checker_run]? = some fn ∧ chkF Tryz.prog fn c_check_checker_run = true := ⟨by kernel_rfl, _, Go.Proofs.Tryz.func24, k_check_checker_run⟩
theorem xt_check_checker_run_1 : bodyB Tryz.prog n_check_checker_run_1 = true ∧ ∃ fn, Tryz.prog.funcs[n_check_checker_run_1]? = some fn ∧ chkF Tryz.prog fn c_check_checker_run_1 = true := ⟨by kernel_rfl, _, Go.Proofs.Tryz.func60, k_check_checker_run_1⟩
theorem xt_check_checker_run_2 : bodyB Tryz.prog n_check_checker_run_2 = true ∧ ∃ fn, Tryz.prog.funcs[n_check_checker_run_2]? = some fn ∧ chkF Tryz.prog fn c_check_checker_run_2 = true := ⟨by kernel_rfl, _, Go.Proofs.Tryz.func63, k_check_checker_run_2⟩
theorem xt_check_checker_run_3 : bodyB Tryz.prog n_check_checker_run_3 = true ∧ ∃ fn, Tryz.prog.funcs[n_check_checker_run_3]? = some fn ∧ chkF Tryz.prog fn c_check_checker_run_3 = true := ⟨by kernel_rfl, _, Go.Proofs.Tryz.func66, k_check_checker_run_3⟩
theorem xt_check_checker_run_4 : bodyB Tryz.prog n_check_checker_run_4 = true ∧ ∃ fn, Tryz.prog.funcs[n_check_checker_run_4]? = some fn ∧ chkF Tryz.prog fn c_check_checker_run_4 = true := ⟨by kernel_rfl, _, Go.Proofs.Tryz.func69, k_check_checker_run_4⟩
theorem xt_check_checker_run_5 : bodyB Tryz.prog n_check_checker_run_5 = true ∧ ∃ fn, Tryz.prog.funcs[n_check_checker_run_5]? = some fn ∧ chkF Tryz.prog fn c_check_checker_run_5 = true := ⟨by kernel_rfl, _, Go.Proofs.Tryz.func72, k_check_checker_run_5⟩
theorem xt_check_checker_run_6 : bodyB Tryz.prog n_check_checker_run_6 = true ∧ ∃ fn, Tryz.prog.funcs[n_check_checker_run_6]? = some fn ∧ chkF Tryz.prog fn c_check_checker_run_6 = true := ⟨by kernel_rfl, _, Go.Proofs.Tryz.func74, k_check_checker_run_6⟩
theorem xt_check_checker_run_7 : bodyB Tryz.prog n_check_checker_run_7 = true ∧ ∃ fn, Tryz.prog.funcs[n_check_checker_run_7]? = some fn ∧ chkF Tryz.prog fn c_check_checker_run_7 = true := ⟨by kernel_rfl, _, Go.Proofs.Tryz.func78, k_check_checker_run_7⟩
theorem xt_check_checker_run_8 : bodyB Tryz.prog n_check_checker_run_8 = true ∧ ∃ fn, Tryz.prog.funcs[n_check_checker_run_8]? = some fn ∧ chkF Tryz.prog fn c_check_checker_run_8 = true := ⟨by kernel_rfl, _, Go.Proofs.Tryz.func81, k_check_checker_run_8⟩
theorem xt_check_checker_state : bodyB Tryz.prog n_check_checker_state = true ∧ ∃ fn, Tryz.prog.funcs[n_check_checker_state]? = some fn ∧ chkF Tryz.prog fn c_check_checker_state = true := ⟨by kernel_rfl, _, Go.Proofs.Tryz.func71, k_check_checker_state⟩
theorem xt_check_checker_find : bodyB Tryz.prog n_check_checker_find = true ∧ ∃ fn, Tryz.prog.funcs[n_check_checker_find]? = some fn ∧ chkF Tryz.prog fn c_check_checker_find = true := ⟨by kernel_rfl, _, Go.Proofs.Tryz.func73, k_check_checker_find⟩
theorem xt_check_checker_stands : bodyB Tryz.prog n_check_checker_stands = true ∧ ∃ fn, Tryz.prog.funcs[n_check_checker_stands]? = some fn ∧ chkF Tryz.prog fn c_check_checker_stands = true := ⟨by kernel_rfl, _, Go.Proofs.Tryz.func82, k_check_checker_stands⟩
theorem xt_check_checker_order : bodyB Tryz.prog n_check_checker_order = true ∧ ∃ fn, Tryz.prog.funcs[n_check_checker_order]? = some fn ∧ chkF Tryz.prog fn c_check_checker_order = true := ⟨by kernel_rfl, _, Go.Proofs.Tryz.func83, k_check_checker_order⟩
theorem xt_check_each_api_TreeDecl : bodyB Tryz.prog n_check_each_api_TreeDecl = true ∧ ∃ fn, Tryz.prog.funcs[n_check_each_api_TreeDecl]? = some fn ∧ chkF Tryz.prog fn c_check_each_api_TreeDecl = true := ⟨by kernel_rfl, _, Go.Proofs.Tryz.func61, k_check_each_api_TreeDecl⟩
theorem xt_check_each_api_TreeQuant : bodyB Tryz.prog n_check_each_api_TreeQuant = true ∧ ∃ fn, Tryz.prog.funcs[n_check_each_api_TreeQuant]? = some fn ∧ chkF Tryz.prog fn c_check_each_api_TreeQuant = true := ⟨by kernel_rfl, _, Go.Proofs.Tryz.func64, k_check_each_api_TreeQuant⟩
theorem xt_check_each_api_TreeFree : bodyB Tryz.prog n_check_each_api_TreeFree = true ∧ ∃ fn, Tryz.prog.funcs[n_check_each_api_TreeFree]? = some fn ∧ chkF Tryz.prog fn c_check_each_api_TreeFree = true := ⟨by kernel_rfl, _, Go.Proofs.Tryz.func67, k_check_each_api_TreeFree⟩
theorem xt_check_each_api_TreeState : bodyB Tryz.prog n_check_each_api_TreeState = true ∧ ∃ fn, Tryz.prog.funcs[n_check_each_api_TreeState]? = some fn ∧ chkF Tryz.prog fn c_check_each_api_TreeState = true := ⟨by kernel_rfl, _, Go.Proofs.Tryz.func70, k_check_each_api_TreeState⟩
theorem xt_check_each_api_TreeSymbol : bodyB Tryz.prog n_check_each_api_TreeSymbol = true ∧ ∃ fn, Tryz.prog.funcs[n_check_each_api_TreeSymbol]? = some fn ∧ chkF Tryz.prog fn c_check_each_api_TreeSymbol = true := ⟨by kernel_rfl, _, Go.Proofs.Tryz.func75, k_check_each_api_TreeSymbol⟩
theorem xt_check_each_api_TreeTrans : bodyB Tryz.prog n_check_each_api_TreeTrans = true ∧ ∃ fn, Tryz.prog.funcs[n_check_each_api_TreeTrans]? = some fn ∧ chkF Tryz.prog fn c_check_each_api_TreeTrans = true := ⟨by kernel_rfl, _, Go.Proofs.Tryz.func79, k_check_each_api_TreeTrans⟩
theorem xt_check_fresh_int : bodyB Tryz.prog n_check_fresh_int = true ∧ ∃ fn, Tryz.prog.funcs[n_check_fresh_int]? = some fn ∧ chkF Tryz.prog fn c_check_fresh_int = true := ⟨by kernel_rfl, _, Go.Proofs.Tryz.func152, k_check_fresh_int⟩
theorem xt_tree_Right : bodyB Tryz.prog n_tree_Right = true ∧ ∃ fn, Tryz.prog.funcs[n_tree_Right]? = some fn ∧ chkF Tryz.prog fn c_tree_Right = true := ⟨by kernel_rfl, _, Go.Proofs.Tryz.func22, k_tree_Right⟩
theorem xt_tree_Right_4 : bodyB Tryz.prog n_tree_Right_4 = true ∧ ∃ fn, Tryz.prog.funcs[n_tree_Right_4]? = some fn ∧ chkF Tryz.prog fn c_tree_Right_4 = true := ⟨by kernel_rfl, _, Go.Proofs.Tryz.func51, k_tree_Right_4⟩
theorem xt_tree_name : bodyB Tryz.prog n_tree_name = true ∧ ∃ fn, Tryz.prog.funcs[n_tree_name]? = some fn ∧ chkF Tryz.prog fn c_tree_name = true := ⟨by kernel_rfl, _, Go.Proofs.Tryz.func40, k_tree_name⟩
theorem xt_tree_all_api_TreeDecl : bodyB Tryz.prog n_tree_all_api_TreeDecl = true ∧ ∃ fn, Tryz.prog.funcs[n_tree_all_api_TreeDecl]? = some fn ∧ chkF Tryz.prog fn c_tree_all_api_TreeDecl = true := ⟨by kernel_rfl, _, Go.Proofs.Tryz.func41, k_tree_all_api_TreeDecl⟩
theorem xt_tree_all_api_TreeQuant : bodyB Tryz.prog n_tree_all_api_TreeQuant = true ∧ ∃ fn, Tryz.prog.funcs[n_tree_all_api_TreeQuant]? = some fn ∧ chkF Tryz.prog fn c_tree_all_api_TreeQuant = true := ⟨by kernel_rfl, _, Go.Proofs.Tryz.func45, k_tree_all_api_TreeQuant⟩
theorem xt_tree_all_api_TreeFree : bodyB Tryz.prog n_tree_all_api_TreeFree = true ∧ ∃ fn, Tryz.prog.funcs[n_tree_all_api_TreeFree]? = some fn ∧ chkF Tryz.prog fn c_tree_all_api_TreeFree = true := ⟨by kernel_rfl, _, Go.Proofs.Tryz.func47, k_tree_all_api_TreeFree⟩
theorem xt_tree_all_api_TreeState : bodyB Tryz.prog n_tree_all_api_TreeState = true ∧ ∃ fn, Tryz.prog.funcs[n_tree_all_api_TreeState]? = some fn ∧ chkF Tryz.prog fn c_tree_all_api_TreeState = true := ⟨by kernel_rfl, _, Go.Proofs.Tryz.func50, k_tree_all_api_TreeState⟩
theorem xt_tree_all_api_TreeSymbol : bodyB Tryz.prog n_tree_all_api_TreeSymbol = true ∧ ∃ fn, Tryz.prog.funcs[n_tree_all_api_TreeSymbol]? = some fn ∧ chkF Tryz.prog fn c_tree_all_api_TreeSymbol = true := ⟨by kernel_rfl, _, Go.Proofs.Tryz.func52, k_tree_all_api_TreeSymbol⟩
theorem xt_tree_all_api_TreeTrans : bodyB Tryz.prog n_tree_all_api_TreeTrans = true ∧ ∃ fn, Tryz.prog.funcs[n_tree_all_api_TreeTrans]? = some fn ∧ chkF Tryz.prog fn c_tree_all_api_TreeTrans = true := ⟨by kernel_rfl, _, Go.Proofs.Tryz.func54, k_tree_all_api_TreeTrans⟩
theorem xt_tree_all_api_TreeState_1 : bodyB Tryz.prog n_tree_all_api_TreeState_1 = true ∧ ∃ fn, Tryz.prog.funcs[n_tree_all_api_TreeState_1]? = some fn ∧ chkF Tryz.prog fn c_tree_all_api_TreeState_1 = true := ⟨by kernel_rfl, _, Go.Proofs.Tryz.func137, k_tree_all_api_TreeState_1⟩
theorem xt_slices_ContainsFunc_api_TreeDecl_api_TreeDecl : bodyB Tryz.prog n_slices_ContainsFunc_api_TreeDecl_api_TreeDecl = true ∧ ∃ fn, Tryz.prog.funcs[n_slices_ContainsFunc_api_TreeDecl_api_TreeDecl]? = some fn ∧ chkF Tryz.prog fn c_slices_ContainsFunc_api_TreeDecl_api_TreeDecl = true := ⟨by kernel_rfl, _, Go.Proofs.Tryz.func124, k_slices_ContainsFunc_api_TreeDecl_api_TreeDecl⟩
theorem xt_slices_ContainsFunc_api_TreeQuant_api_TreeQuant : bodyB Tryz.prog n_slices_ContainsFunc_api_TreeQuant_api_TreeQuant = true ∧ ∃ fn, Tryz.prog.funcs[n_slices_ContainsFunc_api_TreeQuant_api_TreeQuant]? = some fn ∧ chkF Tryz.prog fn c_slices_ContainsFunc_api_TreeQuant_api_TreeQuant = true := ⟨by kernel_rfl, _, Go.Proofs.Tryz.func129, k_slices_ContainsFunc_api_TreeQuant_api_TreeQuant⟩
theorem xt_slices_ContainsFunc_api_TreeFree_api_TreeFree : bodyB Tryz.prog n_slices_ContainsFunc_api_TreeFree_api_TreeFree = true ∧ ∃ fn, Tryz.prog.funcs[n_slices_ContainsFunc_api_TreeFree_api_TreeFree]? = some fn ∧ chkF Tryz.prog fn c_slices_ContainsFunc_api_TreeFree_api_TreeFree = true := ⟨by kernel_rfl, _, Go.Proofs.Tryz.func131, k_slices_ContainsFunc_api_TreeFree_api_TreeFree⟩
theorem xt_slices_ContainsFunc_api_TreeState_api_TreeState : bodyB Tryz.prog n_slices_ContainsFunc_api_TreeState_api_TreeState = true ∧ ∃ fn, Tryz.prog.funcs[n_slices_ContainsFunc_api_TreeState_api_TreeState]? = some fn ∧ chkF Tryz.prog fn c_slices_ContainsFunc_api_TreeState_api_TreeState = true := ⟨by kernel_rfl, _, Go.Proofs.Tryz.func136, k_slices_ContainsFunc_api_TreeState_api_TreeState⟩
theorem xt_slices_ContainsFunc_api_TreeSymbol_api_TreeSymbol : bodyB Tryz.prog n_slices_ContainsFunc_api_TreeSymbol_api_TreeSymbol = true ∧ ∃ fn, Tryz.prog.funcs[n_slices_ContainsFunc_api_TreeSymbol_api_TreeSymbol]? = some fn ∧ chkF Tryz.prog fn c_slices_ContainsFunc_api_TreeSymbol_api_TreeSymbol = true := ⟨by kernel_rfl, _, Go.Proofs.Tryz.func138, k_slices_ContainsFunc_api_TreeSymbol_api_TreeSymbol⟩
theorem xt_slices_ContainsFunc_api_TreeTrans_api_TreeTrans : bodyB Tryz.prog n_slices_ContainsFunc_api_TreeTrans_api_TreeTrans = true ∧ ∃ fn, Tryz.prog.funcs[n_slices_ContainsFunc_api_TreeTrans_api_TreeTrans]? = some fn ∧ chkF Tryz.prog fn c_slices_ContainsFunc_api_TreeTrans_api_TreeTrans = true := ⟨by kernel_rfl, _, Go.Proofs.Tryz.func142, k_slices_ContainsFunc_api_TreeTrans_api_TreeTrans⟩
theorem xt_slices_IndexFunc_api_TreeDecl_api_TreeDecl : bodyB Tryz.prog n_slices_IndexFunc_api_TreeDecl_api_TreeDecl = true ∧ ∃ fn, Tryz.prog.funcs[n_slices_IndexFunc_api_TreeDecl_api_TreeDecl]? = some fn ∧ chkF Tryz.prog fn c_slices_IndexFunc_api_TreeDecl_api_TreeDecl = true := ⟨by kernel_rfl, _, Go.Proofs.Tryz.func186, k_slices_IndexFunc_api_TreeDecl_api_TreeDecl⟩
theorem xt_slices_IndexFunc_api_TreeQuant_api_TreeQuant : bodyB Tryz.prog n_slices_IndexFunc_api_TreeQuant_api_TreeQuant = true ∧ ∃ fn, Tryz.prog.funcs[n_slices_IndexFunc_api_TreeQuant_api_TreeQuant]? = some fn ∧ chkF Tryz.prog fn c_slices_IndexFunc_api_TreeQuant_api_TreeQuant = true := ⟨by kernel_rfl, _, Go.Proofs.Tryz.func188, k_slices_IndexFunc_api_TreeQuant_api_TreeQuant⟩
theorem xt_slices_IndexFunc_api_TreeFree_api_TreeFree : bodyB Tryz.prog n_slices_IndexFunc_api_TreeFree_api_TreeFree = true ∧ ∃ fn, Tryz.prog.funcs[n_slices_IndexFunc_api_TreeFree_api_TreeFree]? = some fn ∧ chkF Tryz.prog fn c_slices_IndexFunc_api_TreeFree_api_TreeFree = true := ⟨by kernel_rfl, _, Go.Proofs.Tryz.func189, k_slices_IndexFunc_api_TreeFree_api_TreeFree⟩
theorem xt_slices_IndexFunc_api_TreeState_api_TreeState : bodyB Tryz.prog n_slices_IndexFunc_api_TreeState_api_TreeState = true ∧ ∃ fn, Tryz.prog.funcs[n_slices_IndexFunc_api_TreeState_api_TreeState]? = some fn ∧ chkF Tryz.prog fn c_slices_IndexFunc_api_TreeState_api_TreeState = true := ⟨by kernel_rfl, _, Go.Proofs.Tryz.func190, k_slices_IndexFunc_api_TreeState_api_TreeState⟩
theorem xt_slices_IndexFunc_api_TreeSymbol_api_TreeSymbol : bodyB Tryz.prog n_slices_IndexFunc_api_TreeSymbol_api_TreeSymbol = true ∧ ∃ fn, Tryz.prog.funcs[n_slices_IndexFunc_api_TreeSymbol_api_TreeSymbol]? = some fn ∧ chkF Tryz.prog fn c_slices_IndexFunc_api_TreeSymbol_api_TreeSymbol = true := ⟨by kernel_rfl, _, Go.Proofs.Tryz.func191, k_slices_IndexFunc_api_TreeSymbol_api_TreeSymbol⟩
theorem xt_slices_IndexFunc_api_TreeTrans_api_TreeTrans : bodyB Tryz.prog n_slices_IndexFunc_api_TreeTrans_api_TreeTrans = true ∧ ∃ fn, Tryz.prog.funcs[n_slices_IndexFunc_api_TreeTrans_api_TreeTrans]? = some fn ∧ chkF Tryz.prog fn c_slices_IndexFunc_api_TreeTrans_api_TreeTrans = true := ⟨by kernel_rfl, _, Go.Proofs.Tryz.func194, k_slices_IndexFunc_api_TreeTrans_api_TreeTrans⟩
theorem xt_schema_Name : bodyB Tryz.prog n_schema_Name = true ∧ ∃ fn, Tryz.prog.funcs[n_schema_Name]? = some fn ∧ chkF Tryz.prog fn c_schema_Name = true := ⟨by kernel_rfl, _, Go.Proofs.Tryz.func123, k_schema_Name⟩
theorem xt_schema_Spelt : bodyB Tryz.prog n_schema_Spelt = true ∧ ∃ fn, Tryz.prog.funcs[n_schema_Spelt]? = some fn ∧ chkF Tryz.prog fn c_schema_Spelt = true := ⟨by kernel_rfl, _, Go.Proofs.Tryz.func184, k_schema_Spelt⟩
theorem xt_schema_Spelt_1 : bodyB Tryz.prog n_schema_Spelt_1 = true ∧ ∃ fn, Tryz.prog.funcs[n_schema_Spelt_1]? = some fn ∧ chkF Tryz.prog fn c_schema_Spelt_1 = true := ⟨by kernel_rfl, _, Go.Proofs.Tryz.func217, k_schema_Spelt_1⟩
theorem xt_strings_IndexFunc : bodyB Tryz.prog n_strings_IndexFunc = true ∧ ∃ fn, Tryz.prog.funcs[n_strings_IndexFunc]? = some fn ∧ chkF Tryz.prog fn c_strings_IndexFunc = true := ⟨by kernel_rfl, _, Go.Proofs.Tryz.func218, k_strings_IndexFunc⟩
theorem xt_strings_indexFunc : bodyB Tryz.prog n_strings_indexFunc = true ∧ ∃ fn, Tryz.prog.funcs[n_strings_indexFunc]? = some fn ∧ chkF Tryz.prog fn c_strings_indexFunc = true := ⟨by kernel_rfl, _, Go.Proofs.Tryz.func234, k_strings_indexFunc⟩
theorem xt_core_Same : bodyB Tryz.prog n_core_Same = true ∧ ∃ fn, Tryz.prog.funcs[n_core_Same]? = some fn ∧ chkF Tryz.prog fn c_core_Same = true := ⟨by kernel_rfl, _, Go.Proofs.Tryz.func17, k_core_Same⟩
theorem xt_core_sameSymbol : bodyB Tryz.prog n_core_sameSymbol = true ∧ ∃ fn, Tryz.prog.funcs[n_core_sameSymbol]? = some fn ∧ chkF Tryz.prog fn c_core_sameSymbol = true := ⟨by kernel_rfl, _, Go.Proofs.Tryz.func31, k_core_sameSymbol⟩
theorem xt_core_Same_1 : bodyB Tryz.prog n_core_Same_1 = true ∧ ∃ fn, Tryz.prog.funcs[n_core_Same_1]? = some fn ∧ chkF Tryz.prog fn c_core_Same_1 = true := ⟨by kernel_rfl, _, Go.Proofs.Tryz.func34, k_core_Same_1⟩
theorem xt_schema_Same : bodyB Tryz.prog n_schema_Same = true ∧ ∃ fn, Tryz.prog.funcs[n_schema_Same]? = some fn ∧ chkF Tryz.prog fn c_schema_Same = true := ⟨by kernel_rfl, _, Go.Proofs.Tryz.func26, k_schema_Same⟩
theorem xt_schema_Same_1 : bodyB Tryz.prog n_schema_Same_1 = true ∧ ∃ fn, Tryz.prog.funcs[n_schema_Same_1]? = some fn ∧ chkF Tryz.prog fn c_schema_Same_1 = true := ⟨by kernel_rfl, _, Go.Proofs.Tryz.func86, k_schema_Same_1⟩
theorem xt_slices_Equal_api_Quant_api_Quant : bodyB Tryz.prog n_slices_Equal_api_Quant_api_Quant = true ∧ ∃ fn, Tryz.prog.funcs[n_slices_Equal_api_Quant_api_Quant]? = some fn ∧ chkF Tryz.prog fn c_slices_Equal_api_Quant_api_Quant = true := ⟨by kernel_rfl, _, Go.Proofs.Tryz.func27, k_slices_Equal_api_Quant_api_Quant⟩
theorem xt_slices_Equal_api_Free_api_Free : bodyB Tryz.prog n_slices_Equal_api_Free_api_Free = true ∧ ∃ fn, Tryz.prog.funcs[n_slices_Equal_api_Free_api_Free]? = some fn ∧ chkF Tryz.prog fn c_slices_Equal_api_Free_api_Free = true := ⟨by kernel_rfl, _, Go.Proofs.Tryz.func28, k_slices_Equal_api_Free_api_Free⟩
theorem xt_slices_Equal_api_State_api_State : bodyB Tryz.prog n_slices_Equal_api_State_api_State = true ∧ ∃ fn, Tryz.prog.funcs[n_slices_Equal_api_State_api_State]? = some fn ∧ chkF Tryz.prog fn c_slices_Equal_api_State_api_State = true := ⟨by kernel_rfl, _, Go.Proofs.Tryz.func29, k_slices_Equal_api_State_api_State⟩
theorem xt_slices_Equal_api_Node_api_Node : bodyB Tryz.prog n_slices_Equal_api_Node_api_Node = true ∧ ∃ fn, Tryz.prog.funcs[n_slices_Equal_api_Node_api_Node]? = some fn ∧ chkF Tryz.prog fn c_slices_Equal_api_Node_api_Node = true := ⟨by kernel_rfl, _, Go.Proofs.Tryz.func32, k_slices_Equal_api_Node_api_Node⟩
theorem xt_slices_EqualFunc_api_Symbol_api_Symbol_api_Symbol_api_Symbol : bodyB Tryz.prog n_slices_EqualFunc_api_Symbol_api_Symbol_api_Symbol_api_Symbol = true ∧ ∃ fn, Tryz.prog.funcs[n_slices_EqualFunc_api_Symbol_api_Symbol_api_Symbol_api_Symbol]? = some fn ∧ chkF Tryz.prog fn c_slices_EqualFunc_api_Symbol_api_Symbol_api_Symbol_api_Symbol = true := ⟨by kernel_rfl, _, Go.Proofs.Tryz.func30, k_slices_EqualFunc_api_Symbol_api_Symbol_api_Symbol_api_Symbol⟩
theorem xt_slices_EqualFunc_api_Trans_api_Trans_api_Trans_api_Trans : bodyB Tryz.prog n_slices_EqualFunc_api_Trans_api_Trans_api_Trans_api_Trans = true ∧ ∃ fn, Tryz.prog.funcs[n_slices_EqualFunc_api_Trans_api_Trans_api_Trans_api_Trans]? = some fn ∧ chkF Tryz.prog fn c_slices_EqualFunc_api_Trans_api_Trans_api_Trans_api_Trans = true := ⟨by kernel_rfl, _, Go.Proofs.Tryz.func33, k_slices_EqualFunc_api_Trans_api_Trans_api_Trans_api_Trans⟩
theorem xt_slices_EqualFunc_api_Decl_api_Decl_api_Decl_api_Decl : bodyB Tryz.prog n_slices_EqualFunc_api_Decl_api_Decl_api_Decl_api_Decl = true ∧ ∃ fn, Tryz.prog.funcs[n_slices_EqualFunc_api_Decl_api_Decl_api_Decl_api_Decl]? = some fn ∧ chkF Tryz.prog fn c_slices_EqualFunc_api_Decl_api_Decl_api_Decl_api_Decl = true := ⟨by kernel_rfl, _, Go.Proofs.Tryz.func85, k_slices_EqualFunc_api_Decl_api_Decl_api_Decl_api_Decl⟩
theorem xtab_ok : XTabOk Tryz.prog xtab := ⟨xt_proctorlaw44_BatchJoint, xt_proctorlaw44_awake, xt_proctorref32_Right, xt_batch_Joint, xt_batch_joint, xt_verdict_Name, xt_slices_Contains_int_int, xt_slices_Index_int_int, xt_batch_Groups, xt_batch_Groups_1, xt_slices_IndexFunc_batch_read_batch_read, xt_batch_alike, xt_check_Read, xt_parse_Parse, xt_parse_Parse_1, xt_parse_run, xt_lex_All, xt_lex_blank, xt_lex_blank_1, xt_lex_move, xt_lex_first, xt_lex_letters, xt_lex_isLetter, xt_strings_LastIndexByte, xt_internal_bytealg_LastIndexByteString, xt_schema_Word, xt_slices_Contains_string_string, xt_slices_Index_string_string, xt_errors_As, xt_parse_parser_spec, xt_parse_parser_head, xt_parse_parser_head_1, xt_parse_parser_head_2, xt_parse_parser_head_3, xt_parse_parser_head_4, xt_parse_parser_head_5, xt_parse_parser_head_6, xt_parse_parser_head_6_1, xt_parse_parser_head_7, xt_parse_parser_head_8, xt_parse_parser_head_9, xt_parse_parser_want, xt_parse_parser_name, xt_parse_parser_take, xt_parse_parser_is, xt_parse_parser_state, xt_parse_place_peek, xt_parse_many_api_TreeDecl, xt_parse_many_api_TreeQuant, xt_parse_many_api_TreeFree, xt_parse_many_api_TreeState, xt_parse_many_api_TreeSymbol, xt_check_Lower, xt_check_checker_run, xt_check_checker_run_1, xt_check_checker_run_2, xt_check_checker_run_3, xt_check_checker_run_4, xt_check_checker_run_5, xt_check_checker_run_6, xt_check_checker_run_7, xt_check_checker_run_8, xt_check_checker_state, xt_check_checker_find, xt_check_checker_stands, xt_check_checker_order, xt_check_each_api_TreeDecl, xt_check_each_api_TreeQuant, xt_check_each_api_TreeFree, xt_check_each_api_TreeState, xt_check_each_api_TreeSymbol, xt_check_each_api_TreeTrans, xt_check_fresh_int, xt_tree_Right, xt_tree_Right_4, xt_tree_name, xt_tree_all_api_TreeDecl, xt_tree_all_api_TreeQuant, xt_tree_all_api_TreeFree, xt_tree_all_api_TreeState, xt_tree_all_api_TreeSymbol, xt_tree_all_api_TreeTrans, xt_tree_all_api_TreeState_1, xt_slices_ContainsFunc_api_TreeDecl_api_TreeDecl, xt_slices_ContainsFunc_api_TreeQuant_api_TreeQuant, xt_slices_ContainsFunc_api_TreeFree_api_TreeFree, xt_slices_ContainsFunc_api_TreeState_api_TreeState, xt_slices_ContainsFunc_api_TreeSymbol_api_TreeSymbol, xt_slices_ContainsFunc_api_TreeTrans_api_TreeTrans, xt_slices_IndexFunc_api_TreeDecl_api_TreeDecl, xt_slices_IndexFunc_api_TreeQuant_api_TreeQuant, xt_slices_IndexFunc_api_TreeFree_api_TreeFree, xt_slices_IndexFunc_api_TreeState_api_TreeState, xt_slices_IndexFunc_api_TreeSymbol_api_TreeSymbol, xt_slices_IndexFunc_api_TreeTrans_api_TreeTrans, xt_schema_Name, xt_schema_Spelt, xt_schema_Spelt_1, xt_strings_IndexFunc, xt_strings_indexFunc, xt_core_Same, xt_core_sameSymbol, xt_core_Same_1, xt_schema_Same, xt_schema_Same_1, xt_slices_Equal_api_Quant_api_Quant, xt_slices_Equal_api_Free_api_Free, xt_slices_Equal_api_State_api_State, xt_slices_Equal_api_Node_api_Node, xt_slices_EqualFunc_api_Symbol_api_Symbol_api_Symbol_api_Symbol, xt_slices_EqualFunc_api_Trans_api_Trans_api_Trans_api_Trans, xt_slices_EqualFunc_api_Decl_api_Decl_api_Decl_api_Decl, trivial⟩
end Go.Proofs.YtgdlgdchdohdoaaGreatDoor.Ab
