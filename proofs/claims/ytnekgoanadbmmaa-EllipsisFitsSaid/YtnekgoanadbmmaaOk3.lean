/-
Each function's text in Mini is what the program has.
-/
import Derived.Test.YtnekgoanadbmmaaIp
import Derived.Test.YtnekgoanadbmmaaChecked
namespace Go.Proofs.Ytnekgoanadbmmaa
open Go.Mini

theorem ok_law15_FirstLines : FnOk Try.prog pm f_law15_FirstLines i_law15_FirstLines := .of Try.func6 (by kernel_rfl) (by kernel_rfl) (by kernel_rfl)
theorem ok_law24_FragsNest : FnOk Try.prog pm f_law24_FragsNest i_law24_FragsNest := .of Try.func10 (by kernel_rfl) (by kernel_rfl) (by kernel_rfl)
theorem ok_ellipsis_Cut : FnOk Try.prog pm f_ellipsis_Cut i_ellipsis_Cut := .of Try.func14 (by kernel_rfl) (by kernel_rfl) (by kernel_rfl)
theorem ok_trim_Fits : FnOk Try.prog pm f_trim_Fits i_trim_Fits := .of Try.func18 (by kernel_rfl) (by kernel_rfl) (by kernel_rfl)
theorem ok_arena_Tree_Depth : FnOk Try.prog pm f_arena_Tree_Depth i_arena_Tree_Depth := .of Try.func22 (by kernel_rfl) (by kernel_rfl) (by kernel_rfl)
theorem ok_arena_Tree_Common : FnOk Try.prog pm f_arena_Tree_Common i_arena_Tree_Common := .of Try.func26 (by kernel_rfl) (by kernel_rfl) (by kernel_rfl)
theorem ok_law07_head : FnOk Try.prog pm f_law07_head i_law07_head := .of Try.func30 (by kernel_rfl) (by kernel_rfl) (by kernel_rfl)
theorem ok_ref15_Lines : FnOk Try.prog pm f_ref15_Lines i_ref15_Lines := .of Try.func34 (by kernel_rfl) (by kernel_rfl) (by kernel_rfl)
theorem ok_first_Cells : FnOk Try.prog pm f_first_Cells i_first_Cells := .of Try.func38 (by kernel_rfl) (by kernel_rfl) (by kernel_rfl)
theorem ok_fill_One : FnOk Try.prog pm f_fill_One i_fill_One := .of Try.func42 (by kernel_rfl) (by kernel_rfl) (by kernel_rfl)
theorem ok_frags_Parts : FnOk Try.prog pm f_frags_Parts i_frags_Parts := .of Try.func46 (by kernel_rfl) (by kernel_rfl) (by kernel_rfl)
theorem ok_ellipsis_Whole : FnOk Try.prog pm f_ellipsis_Whole i_ellipsis_Whole := .of Try.func50 (by kernel_rfl) (by kernel_rfl) (by kernel_rfl)
theorem ok_ellipsis_first : FnOk Try.prog pm f_ellipsis_first i_ellipsis_first := .of Try.func54 (by kernel_rfl) (by kernel_rfl) (by kernel_rfl)
theorem ok_tabs_pens : FnOk Try.prog pm f_tabs_pens i_tabs_pens := .of Try.func58 (by kernel_rfl) (by kernel_rfl) (by kernel_rfl)
theorem ok_trim_from : FnOk Try.prog pm f_trim_from i_trim_from := .of Try.func62 (by kernel_rfl) (by kernel_rfl) (by kernel_rfl)
theorem ok_arena_Tree_kids : FnOk Try.prog pm f_arena_Tree_kids i_arena_Tree_kids := .of Try.func66 (by kernel_rfl) (by kernel_rfl) (by kernel_rfl)
theorem ok_law07_example : FnOk Try.prog pm f_law07_example i_law07_example := .of Try.func70 (by kernel_rfl) (by kernel_rfl) (by kernel_rfl)
theorem ok_fill_Ends : FnOk Try.prog pm f_fill_Ends i_fill_Ends := .of Try.func74 (by kernel_rfl) (by kernel_rfl) (by kernel_rfl)
theorem ok_ref14_Lines : FnOk Try.prog pm f_ref14_Lines i_ref14_Lines := .of Try.func78 (by kernel_rfl) (by kernel_rfl) (by kernel_rfl)
theorem ok_fill_One_1 : FnOk Try.prog pm f_fill_One_1 i_fill_One_1 := .of Try.func82 (by kernel_rfl) (by kernel_rfl) (by kernel_rfl)
theorem ok_law24_example : FnOk Try.prog pm f_law24_example i_law24_example := .of Try.func86 (by kernel_rfl) (by kernel_rfl) (by kernel_rfl)
theorem ok_frags_boxes : FnOk Try.prog pm f_frags_boxes i_frags_boxes := .of Try.func90 (by kernel_rfl) (by kernel_rfl) (by kernel_rfl)
theorem ok_ref07_Above : FnOk Try.prog pm f_ref07_Above i_ref07_Above := .of Try.func94 (by kernel_rfl) (by kernel_rfl) (by kernel_rfl)
theorem ok_class_Mark : FnOk Try.prog pm f_class_Mark i_class_Mark := .of Try.func98 (by kernel_rfl) (by kernel_rfl) (by kernel_rfl)
theorem ok_ellipsis_back_1 : FnOk Try.prog pm f_ellipsis_back_1 i_ellipsis_back_1 := .of Try.func102 (by kernel_rfl) (by kernel_rfl) (by kernel_rfl)
theorem ok_tabs_Step : FnOk Try.prog pm f_tabs_Step i_tabs_Step := .of Try.func107 (by kernel_rfl) (by kernel_rfl) (by kernel_rfl)
theorem ok_style_CheckDecl : FnOk Try.prog pm f_style_CheckDecl i_style_CheckDecl := .of Try.func111 (by kernel_rfl) (by kernel_rfl) (by kernel_rfl)
theorem ok_fill_list : FnOk Try.prog pm f_fill_list i_fill_list := .of Try.func115 (by kernel_rfl) (by kernel_rfl) (by kernel_rfl)
theorem ok_first_lines_1 : FnOk Try.prog pm f_first_lines_1 i_first_lines_1 := .of Try.func119 (by kernel_rfl) (by kernel_rfl) (by kernel_rfl)
theorem ok_ref14_Last : FnOk Try.prog pm f_ref14_Last i_ref14_Last := .of Try.func123 (by kernel_rfl) (by kernel_rfl) (by kernel_rfl)
theorem ok_frags_text : FnOk Try.prog pm f_frags_text i_frags_text := .of Try.func127 (by kernel_rfl) (by kernel_rfl) (by kernel_rfl)
theorem ok_style_parts : FnOk Try.prog pm f_style_parts i_style_parts := .of Try.func131 (by kernel_rfl) (by kernel_rfl) (by kernel_rfl)
theorem ok_ref14_Fits : FnOk Try.prog pm f_ref14_Fits i_ref14_Fits := .of Try.func135 (by kernel_rfl) (by kernel_rfl) (by kernel_rfl)
theorem ok_sort_Search : FnOk Try.prog pm f_sort_Search i_sort_Search := .of Try.func139 (by kernel_rfl) (by kernel_rfl) (by kernel_rfl)
theorem ok_style_parts_3 : FnOk Try.prog pm f_style_parts_3 i_style_parts_3 := .of Try.func143 (by kernel_rfl) (by kernel_rfl) (by kernel_rfl)
theorem ok_style_parts_7 : FnOk Try.prog pm f_style_parts_7 i_style_parts_7 := .of Try.func147 (by kernel_rfl) (by kernel_rfl) (by kernel_rfl)
theorem ok_style_parts_11 : FnOk Try.prog pm f_style_parts_11 i_style_parts_11 := .of Try.func151 (by kernel_rfl) (by kernel_rfl) (by kernel_rfl)
theorem ok_style_parts_14 : FnOk Try.prog pm f_style_parts_14 i_style_parts_14 := .of Try.func155 (by kernel_rfl) (by kernel_rfl) (by kernel_rfl)
theorem ok_ref13_Role : FnOk Try.prog pm f_ref13_Role i_ref13_Role := .of Try.func159 (by kernel_rfl) (by kernel_rfl) (by kernel_rfl)
theorem ok_ref12_End : FnOk Try.prog pm f_ref12_End i_ref12_End := .of Try.func163 (by kernel_rfl) (by kernel_rfl) (by kernel_rfl)
theorem ok_ref01_Sum : FnOk Try.prog pm f_ref01_Sum i_ref01_Sum := .of Try.func167 (by kernel_rfl) (by kernel_rfl) (by kernel_rfl)

end Go.Proofs.Ytnekgoanadbmmaa
