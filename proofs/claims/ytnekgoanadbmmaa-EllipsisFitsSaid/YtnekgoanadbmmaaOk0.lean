/-
Each function's text in Mini is what the program has.
-/
import Derived.Test.YtnekgoanadbmmaaIp
import Derived.Test.YtnekgoanadbmmaaChecked
namespace Go.Proofs.Ytnekgoanadbmmaa
open Go.Mini

theorem ok_law26_EllipsisPlain : FnOk Try.prog pm f_law26_EllipsisPlain i_law26_EllipsisPlain := .of Try.func3 (by kernel_rfl) (by kernel_rfl) (by kernel_rfl)
theorem ok_law15_FirstCells : FnOk Try.prog pm f_law15_FirstCells i_law15_FirstCells := .of Try.func7 (by kernel_rfl) (by kernel_rfl) (by kernel_rfl)
theorem ok_law24_FragsEdges : FnOk Try.prog pm f_law24_FragsEdges i_law24_FragsEdges := .of Try.func11 (by kernel_rfl) (by kernel_rfl) (by kernel_rfl)
theorem ok_tabs_Pens : FnOk Try.prog pm f_tabs_Pens i_tabs_Pens := .of Try.func15 (by kernel_rfl) (by kernel_rfl) (by kernel_rfl)
theorem ok_trim_Goes : FnOk Try.prog pm f_trim_Goes i_trim_Goes := .of Try.func19 (by kernel_rfl) (by kernel_rfl) (by kernel_rfl)
theorem ok_arena_Tree_End : FnOk Try.prog pm f_arena_Tree_End i_arena_Tree_End := .of Try.func23 (by kernel_rfl) (by kernel_rfl) (by kernel_rfl)
theorem ok_arena_Tree_Styles : FnOk Try.prog pm f_arena_Tree_Styles i_arena_Tree_Styles := .of Try.func27 (by kernel_rfl) (by kernel_rfl) (by kernel_rfl)
theorem ok_law15_great : FnOk Try.prog pm f_law15_great i_law15_great := .of Try.func31 (by kernel_rfl) (by kernel_rfl) (by kernel_rfl)
theorem ok_ref14_Same : FnOk Try.prog pm f_ref14_Same i_ref14_Same := .of Try.func35 (by kernel_rfl) (by kernel_rfl) (by kernel_rfl)
theorem ok_ref15_Cells : FnOk Try.prog pm f_ref15_Cells i_ref15_Cells := .of Try.func39 (by kernel_rfl) (by kernel_rfl) (by kernel_rfl)
theorem ok_arena_New : FnOk Try.prog pm f_arena_New i_arena_New := .of Try.func43 (by kernel_rfl) (by kernel_rfl) (by kernel_rfl)
theorem ok_law24_nests : FnOk Try.prog pm f_law24_nests i_law24_nests := .of Try.func47 (by kernel_rfl) (by kernel_rfl) (by kernel_rfl)
theorem ok_ellipsis_Places : FnOk Try.prog pm f_ellipsis_Places i_ellipsis_Places := .of Try.func51 (by kernel_rfl) (by kernel_rfl) (by kernel_rfl)
theorem ok_ellipsis_back : FnOk Try.prog pm f_ellipsis_back i_ellipsis_back := .of Try.func55 (by kernel_rfl) (by kernel_rfl) (by kernel_rfl)
theorem ok_trim_Roles_1 : FnOk Try.prog pm f_trim_Roles_1 i_trim_Roles_1 := .of Try.func59 (by kernel_rfl) (by kernel_rfl) (by kernel_rfl)
theorem ok_trim_Roles_3 : FnOk Try.prog pm f_trim_Roles_3 i_trim_Roles_3 := .of Try.func63 (by kernel_rfl) (by kernel_rfl) (by kernel_rfl)
theorem ok_arena_of : FnOk Try.prog pm f_arena_of i_arena_of := .of Try.func67 (by kernel_rfl) (by kernel_rfl) (by kernel_rfl)
theorem ok_ref07_SameInts : FnOk Try.prog pm f_ref07_SameInts i_ref07_SameInts := .of Try.func71 (by kernel_rfl) (by kernel_rfl) (by kernel_rfl)
theorem ok_first_lines : FnOk Try.prog pm f_first_lines i_first_lines := .of Try.func75 (by kernel_rfl) (by kernel_rfl) (by kernel_rfl)
theorem ok_slices_EqualFunc_api_Cell : FnOk Try.prog pm f_slices_EqualFunc_api_Cell i_slices_EqualFunc_api_Cell := .of Try.func79 (by kernel_rfl) (by kernel_rfl) (by kernel_rfl)
theorem ok_fill_reach : FnOk Try.prog pm f_fill_reach i_fill_reach := .of Try.func83 (by kernel_rfl) (by kernel_rfl) (by kernel_rfl)
theorem ok_law24_row : FnOk Try.prog pm f_law24_row i_law24_row := .of Try.func87 (by kernel_rfl) (by kernel_rfl) (by kernel_rfl)
theorem ok_frags_maker_within : FnOk Try.prog pm f_frags_maker_within i_frags_maker_within := .of Try.func91 (by kernel_rfl) (by kernel_rfl) (by kernel_rfl)
theorem ok_law24_under : FnOk Try.prog pm f_law24_under i_law24_under := .of Try.func95 (by kernel_rfl) (by kernel_rfl) (by kernel_rfl)
theorem ok_slices_Collect_int : FnOk Try.prog pm f_slices_Collect_int i_slices_Collect_int := .of Try.func99 (by kernel_rfl) (by kernel_rfl) (by kernel_rfl)
theorem ok_unit_fit : FnOk Try.prog pm f_unit_fit i_unit_fit := .of Try.func104 (by kernel_rfl) (by kernel_rfl) (by kernel_rfl)
theorem ok_trim_from_1 : FnOk Try.prog pm f_trim_from_1 i_trim_from_1 := .of Try.func108 (by kernel_rfl) (by kernel_rfl) (by kernel_rfl)
theorem ok_style_over : FnOk Try.prog pm f_style_over i_style_over := .of Try.func112 (by kernel_rfl) (by kernel_rfl) (by kernel_rfl)
theorem ok_fill_ends : FnOk Try.prog pm f_fill_ends i_fill_ends := .of Try.func116 (by kernel_rfl) (by kernel_rfl) (by kernel_rfl)
theorem ok_ref14_Ends : FnOk Try.prog pm f_ref14_Ends i_ref14_Ends := .of Try.func120 (by kernel_rfl) (by kernel_rfl) (by kernel_rfl)
theorem ok_arena_Tree_place : FnOk Try.prog pm f_arena_Tree_place i_arena_Tree_place := .of Try.func124 (by kernel_rfl) (by kernel_rfl) (by kernel_rfl)
theorem ok_class_Of : FnOk Try.prog pm f_class_Of i_class_Of := .of Try.func128 (by kernel_rfl) (by kernel_rfl) (by kernel_rfl)
theorem ok_fill_ends_1 : FnOk Try.prog pm f_fill_ends_1 i_fill_ends_1 := .of Try.func132 (by kernel_rfl) (by kernel_rfl) (by kernel_rfl)
theorem ok_arena_align : FnOk Try.prog pm f_arena_align i_arena_align := .of Try.func136 (by kernel_rfl) (by kernel_rfl) (by kernel_rfl)
theorem ok_class_Of_1 : FnOk Try.prog pm f_class_Of_1 i_class_Of_1 := .of Try.func140 (by kernel_rfl) (by kernel_rfl) (by kernel_rfl)
theorem ok_style_parts_4 : FnOk Try.prog pm f_style_parts_4 i_style_parts_4 := .of Try.func144 (by kernel_rfl) (by kernel_rfl) (by kernel_rfl)
theorem ok_style_parts_8 : FnOk Try.prog pm f_style_parts_8 i_style_parts_8 := .of Try.func148 (by kernel_rfl) (by kernel_rfl) (by kernel_rfl)
theorem ok_style_parts_12 : FnOk Try.prog pm f_style_parts_12 i_style_parts_12 := .of Try.func152 (by kernel_rfl) (by kernel_rfl) (by kernel_rfl)
theorem ok_style_parts_15 : FnOk Try.prog pm f_style_parts_15 i_style_parts_15 := .of Try.func156 (by kernel_rfl) (by kernel_rfl) (by kernel_rfl)
theorem ok_ref13_Fits : FnOk Try.prog pm f_ref13_Fits i_ref13_Fits := .of Try.func160 (by kernel_rfl) (by kernel_rfl) (by kernel_rfl)
theorem ok_ref12_Pens : FnOk Try.prog pm f_ref12_Pens i_ref12_Pens := .of Try.func164 (by kernel_rfl) (by kernel_rfl) (by kernel_rfl)
theorem ok_ref01_Stop : FnOk Try.prog pm f_ref01_Stop i_ref01_Stop := .of Try.func168 (by kernel_rfl) (by kernel_rfl) (by kernel_rfl)

end Go.Proofs.Ytnekgoanadbmmaa
