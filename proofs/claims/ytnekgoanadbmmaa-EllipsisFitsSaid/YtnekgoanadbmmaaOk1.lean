/-
Each function's text in Mini is what the program has.
-/
import Derived.Test.YtnekgoanadbmmaaIp
import Derived.Test.YtnekgoanadbmmaaChecked
namespace Go.Proofs.Ytnekgoanadbmmaa
open Go.Mini

theorem ok_law26_EllipsisFits : FnOk Try.prog pm f_law26_EllipsisFits i_law26_EllipsisFits := .of Try.func4 (by kernel_rfl) (by kernel_rfl) (by kernel_rfl)
theorem ok_law15_FirstWide : FnOk Try.prog pm f_law15_FirstWide i_law15_FirstWide := .of Try.func8 (by kernel_rfl) (by kernel_rfl) (by kernel_rfl)
theorem ok_law24_FragsCount : FnOk Try.prog pm f_law24_FragsCount i_law24_FragsCount := .of Try.func12 (by kernel_rfl) (by kernel_rfl) (by kernel_rfl)
theorem ok_trim_Roles : FnOk Try.prog pm f_trim_Roles i_trim_Roles := .of Try.func16 (by kernel_rfl) (by kernel_rfl) (by kernel_rfl)
theorem ok_arena_Check : FnOk Try.prog pm f_arena_Check i_arena_Check := .of Try.func20 (by kernel_rfl) (by kernel_rfl) (by kernel_rfl)
theorem ok_arena_Tree_Kids : FnOk Try.prog pm f_arena_Tree_Kids i_arena_Tree_Kids := .of Try.func24 (by kernel_rfl) (by kernel_rfl) (by kernel_rfl)
theorem ok_arena_Tree_Len : FnOk Try.prog pm f_arena_Tree_Len i_arena_Tree_Len := .of Try.func28 (by kernel_rfl) (by kernel_rfl) (by kernel_rfl)
theorem ok_law15_head : FnOk Try.prog pm f_law15_head i_law15_head := .of Try.func32 (by kernel_rfl) (by kernel_rfl) (by kernel_rfl)
theorem ok_first_Alike : FnOk Try.prog pm f_first_Alike i_first_Alike := .of Try.func36 (by kernel_rfl) (by kernel_rfl) (by kernel_rfl)
theorem ok_ref11_Same : FnOk Try.prog pm f_ref11_Same i_ref11_Same := .of Try.func40 (by kernel_rfl) (by kernel_rfl) (by kernel_rfl)
theorem ok_law24_great : FnOk Try.prog pm f_law24_great i_law24_great := .of Try.func44 (by kernel_rfl) (by kernel_rfl) (by kernel_rfl)
theorem ok_frags_Check : FnOk Try.prog pm f_frags_Check i_frags_Check := .of Try.func48 (by kernel_rfl) (by kernel_rfl) (by kernel_rfl)
theorem ok_law26_is : FnOk Try.prog pm f_law26_is i_law26_is := .of Try.func52 (by kernel_rfl) (by kernel_rfl) (by kernel_rfl)
theorem ok_ellipsis_Cut_1 : FnOk Try.prog pm f_ellipsis_Cut_1 i_ellipsis_Cut_1 := .of Try.func56 (by kernel_rfl) (by kernel_rfl) (by kernel_rfl)
theorem ok_trim_Roles_2 : FnOk Try.prog pm f_trim_Roles_2 i_trim_Roles_2 := .of Try.func60 (by kernel_rfl) (by kernel_rfl) (by kernel_rfl)
theorem ok_tabs_End : FnOk Try.prog pm f_tabs_End i_tabs_End := .of Try.func64 (by kernel_rfl) (by kernel_rfl) (by kernel_rfl)
theorem ok_style_Styles : FnOk Try.prog pm f_style_Styles i_style_Styles := .of Try.func68 (by kernel_rfl) (by kernel_rfl) (by kernel_rfl)
theorem ok_law15_three : FnOk Try.prog pm f_law15_three i_law15_three := .of Try.func72 (by kernel_rfl) (by kernel_rfl) (by kernel_rfl)
theorem ok_ref14_May : FnOk Try.prog pm f_ref14_May i_ref14_May := .of Try.func76 (by kernel_rfl) (by kernel_rfl) (by kernel_rfl)
theorem ok_first_Alike_1 : FnOk Try.prog pm f_first_Alike_1 i_first_Alike_1 := .of Try.func80 (by kernel_rfl) (by kernel_rfl) (by kernel_rfl)
theorem ok_fill_last : FnOk Try.prog pm f_fill_last i_fill_last := .of Try.func84 (by kernel_rfl) (by kernel_rfl) (by kernel_rfl)
theorem ok_ref24_Same : FnOk Try.prog pm f_ref24_Same i_ref24_Same := .of Try.func88 (by kernel_rfl) (by kernel_rfl) (by kernel_rfl)
theorem ok_frags_stack_int_top : FnOk Try.prog pm f_frags_stack_int_top i_frags_stack_int_top := .of Try.func92 (by kernel_rfl) (by kernel_rfl) (by kernel_rfl)
theorem ok_frags_kinds : FnOk Try.prog pm f_frags_kinds i_frags_kinds := .of Try.func96 (by kernel_rfl) (by kernel_rfl) (by kernel_rfl)
theorem ok_slices_Reverse_int : FnOk Try.prog pm f_slices_Reverse_int i_slices_Reverse_int := .of Try.func100 (by kernel_rfl) (by kernel_rfl) (by kernel_rfl)
theorem ok_tabs_pens_1 : FnOk Try.prog pm f_tabs_pens_1 i_tabs_pens_1 := .of Try.func105 (by kernel_rfl) (by kernel_rfl) (by kernel_rfl)
theorem ok_arena_Tree_kids_1 : FnOk Try.prog pm f_arena_Tree_kids_1 i_arena_Tree_kids_1 := .of Try.func109 (by kernel_rfl) (by kernel_rfl) (by kernel_rfl)
theorem ok_arena_Tree_stops_1 : FnOk Try.prog pm f_arena_Tree_stops_1 i_arena_Tree_stops_1 := .of Try.func113 (by kernel_rfl) (by kernel_rfl) (by kernel_rfl)
theorem ok_fill_soft : FnOk Try.prog pm f_fill_soft i_fill_soft := .of Try.func117 (by kernel_rfl) (by kernel_rfl) (by kernel_rfl)
theorem ok_ref14_run : FnOk Try.prog pm f_ref14_run i_ref14_run := .of Try.func121 (by kernel_rfl) (by kernel_rfl) (by kernel_rfl)
theorem ok_arena_Tree_numbers : FnOk Try.prog pm f_arena_Tree_numbers i_arena_Tree_numbers := .of Try.func125 (by kernel_rfl) (by kernel_rfl) (by kernel_rfl)
theorem ok_slices_AppendSeq_int : FnOk Try.prog pm f_slices_AppendSeq_int i_slices_AppendSeq_int := .of Try.func129 (by kernel_rfl) (by kernel_rfl) (by kernel_rfl)
theorem ok_trim_Blank : FnOk Try.prog pm f_trim_Blank i_trim_Blank := .of Try.func133 (by kernel_rfl) (by kernel_rfl) (by kernel_rfl)
theorem ok_arena_small : FnOk Try.prog pm f_arena_small i_arena_small := .of Try.func137 (by kernel_rfl) (by kernel_rfl) (by kernel_rfl)
theorem ok_style_parts_1 : FnOk Try.prog pm f_style_parts_1 i_style_parts_1 := .of Try.func141 (by kernel_rfl) (by kernel_rfl) (by kernel_rfl)
theorem ok_style_parts_5 : FnOk Try.prog pm f_style_parts_5 i_style_parts_5 := .of Try.func145 (by kernel_rfl) (by kernel_rfl) (by kernel_rfl)
theorem ok_style_parts_9 : FnOk Try.prog pm f_style_parts_9 i_style_parts_9 := .of Try.func149 (by kernel_rfl) (by kernel_rfl) (by kernel_rfl)
theorem ok_style_parts_13 : FnOk Try.prog pm f_style_parts_13 i_style_parts_13 := .of Try.func153 (by kernel_rfl) (by kernel_rfl) (by kernel_rfl)
theorem ok_style_parts_16 : FnOk Try.prog pm f_style_parts_16 i_style_parts_16 := .of Try.func157 (by kernel_rfl) (by kernel_rfl) (by kernel_rfl)
theorem ok_ref13_just : FnOk Try.prog pm f_ref13_just i_ref13_just := .of Try.func161 (by kernel_rfl) (by kernel_rfl) (by kernel_rfl)
theorem ok_ref12_fits : FnOk Try.prog pm f_ref12_fits i_ref12_fits := .of Try.func165 (by kernel_rfl) (by kernel_rfl) (by kernel_rfl)
theorem ok_ref01_fits : FnOk Try.prog pm f_ref01_fits i_ref01_fits := .of Try.func169 (by kernel_rfl) (by kernel_rfl) (by kernel_rfl)

end Go.Proofs.Ytnekgoanadbmmaa
