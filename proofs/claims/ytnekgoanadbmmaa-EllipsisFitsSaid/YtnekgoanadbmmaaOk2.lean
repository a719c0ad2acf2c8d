/-
Each function's text in Mini is what the program has.
-/
import Derived.Test.YtnekgoanadbmmaaIp
import Derived.Test.YtnekgoanadbmmaaChecked
namespace Go.Proofs.Ytnekgoanadbmmaa
open Go.Mini

theorem ok_law07_ArenaDeep : FnOk Try.prog pm f_law07_ArenaDeep i_law07_ArenaDeep := .of Try.func5 (by kernel_rfl) (by kernel_rfl) (by kernel_rfl)
theorem ok_law15_FirstSame : FnOk Try.prog pm f_law15_FirstSame i_law15_FirstSame := .of Try.func9 (by kernel_rfl) (by kernel_rfl) (by kernel_rfl)
theorem ok_law26_head : FnOk Try.prog pm f_law26_head i_law26_head := .of Try.func13 (by kernel_rfl) (by kernel_rfl) (by kernel_rfl)
theorem ok_law26_great : FnOk Try.prog pm f_law26_great i_law26_great := .of Try.func17 (by kernel_rfl) (by kernel_rfl) (by kernel_rfl)
theorem ok_arena_Tree_Node : FnOk Try.prog pm f_arena_Tree_Node i_arena_Tree_Node := .of Try.func21 (by kernel_rfl) (by kernel_rfl) (by kernel_rfl)
theorem ok_arena_Tree_Context : FnOk Try.prog pm f_arena_Tree_Context i_arena_Tree_Context := .of Try.func25 (by kernel_rfl) (by kernel_rfl) (by kernel_rfl)
theorem ok_arena_Tree_Walk : FnOk Try.prog pm f_arena_Tree_Walk i_arena_Tree_Walk := .of Try.func29 (by kernel_rfl) (by kernel_rfl) (by kernel_rfl)
theorem ok_first_Lines : FnOk Try.prog pm f_first_Lines i_first_Lines := .of Try.func33 (by kernel_rfl) (by kernel_rfl) (by kernel_rfl)
theorem ok_ref15_Alike : FnOk Try.prog pm f_ref15_Alike i_ref15_Alike := .of Try.func37 (by kernel_rfl) (by kernel_rfl) (by kernel_rfl)
theorem ok_fill_Lines : FnOk Try.prog pm f_fill_Lines i_fill_Lines := .of Try.func41 (by kernel_rfl) (by kernel_rfl) (by kernel_rfl)
theorem ok_law24_head : FnOk Try.prog pm f_law24_head i_law24_head := .of Try.func45 (by kernel_rfl) (by kernel_rfl) (by kernel_rfl)
theorem ok_law24_opens : FnOk Try.prog pm f_law24_opens i_law24_opens := .of Try.func49 (by kernel_rfl) (by kernel_rfl) (by kernel_rfl)
theorem ok_ellipsis_within : FnOk Try.prog pm f_ellipsis_within i_ellipsis_within := .of Try.func53 (by kernel_rfl) (by kernel_rfl) (by kernel_rfl)
theorem ok_unit_Sum : FnOk Try.prog pm f_unit_Sum i_unit_Sum := .of Try.func57 (by kernel_rfl) (by kernel_rfl) (by kernel_rfl)
theorem ok_trim_edge : FnOk Try.prog pm f_trim_edge i_trim_edge := .of Try.func61 (by kernel_rfl) (by kernel_rfl) (by kernel_rfl)
theorem ok_arena_Tree_has : FnOk Try.prog pm f_arena_Tree_has i_arena_Tree_has := .of Try.func65 (by kernel_rfl) (by kernel_rfl) (by kernel_rfl)
theorem ok_arena_Tree_stops : FnOk Try.prog pm f_arena_Tree_stops i_arena_Tree_stops := .of Try.func69 (by kernel_rfl) (by kernel_rfl) (by kernel_rfl)
theorem ok_law15_lines : FnOk Try.prog pm f_law15_lines i_law15_lines := .of Try.func73 (by kernel_rfl) (by kernel_rfl) (by kernel_rfl)
theorem ok_ref14_One : FnOk Try.prog pm f_ref14_One i_ref14_One := .of Try.func77 (by kernel_rfl) (by kernel_rfl) (by kernel_rfl)
theorem ok_slices_Clone_api_Cell : FnOk Try.prog pm f_slices_Clone_api_Cell i_slices_Clone_api_Cell := .of Try.func81 (by kernel_rfl) (by kernel_rfl) (by kernel_rfl)
theorem ok_arena_Tree_check : FnOk Try.prog pm f_arena_Tree_check i_arena_Tree_check := .of Try.func85 (by kernel_rfl) (by kernel_rfl) (by kernel_rfl)
theorem ok_frags_runs : FnOk Try.prog pm f_frags_runs i_frags_runs := .of Try.func89 (by kernel_rfl) (by kernel_rfl) (by kernel_rfl)
theorem ok_frags_maker_put : FnOk Try.prog pm f_frags_maker_put i_frags_maker_put := .of Try.func93 (by kernel_rfl) (by kernel_rfl) (by kernel_rfl)
theorem ok_frags_follow : FnOk Try.prog pm f_frags_follow i_frags_follow := .of Try.func97 (by kernel_rfl) (by kernel_rfl) (by kernel_rfl)
theorem ok_law26_cuts : FnOk Try.prog pm f_law26_cuts i_law26_cuts := .of Try.func101 (by kernel_rfl) (by kernel_rfl) (by kernel_rfl)
theorem ok_tabs_role : FnOk Try.prog pm f_tabs_role i_tabs_role := .of Try.func106 (by kernel_rfl) (by kernel_rfl) (by kernel_rfl)
theorem ok_style_Check : FnOk Try.prog pm f_style_Check i_style_Check := .of Try.func110 (by kernel_rfl) (by kernel_rfl) (by kernel_rfl)
theorem ok_fill_may : FnOk Try.prog pm f_fill_may i_fill_may := .of Try.func114 (by kernel_rfl) (by kernel_rfl) (by kernel_rfl)
theorem ok_fill_emergency : FnOk Try.prog pm f_fill_emergency i_fill_emergency := .of Try.func118 (by kernel_rfl) (by kernel_rfl) (by kernel_rfl)
theorem ok_ref14_ahead : FnOk Try.prog pm f_ref14_ahead i_ref14_ahead := .of Try.func122 (by kernel_rfl) (by kernel_rfl) (by kernel_rfl)
theorem ok_frags_runs_1 : FnOk Try.prog pm f_frags_runs_1 i_frags_runs_1 := .of Try.func126 (by kernel_rfl) (by kernel_rfl) (by kernel_rfl)
theorem ok_unit_Stop : FnOk Try.prog pm f_unit_Stop i_unit_Stop := .of Try.func130 (by kernel_rfl) (by kernel_rfl) (by kernel_rfl)
theorem ok_ref13_Blank : FnOk Try.prog pm f_ref13_Blank i_ref13_Blank := .of Try.func134 (by kernel_rfl) (by kernel_rfl) (by kernel_rfl)
theorem ok_class_spans : FnOk Try.prog pm f_class_spans i_class_spans := .of Try.func138 (by kernel_rfl) (by kernel_rfl) (by kernel_rfl)
theorem ok_style_parts_2 : FnOk Try.prog pm f_style_parts_2 i_style_parts_2 := .of Try.func142 (by kernel_rfl) (by kernel_rfl) (by kernel_rfl)
theorem ok_style_parts_6 : FnOk Try.prog pm f_style_parts_6 i_style_parts_6 := .of Try.func146 (by kernel_rfl) (by kernel_rfl) (by kernel_rfl)
theorem ok_style_parts_10 : FnOk Try.prog pm f_style_parts_10 i_style_parts_10 := .of Try.func150 (by kernel_rfl) (by kernel_rfl) (by kernel_rfl)
theorem ok_style_units : FnOk Try.prog pm f_style_units i_style_units := .of Try.func154 (by kernel_rfl) (by kernel_rfl) (by kernel_rfl)
theorem ok_ref13_edge : FnOk Try.prog pm f_ref13_edge i_ref13_edge := .of Try.func158 (by kernel_rfl) (by kernel_rfl) (by kernel_rfl)
theorem ok_ref13_Roles : FnOk Try.prog pm f_ref13_Roles i_ref13_Roles := .of Try.func162 (by kernel_rfl) (by kernel_rfl) (by kernel_rfl)
theorem ok_ref12_Step : FnOk Try.prog pm f_ref12_Step i_ref12_Step := .of Try.func166 (by kernel_rfl) (by kernel_rfl) (by kernel_rfl)

end Go.Proofs.Ytnekgoanadbmmaa
