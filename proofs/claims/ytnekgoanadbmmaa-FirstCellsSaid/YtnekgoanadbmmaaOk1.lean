/-
Each function's text in Mini is what the program has.
-/
import Derived.Test.YtnekgoanadbmmaaIp
import Derived.Test.YtnekgoanadbmmaaChecked
namespace Go.Proofs.Ytnekgoanadbmmaa
open Go.Mini

theorem ok_law15_FirstCells : FnOk Try.prog pm f_law15_FirstCells i_law15_FirstCells := .of Try.func7 (by kernel_rfl) (by kernel_rfl) (by kernel_rfl)
theorem ok_trim_Roles : FnOk Try.prog pm f_trim_Roles i_trim_Roles := .of Try.func16 (by kernel_rfl) (by kernel_rfl) (by kernel_rfl)
theorem ok_law15_head : FnOk Try.prog pm f_law15_head i_law15_head := .of Try.func32 (by kernel_rfl) (by kernel_rfl) (by kernel_rfl)
theorem ok_first_Alike : FnOk Try.prog pm f_first_Alike i_first_Alike := .of Try.func36 (by kernel_rfl) (by kernel_rfl) (by kernel_rfl)
theorem ok_ref11_Same : FnOk Try.prog pm f_ref11_Same i_ref11_Same := .of Try.func40 (by kernel_rfl) (by kernel_rfl) (by kernel_rfl)
theorem ok_tabs_pens : FnOk Try.prog pm f_tabs_pens i_tabs_pens := .of Try.func58 (by kernel_rfl) (by kernel_rfl) (by kernel_rfl)
theorem ok_trim_from : FnOk Try.prog pm f_trim_from i_trim_from := .of Try.func62 (by kernel_rfl) (by kernel_rfl) (by kernel_rfl)
theorem ok_law15_lines : FnOk Try.prog pm f_law15_lines i_law15_lines := .of Try.func73 (by kernel_rfl) (by kernel_rfl) (by kernel_rfl)
theorem ok_ref14_One : FnOk Try.prog pm f_ref14_One i_ref14_One := .of Try.func77 (by kernel_rfl) (by kernel_rfl) (by kernel_rfl)
theorem ok_slices_Clone_api_Cell : FnOk Try.prog pm f_slices_Clone_api_Cell i_slices_Clone_api_Cell := .of Try.func81 (by kernel_rfl) (by kernel_rfl) (by kernel_rfl)
theorem ok_unit_fit : FnOk Try.prog pm f_unit_fit i_unit_fit := .of Try.func104 (by kernel_rfl) (by kernel_rfl) (by kernel_rfl)
theorem ok_trim_from_1 : FnOk Try.prog pm f_trim_from_1 i_trim_from_1 := .of Try.func108 (by kernel_rfl) (by kernel_rfl) (by kernel_rfl)
theorem ok_fill_soft : FnOk Try.prog pm f_fill_soft i_fill_soft := .of Try.func117 (by kernel_rfl) (by kernel_rfl) (by kernel_rfl)
theorem ok_ref14_run : FnOk Try.prog pm f_ref14_run i_ref14_run := .of Try.func121 (by kernel_rfl) (by kernel_rfl) (by kernel_rfl)
theorem ok_fill_ends_1 : FnOk Try.prog pm f_fill_ends_1 i_fill_ends_1 := .of Try.func132 (by kernel_rfl) (by kernel_rfl) (by kernel_rfl)
theorem ok_ref13_edge : FnOk Try.prog pm f_ref13_edge i_ref13_edge := .of Try.func158 (by kernel_rfl) (by kernel_rfl) (by kernel_rfl)
theorem ok_ref13_Roles : FnOk Try.prog pm f_ref13_Roles i_ref13_Roles := .of Try.func162 (by kernel_rfl) (by kernel_rfl) (by kernel_rfl)
theorem ok_ref12_Step : FnOk Try.prog pm f_ref12_Step i_ref12_Step := .of Try.func166 (by kernel_rfl) (by kernel_rfl) (by kernel_rfl)

end Go.Proofs.Ytnekgoanadbmmaa
