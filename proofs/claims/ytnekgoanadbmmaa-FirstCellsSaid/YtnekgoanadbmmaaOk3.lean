/-
Each function's text in Mini is what the program has.
-/
import Derived.Test.YtnekgoanadbmmaaIp
import Derived.Test.YtnekgoanadbmmaaChecked
namespace Go.Proofs.Ytnekgoanadbmmaa
open Go.Mini

theorem ok_law15_FirstSame : FnOk Try.prog pm f_law15_FirstSame i_law15_FirstSame := .of Try.func9 (by kernel_rfl) (by kernel_rfl) (by kernel_rfl)
theorem ok_trim_Goes : FnOk Try.prog pm f_trim_Goes i_trim_Goes := .of Try.func19 (by kernel_rfl) (by kernel_rfl) (by kernel_rfl)
theorem ok_ref15_Lines : FnOk Try.prog pm f_ref15_Lines i_ref15_Lines := .of Try.func34 (by kernel_rfl) (by kernel_rfl) (by kernel_rfl)
theorem ok_first_Cells : FnOk Try.prog pm f_first_Cells i_first_Cells := .of Try.func38 (by kernel_rfl) (by kernel_rfl) (by kernel_rfl)
theorem ok_fill_One : FnOk Try.prog pm f_fill_One i_fill_One := .of Try.func42 (by kernel_rfl) (by kernel_rfl) (by kernel_rfl)
theorem ok_trim_Roles_2 : FnOk Try.prog pm f_trim_Roles_2 i_trim_Roles_2 := .of Try.func60 (by kernel_rfl) (by kernel_rfl) (by kernel_rfl)
theorem ok_tabs_End : FnOk Try.prog pm f_tabs_End i_tabs_End := .of Try.func64 (by kernel_rfl) (by kernel_rfl) (by kernel_rfl)
theorem ok_first_lines : FnOk Try.prog pm f_first_lines i_first_lines := .of Try.func75 (by kernel_rfl) (by kernel_rfl) (by kernel_rfl)
theorem ok_slices_EqualFunc_api_Cell : FnOk Try.prog pm f_slices_EqualFunc_api_Cell i_slices_EqualFunc_api_Cell := .of Try.func79 (by kernel_rfl) (by kernel_rfl) (by kernel_rfl)
theorem ok_fill_reach : FnOk Try.prog pm f_fill_reach i_fill_reach := .of Try.func83 (by kernel_rfl) (by kernel_rfl) (by kernel_rfl)
theorem ok_tabs_role : FnOk Try.prog pm f_tabs_role i_tabs_role := .of Try.func106 (by kernel_rfl) (by kernel_rfl) (by kernel_rfl)
theorem ok_fill_list : FnOk Try.prog pm f_fill_list i_fill_list := .of Try.func115 (by kernel_rfl) (by kernel_rfl) (by kernel_rfl)
theorem ok_first_lines_1 : FnOk Try.prog pm f_first_lines_1 i_first_lines_1 := .of Try.func119 (by kernel_rfl) (by kernel_rfl) (by kernel_rfl)
theorem ok_ref14_Last : FnOk Try.prog pm f_ref14_Last i_ref14_Last := .of Try.func123 (by kernel_rfl) (by kernel_rfl) (by kernel_rfl)
theorem ok_ref13_Blank : FnOk Try.prog pm f_ref13_Blank i_ref13_Blank := .of Try.func134 (by kernel_rfl) (by kernel_rfl) (by kernel_rfl)
theorem ok_ref13_Fits : FnOk Try.prog pm f_ref13_Fits i_ref13_Fits := .of Try.func160 (by kernel_rfl) (by kernel_rfl) (by kernel_rfl)
theorem ok_ref12_Pens : FnOk Try.prog pm f_ref12_Pens i_ref12_Pens := .of Try.func164 (by kernel_rfl) (by kernel_rfl) (by kernel_rfl)
theorem ok_ref01_Stop : FnOk Try.prog pm f_ref01_Stop i_ref01_Stop := .of Try.func168 (by kernel_rfl) (by kernel_rfl) (by kernel_rfl)

end Go.Proofs.Ytnekgoanadbmmaa
