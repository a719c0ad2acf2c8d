/-
Each function's text in Mini is what the program has.
-/
import Derived.Test.YtnekgoanadbmmaaIp
import Derived.Test.YtnekgoanadbmmaaChecked
namespace Go.Proofs.Ytnekgoanadbmmaa
open Go.Mini

theorem ok_law15_FirstLines : FnOk Try.prog pm f_law15_FirstLines i_law15_FirstLines := .of Try.func6 (by kernel_rfl) (by kernel_rfl) (by kernel_rfl)
theorem ok_tabs_Pens : FnOk Try.prog pm f_tabs_Pens i_tabs_Pens := .of Try.func15 (by kernel_rfl) (by kernel_rfl) (by kernel_rfl)
theorem ok_law15_great : FnOk Try.prog pm f_law15_great i_law15_great := .of Try.func31 (by kernel_rfl) (by kernel_rfl) (by kernel_rfl)
theorem ok_ref14_Same : FnOk Try.prog pm f_ref14_Same i_ref14_Same := .of Try.func35 (by kernel_rfl) (by kernel_rfl) (by kernel_rfl)
theorem ok_ref15_Cells : FnOk Try.prog pm f_ref15_Cells i_ref15_Cells := .of Try.func39 (by kernel_rfl) (by kernel_rfl) (by kernel_rfl)
theorem ok_unit_Sum : FnOk Try.prog pm f_unit_Sum i_unit_Sum := .of Try.func57 (by kernel_rfl) (by kernel_rfl) (by kernel_rfl)
theorem ok_trim_edge : FnOk Try.prog pm f_trim_edge i_trim_edge := .of Try.func61 (by kernel_rfl) (by kernel_rfl) (by kernel_rfl)
theorem ok_law15_three : FnOk Try.prog pm f_law15_three i_law15_three := .of Try.func72 (by kernel_rfl) (by kernel_rfl) (by kernel_rfl)
theorem ok_ref14_May : FnOk Try.prog pm f_ref14_May i_ref14_May := .of Try.func76 (by kernel_rfl) (by kernel_rfl) (by kernel_rfl)
theorem ok_first_Alike_1 : FnOk Try.prog pm f_first_Alike_1 i_first_Alike_1 := .of Try.func80 (by kernel_rfl) (by kernel_rfl) (by kernel_rfl)
theorem ok_fill_last : FnOk Try.prog pm f_fill_last i_fill_last := .of Try.func84 (by kernel_rfl) (by kernel_rfl) (by kernel_rfl)
theorem ok_tabs_Step : FnOk Try.prog pm f_tabs_Step i_tabs_Step := .of Try.func107 (by kernel_rfl) (by kernel_rfl) (by kernel_rfl)
theorem ok_fill_ends : FnOk Try.prog pm f_fill_ends i_fill_ends := .of Try.func116 (by kernel_rfl) (by kernel_rfl) (by kernel_rfl)
theorem ok_ref14_Ends : FnOk Try.prog pm f_ref14_Ends i_ref14_Ends := .of Try.func120 (by kernel_rfl) (by kernel_rfl) (by kernel_rfl)
theorem ok_unit_Stop : FnOk Try.prog pm f_unit_Stop i_unit_Stop := .of Try.func130 (by kernel_rfl) (by kernel_rfl) (by kernel_rfl)
theorem ok_ref14_Fits : FnOk Try.prog pm f_ref14_Fits i_ref14_Fits := .of Try.func135 (by kernel_rfl) (by kernel_rfl) (by kernel_rfl)
theorem ok_ref13_just : FnOk Try.prog pm f_ref13_just i_ref13_just := .of Try.func161 (by kernel_rfl) (by kernel_rfl) (by kernel_rfl)
theorem ok_ref12_fits : FnOk Try.prog pm f_ref12_fits i_ref12_fits := .of Try.func165 (by kernel_rfl) (by kernel_rfl) (by kernel_rfl)
theorem ok_ref01_fits : FnOk Try.prog pm f_ref01_fits i_ref01_fits := .of Try.func169 (by kernel_rfl) (by kernel_rfl) (by kernel_rfl)

end Go.Proofs.Ytnekgoanadbmmaa
