/-
Each function's text in Mini is what the program has.
-/
import Derived.Test.YtnekgoanadbmmaaIp
import Derived.Test.YtnekgoanadbmmaaChecked
namespace Go.Proofs.Ytnekgoanadbmmaa
open Go.Mini

theorem ok_law15_FirstWide : FnOk Try.prog pm f_law15_FirstWide i_law15_FirstWide := .of Try.func8 (by kernel_rfl) (by kernel_rfl) (by kernel_rfl)
theorem ok_trim_Fits : FnOk Try.prog pm f_trim_Fits i_trim_Fits := .of Try.func18 (by kernel_rfl) (by kernel_rfl) (by kernel_rfl)
theorem ok_first_Lines : FnOk Try.prog pm f_first_Lines i_first_Lines := .of Try.func33 (by kernel_rfl) (by kernel_rfl) (by kernel_rfl)
theorem ok_ref15_Alike : FnOk Try.prog pm f_ref15_Alike i_ref15_Alike := .of Try.func37 (by kernel_rfl) (by kernel_rfl) (by kernel_rfl)
theorem ok_fill_Lines : FnOk Try.prog pm f_fill_Lines i_fill_Lines := .of Try.func41 (by kernel_rfl) (by kernel_rfl) (by kernel_rfl)
theorem ok_trim_Roles_1 : FnOk Try.prog pm f_trim_Roles_1 i_trim_Roles_1 := .of Try.func59 (by kernel_rfl) (by kernel_rfl) (by kernel_rfl)
theorem ok_trim_Roles_3 : FnOk Try.prog pm f_trim_Roles_3 i_trim_Roles_3 := .of Try.func63 (by kernel_rfl) (by kernel_rfl) (by kernel_rfl)
theorem ok_fill_Ends : FnOk Try.prog pm f_fill_Ends i_fill_Ends := .of Try.func74 (by kernel_rfl) (by kernel_rfl) (by kernel_rfl)
theorem ok_ref14_Lines : FnOk Try.prog pm f_ref14_Lines i_ref14_Lines := .of Try.func78 (by kernel_rfl) (by kernel_rfl) (by kernel_rfl)
theorem ok_fill_One_1 : FnOk Try.prog pm f_fill_One_1 i_fill_One_1 := .of Try.func82 (by kernel_rfl) (by kernel_rfl) (by kernel_rfl)
theorem ok_tabs_pens_1 : FnOk Try.prog pm f_tabs_pens_1 i_tabs_pens_1 := .of Try.func105 (by kernel_rfl) (by kernel_rfl) (by kernel_rfl)
theorem ok_fill_may : FnOk Try.prog pm f_fill_may i_fill_may := .of Try.func114 (by kernel_rfl) (by kernel_rfl) (by kernel_rfl)
theorem ok_fill_emergency : FnOk Try.prog pm f_fill_emergency i_fill_emergency := .of Try.func118 (by kernel_rfl) (by kernel_rfl) (by kernel_rfl)
theorem ok_ref14_ahead : FnOk Try.prog pm f_ref14_ahead i_ref14_ahead := .of Try.func122 (by kernel_rfl) (by kernel_rfl) (by kernel_rfl)
theorem ok_trim_Blank : FnOk Try.prog pm f_trim_Blank i_trim_Blank := .of Try.func133 (by kernel_rfl) (by kernel_rfl) (by kernel_rfl)
theorem ok_ref13_Role : FnOk Try.prog pm f_ref13_Role i_ref13_Role := .of Try.func159 (by kernel_rfl) (by kernel_rfl) (by kernel_rfl)
theorem ok_ref12_End : FnOk Try.prog pm f_ref12_End i_ref12_End := .of Try.func163 (by kernel_rfl) (by kernel_rfl) (by kernel_rfl)
theorem ok_ref01_Sum : FnOk Try.prog pm f_ref01_Sum i_ref01_Sum := .of Try.func167 (by kernel_rfl) (by kernel_rfl) (by kernel_rfl)

end Go.Proofs.Ytnekgoanadbmmaa
