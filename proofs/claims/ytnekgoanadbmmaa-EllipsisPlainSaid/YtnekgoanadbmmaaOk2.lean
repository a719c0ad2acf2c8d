/-
Each function's text in Mini is what the program has.
-/
import Derived.Test.YtnekgoanadbmmaaIp
import Derived.Test.YtnekgoanadbmmaaChecked
namespace Go.Proofs.Ytnekgoanadbmmaa
open Go.Mini

theorem ok_law26_head : FnOk Try.prog pm f_law26_head i_law26_head := .of Try.func13 (by kernel_rfl) (by kernel_rfl) (by kernel_rfl)
theorem ok_law26_great : FnOk Try.prog pm f_law26_great i_law26_great := .of Try.func17 (by kernel_rfl) (by kernel_rfl) (by kernel_rfl)
theorem ok_ellipsis_Places : FnOk Try.prog pm f_ellipsis_Places i_ellipsis_Places := .of Try.func51 (by kernel_rfl) (by kernel_rfl) (by kernel_rfl)
theorem ok_ellipsis_back : FnOk Try.prog pm f_ellipsis_back i_ellipsis_back := .of Try.func55 (by kernel_rfl) (by kernel_rfl) (by kernel_rfl)
theorem ok_trim_Roles_1 : FnOk Try.prog pm f_trim_Roles_1 i_trim_Roles_1 := .of Try.func59 (by kernel_rfl) (by kernel_rfl) (by kernel_rfl)
theorem ok_trim_Roles_3 : FnOk Try.prog pm f_trim_Roles_3 i_trim_Roles_3 := .of Try.func63 (by kernel_rfl) (by kernel_rfl) (by kernel_rfl)
theorem ok_slices_Reverse_int : FnOk Try.prog pm f_slices_Reverse_int i_slices_Reverse_int := .of Try.func100 (by kernel_rfl) (by kernel_rfl) (by kernel_rfl)
theorem ok_tabs_pens_1 : FnOk Try.prog pm f_tabs_pens_1 i_tabs_pens_1 := .of Try.func105 (by kernel_rfl) (by kernel_rfl) (by kernel_rfl)
theorem ok_class_Of : FnOk Try.prog pm f_class_Of i_class_Of := .of Try.func128 (by kernel_rfl) (by kernel_rfl) (by kernel_rfl)
theorem ok_sort_Search : FnOk Try.prog pm f_sort_Search i_sort_Search := .of Try.func139 (by kernel_rfl) (by kernel_rfl) (by kernel_rfl)

end Go.Proofs.Ytnekgoanadbmmaa
