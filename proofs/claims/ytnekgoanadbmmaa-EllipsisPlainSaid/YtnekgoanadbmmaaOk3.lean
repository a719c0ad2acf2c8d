/-
Each function's text in Mini is what the program has.
-/
import Derived.Test.YtnekgoanadbmmaaIp
import Derived.Test.YtnekgoanadbmmaaChecked
namespace Go.Proofs.Ytnekgoanadbmmaa
open Go.Mini

theorem ok_ellipsis_Cut : FnOk Try.prog pm f_ellipsis_Cut i_ellipsis_Cut := .of Try.func14 (by kernel_rfl) (by kernel_rfl) (by kernel_rfl)
theorem ok_trim_Fits : FnOk Try.prog pm f_trim_Fits i_trim_Fits := .of Try.func18 (by kernel_rfl) (by kernel_rfl) (by kernel_rfl)
theorem ok_law26_is : FnOk Try.prog pm f_law26_is i_law26_is := .of Try.func52 (by kernel_rfl) (by kernel_rfl) (by kernel_rfl)
theorem ok_ellipsis_Cut_1 : FnOk Try.prog pm f_ellipsis_Cut_1 i_ellipsis_Cut_1 := .of Try.func56 (by kernel_rfl) (by kernel_rfl) (by kernel_rfl)
theorem ok_trim_Roles_2 : FnOk Try.prog pm f_trim_Roles_2 i_trim_Roles_2 := .of Try.func60 (by kernel_rfl) (by kernel_rfl) (by kernel_rfl)
theorem ok_tabs_End : FnOk Try.prog pm f_tabs_End i_tabs_End := .of Try.func64 (by kernel_rfl) (by kernel_rfl) (by kernel_rfl)
theorem ok_law26_cuts : FnOk Try.prog pm f_law26_cuts i_law26_cuts := .of Try.func101 (by kernel_rfl) (by kernel_rfl) (by kernel_rfl)
theorem ok_tabs_role : FnOk Try.prog pm f_tabs_role i_tabs_role := .of Try.func106 (by kernel_rfl) (by kernel_rfl) (by kernel_rfl)
theorem ok_slices_AppendSeq_int : FnOk Try.prog pm f_slices_AppendSeq_int i_slices_AppendSeq_int := .of Try.func129 (by kernel_rfl) (by kernel_rfl) (by kernel_rfl)
theorem ok_class_Of_1 : FnOk Try.prog pm f_class_Of_1 i_class_Of_1 := .of Try.func140 (by kernel_rfl) (by kernel_rfl) (by kernel_rfl)

end Go.Proofs.Ytnekgoanadbmmaa
