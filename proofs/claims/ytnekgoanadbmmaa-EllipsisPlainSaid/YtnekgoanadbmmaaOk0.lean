/-
Each function's text in Mini is what the program has.
-/
import Derived.Test.YtnekgoanadbmmaaIp
import Derived.Test.YtnekgoanadbmmaaChecked
namespace Go.Proofs.Ytnekgoanadbmmaa
open Go.Mini

theorem ok_law26_EllipsisPlain : FnOk Try.prog pm f_law26_EllipsisPlain i_law26_EllipsisPlain := .of Try.func3 (by kernel_rfl) (by kernel_rfl) (by kernel_rfl)
theorem ok_tabs_Pens : FnOk Try.prog pm f_tabs_Pens i_tabs_Pens := .of Try.func15 (by kernel_rfl) (by kernel_rfl) (by kernel_rfl)
theorem ok_trim_Goes : FnOk Try.prog pm f_trim_Goes i_trim_Goes := .of Try.func19 (by kernel_rfl) (by kernel_rfl) (by kernel_rfl)
theorem ok_ellipsis_within : FnOk Try.prog pm f_ellipsis_within i_ellipsis_within := .of Try.func53 (by kernel_rfl) (by kernel_rfl) (by kernel_rfl)
theorem ok_unit_Sum : FnOk Try.prog pm f_unit_Sum i_unit_Sum := .of Try.func57 (by kernel_rfl) (by kernel_rfl) (by kernel_rfl)
theorem ok_trim_edge : FnOk Try.prog pm f_trim_edge i_trim_edge := .of Try.func61 (by kernel_rfl) (by kernel_rfl) (by kernel_rfl)
theorem ok_class_Mark : FnOk Try.prog pm f_class_Mark i_class_Mark := .of Try.func98 (by kernel_rfl) (by kernel_rfl) (by kernel_rfl)
theorem ok_ellipsis_back_1 : FnOk Try.prog pm f_ellipsis_back_1 i_ellipsis_back_1 := .of Try.func102 (by kernel_rfl) (by kernel_rfl) (by kernel_rfl)
theorem ok_tabs_Step : FnOk Try.prog pm f_tabs_Step i_tabs_Step := .of Try.func107 (by kernel_rfl) (by kernel_rfl) (by kernel_rfl)
theorem ok_unit_Stop : FnOk Try.prog pm f_unit_Stop i_unit_Stop := .of Try.func130 (by kernel_rfl) (by kernel_rfl) (by kernel_rfl)

end Go.Proofs.Ytnekgoanadbmmaa
