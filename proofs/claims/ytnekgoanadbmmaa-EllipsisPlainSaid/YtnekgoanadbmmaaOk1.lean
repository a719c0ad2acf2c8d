/-
Each function's text in Mini is what the program has.
-/
import Derived.Test.YtnekgoanadbmmaaIp
import Derived.Test.YtnekgoanadbmmaaChecked
namespace Go.Proofs.Ytnekgoanadbmmaa
open Go.Mini

theorem ok_law26_EllipsisFits : FnOk Try.prog pm f_law26_EllipsisFits i_law26_EllipsisFits := .of Try.func4 (by kernel_rfl) (by kernel_rfl) (by kernel_rfl)
theorem ok_trim_Roles : FnOk Try.prog pm f_trim_Roles i_trim_Roles := .of Try.func16 (by kernel_rfl) (by kernel_rfl) (by kernel_rfl)
theorem ok_ellipsis_Whole : FnOk Try.prog pm f_ellipsis_Whole i_ellipsis_Whole := .of Try.func50 (by kernel_rfl) (by kernel_rfl) (by kernel_rfl)
theorem ok_ellipsis_first : FnOk Try.prog pm f_ellipsis_first i_ellipsis_first := .of Try.func54 (by kernel_rfl) (by kernel_rfl) (by kernel_rfl)
theorem ok_tabs_pens : FnOk Try.prog pm f_tabs_pens i_tabs_pens := .of Try.func58 (by kernel_rfl) (by kernel_rfl) (by kernel_rfl)
theorem ok_trim_from : FnOk Try.prog pm f_trim_from i_trim_from := .of Try.func62 (by kernel_rfl) (by kernel_rfl) (by kernel_rfl)
theorem ok_slices_Collect_int : FnOk Try.prog pm f_slices_Collect_int i_slices_Collect_int := .of Try.func99 (by kernel_rfl) (by kernel_rfl) (by kernel_rfl)
theorem ok_unit_fit : FnOk Try.prog pm f_unit_fit i_unit_fit := .of Try.func104 (by kernel_rfl) (by kernel_rfl) (by kernel_rfl)
theorem ok_trim_from_1 : FnOk Try.prog pm f_trim_from_1 i_trim_from_1 := .of Try.func108 (by kernel_rfl) (by kernel_rfl) (by kernel_rfl)
theorem ok_class_spans : FnOk Try.prog pm f_class_spans i_class_spans := .of Try.func138 (by kernel_rfl) (by kernel_rfl) (by kernel_rfl)

end Go.Proofs.Ytnekgoanadbmmaa
