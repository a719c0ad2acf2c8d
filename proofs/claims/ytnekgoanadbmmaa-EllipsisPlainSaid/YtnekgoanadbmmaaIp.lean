/-
The program's functions, by number.
-/
import Derived.Test.YtnekgoanadbmmaaIr0
namespace Go.Proofs.Ytnekgoanadbmmaa
open Go.Mini

def fns : List (Nat × IFn) := [
  (f_law26_EllipsisPlain, i_law26_EllipsisPlain),
  (f_law26_EllipsisFits, i_law26_EllipsisFits),
  (f_law26_head, i_law26_head),
  (f_ellipsis_Cut, i_ellipsis_Cut),
  (f_tabs_Pens, i_tabs_Pens),
  (f_trim_Roles, i_trim_Roles),
  (f_law26_great, i_law26_great),
  (f_trim_Fits, i_trim_Fits),
  (f_trim_Goes, i_trim_Goes),
  (f_ellipsis_Whole, i_ellipsis_Whole),
  (f_ellipsis_Places, i_ellipsis_Places),
  (f_law26_is, i_law26_is),
  (f_ellipsis_within, i_ellipsis_within),
  (f_ellipsis_first, i_ellipsis_first),
  (f_ellipsis_back, i_ellipsis_back),
  (f_ellipsis_Cut_1, i_ellipsis_Cut_1),
  (f_unit_Sum, i_unit_Sum),
  (f_tabs_pens, i_tabs_pens),
  (f_trim_Roles_1, i_trim_Roles_1),
  (f_trim_Roles_2, i_trim_Roles_2),
  (f_trim_edge, i_trim_edge),
  (f_trim_from, i_trim_from),
  (f_trim_Roles_3, i_trim_Roles_3),
  (f_tabs_End, i_tabs_End),
  (f_class_Mark, i_class_Mark),
  (f_slices_Collect_int, i_slices_Collect_int),
  (f_slices_Reverse_int, i_slices_Reverse_int),
  (f_law26_cuts, i_law26_cuts),
  (f_ellipsis_back_1, i_ellipsis_back_1),
  (f_unit_fit, i_unit_fit),
  (f_tabs_pens_1, i_tabs_pens_1),
  (f_tabs_role, i_tabs_role),
  (f_tabs_Step, i_tabs_Step),
  (f_trim_from_1, i_trim_from_1),
  (f_class_Of, i_class_Of),
  (f_slices_AppendSeq_int, i_slices_AppendSeq_int),
  (f_unit_Stop, i_unit_Stop),
  (f_class_spans, i_class_spans),
  (f_sort_Search, i_sort_Search),
  (f_class_Of_1, i_class_Of_1)]

def prims (f : Nat) : Option (List MV → Option MV) := bif Nat.beq f f_bits_Add64 then some add64P else none

def pms : List Nat := [f_tabs_Pens, f_ellipsis_back, f_tabs_pens, f_bits_Add64, f_law26_EllipsisPlain + 2097152, f_law26_EllipsisFits + 2097152, f_law26_head + 2097152, f_ellipsis_Cut + 2097152, f_trim_Roles + 2097152, f_law26_great + 2097152, f_trim_Fits + 2097152, f_trim_Goes + 2097152, f_ellipsis_Whole + 2097152, f_ellipsis_Places + 2097152, f_law26_is + 2097152, f_ellipsis_within + 2097152, f_ellipsis_first + 2097152, f_ellipsis_Cut_1 + 2097152, f_unit_Sum + 2097152, f_trim_Roles_2 + 2097152, f_trim_edge + 2097152, f_trim_Roles_3 + 2097152, f_tabs_End + 2097152, f_class_Mark + 2097152, f_slices_Collect_int + 2097152, f_law26_cuts + 2097152, f_unit_fit + 2097152, f_tabs_role + 2097152, f_tabs_Step + 2097152, f_class_Of + 2097152, f_slices_AppendSeq_int + 2097152, f_unit_Stop + 2097152, f_class_spans + 2097152, f_sort_Search + 2097152, f_class_Of_1 + 2097152]
def pm (f : Nat) : Bool := pms.contains f

def ip : IProg := ⟨findF fns, prims⟩

theorem fn_law26_EllipsisPlain : ip.fn f_law26_EllipsisPlain = some i_law26_EllipsisPlain := by kernel_rfl
theorem fn_law26_EllipsisFits : ip.fn f_law26_EllipsisFits = some i_law26_EllipsisFits := by kernel_rfl
theorem fn_law26_head : ip.fn f_law26_head = some i_law26_head := by kernel_rfl
theorem fn_ellipsis_Cut : ip.fn f_ellipsis_Cut = some i_ellipsis_Cut := by kernel_rfl
theorem fn_tabs_Pens : ip.fn f_tabs_Pens = some i_tabs_Pens := by kernel_rfl
theorem fn_trim_Roles : ip.fn f_trim_Roles = some i_trim_Roles := by kernel_rfl
theorem fn_law26_great : ip.fn f_law26_great = some i_law26_great := by kernel_rfl
theorem fn_trim_Fits : ip.fn f_trim_Fits = some i_trim_Fits := by kernel_rfl
theorem fn_trim_Goes : ip.fn f_trim_Goes = some i_trim_Goes := by kernel_rfl
theorem fn_ellipsis_Whole : ip.fn f_ellipsis_Whole = some i_ellipsis_Whole := by kernel_rfl
theorem fn_ellipsis_Places : ip.fn f_ellipsis_Places = some i_ellipsis_Places := by kernel_rfl
theorem fn_law26_is : ip.fn f_law26_is = some i_law26_is := by kernel_rfl
theorem fn_ellipsis_within : ip.fn f_ellipsis_within = some i_ellipsis_within := by kernel_rfl
theorem fn_ellipsis_first : ip.fn f_ellipsis_first = some i_ellipsis_first := by kernel_rfl
theorem fn_ellipsis_back : ip.fn f_ellipsis_back = some i_ellipsis_back := by kernel_rfl
theorem fn_ellipsis_Cut_1 : ip.fn f_ellipsis_Cut_1 = some i_ellipsis_Cut_1 := by kernel_rfl
theorem fn_unit_Sum : ip.fn f_unit_Sum = some i_unit_Sum := by kernel_rfl
theorem fn_tabs_pens : ip.fn f_tabs_pens = some i_tabs_pens := by kernel_rfl
theorem fn_trim_Roles_1 : ip.fn f_trim_Roles_1 = some i_trim_Roles_1 := by kernel_rfl
theorem fn_trim_Roles_2 : ip.fn f_trim_Roles_2 = some i_trim_Roles_2 := by kernel_rfl
theorem fn_trim_edge : ip.fn f_trim_edge = some i_trim_edge := by kernel_rfl
theorem fn_trim_from : ip.fn f_trim_from = some i_trim_from := by kernel_rfl
theorem fn_trim_Roles_3 : ip.fn f_trim_Roles_3 = some i_trim_Roles_3 := by kernel_rfl
theorem fn_tabs_End : ip.fn f_tabs_End = some i_tabs_End := by kernel_rfl
theorem fn_class_Mark : ip.fn f_class_Mark = some i_class_Mark := by kernel_rfl
theorem fn_slices_Collect_int : ip.fn f_slices_Collect_int = some i_slices_Collect_int := by kernel_rfl
theorem fn_slices_Reverse_int : ip.fn f_slices_Reverse_int = some i_slices_Reverse_int := by kernel_rfl
theorem fn_law26_cuts : ip.fn f_law26_cuts = some i_law26_cuts := by kernel_rfl
theorem fn_ellipsis_back_1 : ip.fn f_ellipsis_back_1 = some i_ellipsis_back_1 := by kernel_rfl
theorem fn_unit_fit : ip.fn f_unit_fit = some i_unit_fit := by kernel_rfl
theorem fn_tabs_pens_1 : ip.fn f_tabs_pens_1 = some i_tabs_pens_1 := by kernel_rfl
theorem fn_tabs_role : ip.fn f_tabs_role = some i_tabs_role := by kernel_rfl
theorem fn_tabs_Step : ip.fn f_tabs_Step = some i_tabs_Step := by kernel_rfl
theorem fn_trim_from_1 : ip.fn f_trim_from_1 = some i_trim_from_1 := by kernel_rfl
theorem fn_class_Of : ip.fn f_class_Of = some i_class_Of := by kernel_rfl
theorem fn_slices_AppendSeq_int : ip.fn f_slices_AppendSeq_int = some i_slices_AppendSeq_int := by kernel_rfl
theorem fn_unit_Stop : ip.fn f_unit_Stop = some i_unit_Stop := by kernel_rfl
theorem fn_class_spans : ip.fn f_class_spans = some i_class_spans := by kernel_rfl
theorem fn_sort_Search : ip.fn f_sort_Search = some i_sort_Search := by kernel_rfl
theorem fn_class_Of_1 : ip.fn f_class_Of_1 = some i_class_Of_1 := by kernel_rfl

end Go.Proofs.Ytnekgoanadbmmaa
