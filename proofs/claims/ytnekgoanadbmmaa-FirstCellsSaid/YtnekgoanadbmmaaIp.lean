/-
The program's functions, by number.
-/
import Derived.Test.YtnekgoanadbmmaaIr0
namespace Go.Proofs.Ytnekgoanadbmmaa
open Go.Mini

def fns : List (Nat × IFn) := [
  (f_law15_FirstLines, i_law15_FirstLines),
  (f_law15_FirstCells, i_law15_FirstCells),
  (f_law15_FirstWide, i_law15_FirstWide),
  (f_law15_FirstSame, i_law15_FirstSame),
  (f_tabs_Pens, i_tabs_Pens),
  (f_trim_Roles, i_trim_Roles),
  (f_trim_Fits, i_trim_Fits),
  (f_trim_Goes, i_trim_Goes),
  (f_law15_great, i_law15_great),
  (f_law15_head, i_law15_head),
  (f_first_Lines, i_first_Lines),
  (f_ref15_Lines, i_ref15_Lines),
  (f_ref14_Same, i_ref14_Same),
  (f_first_Alike, i_first_Alike),
  (f_ref15_Alike, i_ref15_Alike),
  (f_first_Cells, i_first_Cells),
  (f_ref15_Cells, i_ref15_Cells),
  (f_ref11_Same, i_ref11_Same),
  (f_fill_Lines, i_fill_Lines),
  (f_fill_One, i_fill_One),
  (f_unit_Sum, i_unit_Sum),
  (f_tabs_pens, i_tabs_pens),
  (f_trim_Roles_1, i_trim_Roles_1),
  (f_trim_Roles_2, i_trim_Roles_2),
  (f_trim_edge, i_trim_edge),
  (f_trim_from, i_trim_from),
  (f_trim_Roles_3, i_trim_Roles_3),
  (f_tabs_End, i_tabs_End),
  (f_law15_three, i_law15_three),
  (f_law15_lines, i_law15_lines),
  (f_fill_Ends, i_fill_Ends),
  (f_first_lines, i_first_lines),
  (f_ref14_May, i_ref14_May),
  (f_ref14_One, i_ref14_One),
  (f_ref14_Lines, i_ref14_Lines),
  (f_slices_EqualFunc_api_Cell, i_slices_EqualFunc_api_Cell),
  (f_first_Alike_1, i_first_Alike_1),
  (f_slices_Clone_api_Cell, i_slices_Clone_api_Cell),
  (f_fill_One_1, i_fill_One_1),
  (f_fill_reach, i_fill_reach),
  (f_fill_last, i_fill_last),
  (f_unit_fit, i_unit_fit),
  (f_tabs_pens_1, i_tabs_pens_1),
  (f_tabs_role, i_tabs_role),
  (f_tabs_Step, i_tabs_Step),
  (f_trim_from_1, i_trim_from_1),
  (f_fill_may, i_fill_may),
  (f_fill_list, i_fill_list),
  (f_fill_ends, i_fill_ends),
  (f_fill_soft, i_fill_soft),
  (f_fill_emergency, i_fill_emergency),
  (f_first_lines_1, i_first_lines_1),
  (f_ref14_Ends, i_ref14_Ends),
  (f_ref14_run, i_ref14_run),
  (f_ref14_ahead, i_ref14_ahead),
  (f_ref14_Last, i_ref14_Last),
  (f_unit_Stop, i_unit_Stop),
  (f_fill_ends_1, i_fill_ends_1),
  (f_trim_Blank, i_trim_Blank),
  (f_ref13_Blank, i_ref13_Blank),
  (f_ref14_Fits, i_ref14_Fits),
  (f_ref13_edge, i_ref13_edge),
  (f_ref13_Role, i_ref13_Role),
  (f_ref13_Fits, i_ref13_Fits),
  (f_ref13_just, i_ref13_just),
  (f_ref13_Roles, i_ref13_Roles),
  (f_ref12_End, i_ref12_End),
  (f_ref12_Pens, i_ref12_Pens),
  (f_ref12_fits, i_ref12_fits),
  (f_ref12_Step, i_ref12_Step),
  (f_ref01_Sum, i_ref01_Sum),
  (f_ref01_Stop, i_ref01_Stop),
  (f_ref01_fits, i_ref01_fits)]

def prims (f : Nat) : Option (List MV → Option MV) := bif Nat.beq f f_bits_Add64 then some add64P else none

def pms : List Nat := [f_tabs_Pens, f_ref15_Lines, f_first_Cells, f_ref15_Cells, f_tabs_pens, f_law15_three, f_first_lines, f_ref14_Lines, f_slices_Clone_api_Cell, f_fill_ends, f_ref12_Pens, f_bits_Add64, f_law15_FirstLines + 2097152, f_law15_FirstCells + 2097152, f_law15_FirstWide + 2097152, f_law15_FirstSame + 2097152, f_trim_Roles + 2097152, f_trim_Fits + 2097152, f_trim_Goes + 2097152, f_law15_great + 2097152, f_law15_head + 2097152, f_first_Lines + 2097152, f_ref14_Same + 2097152, f_first_Alike + 2097152, f_ref15_Alike + 2097152, f_ref11_Same + 2097152, f_fill_Lines + 2097152, f_fill_One + 2097152, f_unit_Sum + 2097152, f_trim_Roles_2 + 2097152, f_trim_edge + 2097152, f_trim_Roles_3 + 2097152, f_tabs_End + 2097152, f_law15_lines + 2097152, f_fill_Ends + 2097152, f_ref14_May + 2097152, f_ref14_One + 2097152, f_slices_EqualFunc_api_Cell + 2097152, f_first_Alike_1 + 2097152, f_fill_One_1 + 2097152, f_fill_reach + 2097152, f_fill_last + 2097152, f_unit_fit + 2097152, f_tabs_role + 2097152, f_tabs_Step + 2097152, f_fill_may + 2097152, f_fill_soft + 2097152, f_fill_emergency + 2097152, f_ref14_Ends + 2097152, f_ref14_run + 2097152, f_ref14_ahead + 2097152, f_ref14_Last + 2097152, f_unit_Stop + 2097152, f_trim_Blank + 2097152, f_ref13_Blank + 2097152, f_ref14_Fits + 2097152, f_ref13_edge + 2097152, f_ref13_Role + 2097152, f_ref13_Fits + 2097152, f_ref13_just + 2097152, f_ref13_Roles + 2097152, f_ref12_End + 2097152, f_ref12_fits + 2097152, f_ref12_Step + 2097152, f_ref01_Sum + 2097152, f_ref01_Stop + 2097152, f_ref01_fits + 2097152]
def pm (f : Nat) : Bool := pms.contains f

def ip : IProg := ⟨findF fns, prims⟩

theorem fn_law15_FirstLines : ip.fn f_law15_FirstLines = some i_law15_FirstLines := by kernel_rfl
theorem fn_law15_FirstCells : ip.fn f_law15_FirstCells = some i_law15_FirstCells := by kernel_rfl
theorem fn_law15_FirstWide : ip.fn f_law15_FirstWide = some i_law15_FirstWide := by kernel_rfl
theorem fn_law15_FirstSame : ip.fn f_law15_FirstSame = some i_law15_FirstSame := by kernel_rfl
theorem fn_tabs_Pens : ip.fn f_tabs_Pens = some i_tabs_Pens := by kernel_rfl
theorem fn_trim_Roles : ip.fn f_trim_Roles = some i_trim_Roles := by kernel_rfl
theorem fn_trim_Fits : ip.fn f_trim_Fits = some i_trim_Fits := by kernel_rfl
theorem fn_trim_Goes : ip.fn f_trim_Goes = some i_trim_Goes := by kernel_rfl
theorem fn_law15_great : ip.fn f_law15_great = some i_law15_great := by kernel_rfl
theorem fn_law15_head : ip.fn f_law15_head = some i_law15_head := by kernel_rfl
theorem fn_first_Lines : ip.fn f_first_Lines = some i_first_Lines := by kernel_rfl
theorem fn_ref15_Lines : ip.fn f_ref15_Lines = some i_ref15_Lines := by kernel_rfl
theorem fn_ref14_Same : ip.fn f_ref14_Same = some i_ref14_Same := by kernel_rfl
theorem fn_first_Alike : ip.fn f_first_Alike = some i_first_Alike := by kernel_rfl
theorem fn_ref15_Alike : ip.fn f_ref15_Alike = some i_ref15_Alike := by kernel_rfl
theorem fn_first_Cells : ip.fn f_first_Cells = some i_first_Cells := by kernel_rfl
theorem fn_ref15_Cells : ip.fn f_ref15_Cells = some i_ref15_Cells := by kernel_rfl
theorem fn_ref11_Same : ip.fn f_ref11_Same = some i_ref11_Same := by kernel_rfl
theorem fn_fill_Lines : ip.fn f_fill_Lines = some i_fill_Lines := by kernel_rfl
theorem fn_fill_One : ip.fn f_fill_One = some i_fill_One := by kernel_rfl
theorem fn_unit_Sum : ip.fn f_unit_Sum = some i_unit_Sum := by kernel_rfl
theorem fn_tabs_pens : ip.fn f_tabs_pens = some i_tabs_pens := by kernel_rfl
theorem fn_trim_Roles_1 : ip.fn f_trim_Roles_1 = some i_trim_Roles_1 := by kernel_rfl
theorem fn_trim_Roles_2 : ip.fn f_trim_Roles_2 = some i_trim_Roles_2 := by kernel_rfl
theorem fn_trim_edge : ip.fn f_trim_edge = some i_trim_edge := by kernel_rfl
theorem fn_trim_from : ip.fn f_trim_from = some i_trim_from := by kernel_rfl
theorem fn_trim_Roles_3 : ip.fn f_trim_Roles_3 = some i_trim_Roles_3 := by kernel_rfl
theorem fn_tabs_End : ip.fn f_tabs_End = some i_tabs_End := by kernel_rfl
theorem fn_law15_three : ip.fn f_law15_three = some i_law15_three := by kernel_rfl
theorem fn_law15_lines : ip.fn f_law15_lines = some i_law15_lines := by kernel_rfl
theorem fn_fill_Ends : ip.fn f_fill_Ends = some i_fill_Ends := by kernel_rfl
theorem fn_first_lines : ip.fn f_first_lines = some i_first_lines := by kernel_rfl
theorem fn_ref14_May : ip.fn f_ref14_May = some i_ref14_May := by kernel_rfl
theorem fn_ref14_One : ip.fn f_ref14_One = some i_ref14_One := by kernel_rfl
theorem fn_ref14_Lines : ip.fn f_ref14_Lines = some i_ref14_Lines := by kernel_rfl
theorem fn_slices_EqualFunc_api_Cell : ip.fn f_slices_EqualFunc_api_Cell = some i_slices_EqualFunc_api_Cell := by kernel_rfl
theorem fn_first_Alike_1 : ip.fn f_first_Alike_1 = some i_first_Alike_1 := by kernel_rfl
theorem fn_slices_Clone_api_Cell : ip.fn f_slices_Clone_api_Cell = some i_slices_Clone_api_Cell := by kernel_rfl
theorem fn_fill_One_1 : ip.fn f_fill_One_1 = some i_fill_One_1 := by kernel_rfl
theorem fn_fill_reach : ip.fn f_fill_reach = some i_fill_reach := by kernel_rfl
theorem fn_fill_last : ip.fn f_fill_last = some i_fill_last := by kernel_rfl
theorem fn_unit_fit : ip.fn f_unit_fit = some i_unit_fit := by kernel_rfl
theorem fn_tabs_pens_1 : ip.fn f_tabs_pens_1 = some i_tabs_pens_1 := by kernel_rfl
theorem fn_tabs_role : ip.fn f_tabs_role = some i_tabs_role := by kernel_rfl
theorem fn_tabs_Step : ip.fn f_tabs_Step = some i_tabs_Step := by kernel_rfl
theorem fn_trim_from_1 : ip.fn f_trim_from_1 = some i_trim_from_1 := by kernel_rfl
theorem fn_fill_may : ip.fn f_fill_may = some i_fill_may := by kernel_rfl
theorem fn_fill_list : ip.fn f_fill_list = some i_fill_list := by kernel_rfl
theorem fn_fill_ends : ip.fn f_fill_ends = some i_fill_ends := by kernel_rfl
theorem fn_fill_soft : ip.fn f_fill_soft = some i_fill_soft := by kernel_rfl
theorem fn_fill_emergency : ip.fn f_fill_emergency = some i_fill_emergency := by kernel_rfl
theorem fn_first_lines_1 : ip.fn f_first_lines_1 = some i_first_lines_1 := by kernel_rfl
theorem fn_ref14_Ends : ip.fn f_ref14_Ends = some i_ref14_Ends := by kernel_rfl
theorem fn_ref14_run : ip.fn f_ref14_run = some i_ref14_run := by kernel_rfl
theorem fn_ref14_ahead : ip.fn f_ref14_ahead = some i_ref14_ahead := by kernel_rfl
theorem fn_ref14_Last : ip.fn f_ref14_Last = some i_ref14_Last := by kernel_rfl
theorem fn_unit_Stop : ip.fn f_unit_Stop = some i_unit_Stop := by kernel_rfl
theorem fn_fill_ends_1 : ip.fn f_fill_ends_1 = some i_fill_ends_1 := by kernel_rfl
theorem fn_trim_Blank : ip.fn f_trim_Blank = some i_trim_Blank := by kernel_rfl
theorem fn_ref13_Blank : ip.fn f_ref13_Blank = some i_ref13_Blank := by kernel_rfl
theorem fn_ref14_Fits : ip.fn f_ref14_Fits = some i_ref14_Fits := by kernel_rfl
theorem fn_ref13_edge : ip.fn f_ref13_edge = some i_ref13_edge := by kernel_rfl
theorem fn_ref13_Role : ip.fn f_ref13_Role = some i_ref13_Role := by kernel_rfl
theorem fn_ref13_Fits : ip.fn f_ref13_Fits = some i_ref13_Fits := by kernel_rfl
theorem fn_ref13_just : ip.fn f_ref13_just = some i_ref13_just := by kernel_rfl
theorem fn_ref13_Roles : ip.fn f_ref13_Roles = some i_ref13_Roles := by kernel_rfl
theorem fn_ref12_End : ip.fn f_ref12_End = some i_ref12_End := by kernel_rfl
theorem fn_ref12_Pens : ip.fn f_ref12_Pens = some i_ref12_Pens := by kernel_rfl
theorem fn_ref12_fits : ip.fn f_ref12_fits = some i_ref12_fits := by kernel_rfl
theorem fn_ref12_Step : ip.fn f_ref12_Step = some i_ref12_Step := by kernel_rfl
theorem fn_ref01_Sum : ip.fn f_ref01_Sum = some i_ref01_Sum := by kernel_rfl
theorem fn_ref01_Stop : ip.fn f_ref01_Stop = some i_ref01_Stop := by kernel_rfl
theorem fn_ref01_fits : ip.fn f_ref01_fits = some i_ref01_fits := by kernel_rfl

end Go.Proofs.Ytnekgoanadbmmaa
