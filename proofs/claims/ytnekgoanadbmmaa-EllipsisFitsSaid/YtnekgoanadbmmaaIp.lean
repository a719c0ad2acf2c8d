/-
The program's functions, by number.
-/
import Derived.Test.YtnekgoanadbmmaaIr2
namespace Go.Proofs.Ytnekgoanadbmmaa
open Go.Mini

def fns : List (Nat × IFn) := [
  (f_law26_EllipsisPlain, i_law26_EllipsisPlain),
  (f_law26_EllipsisFits, i_law26_EllipsisFits),
  (f_law07_ArenaDeep, i_law07_ArenaDeep),
  (f_law15_FirstLines, i_law15_FirstLines),
  (f_law15_FirstCells, i_law15_FirstCells),
  (f_law15_FirstWide, i_law15_FirstWide),
  (f_law15_FirstSame, i_law15_FirstSame),
  (f_law24_FragsNest, i_law24_FragsNest),
  (f_law24_FragsEdges, i_law24_FragsEdges),
  (f_law24_FragsCount, i_law24_FragsCount),
  (f_law26_head, i_law26_head),
  (f_ellipsis_Cut, i_ellipsis_Cut),
  (f_tabs_Pens, i_tabs_Pens),
  (f_trim_Roles, i_trim_Roles),
  (f_law26_great, i_law26_great),
  (f_trim_Fits, i_trim_Fits),
  (f_trim_Goes, i_trim_Goes),
  (f_arena_Check, i_arena_Check),
  (f_arena_Tree_Node, i_arena_Tree_Node),
  (f_arena_Tree_Depth, i_arena_Tree_Depth),
  (f_arena_Tree_End, i_arena_Tree_End),
  (f_arena_Tree_Kids, i_arena_Tree_Kids),
  (f_arena_Tree_Context, i_arena_Tree_Context),
  (f_arena_Tree_Common, i_arena_Tree_Common),
  (f_arena_Tree_Styles, i_arena_Tree_Styles),
  (f_arena_Tree_Len, i_arena_Tree_Len),
  (f_arena_Tree_Walk, i_arena_Tree_Walk),
  (f_law07_head, i_law07_head),
  (f_law15_great, i_law15_great),
  (f_law15_head, i_law15_head),
  (f_first_Lines, i_first_Lines),
  (f_ref15_Lines, i_ref15_Lines),
  (f_ref14_Same, i_ref14_Same),
  (f_first_Alike, i_first_Alike),
  (f_ref15_Alike, i_ref15_Alike),
  (f_first_Cells, i_first_Cells),
  (f_ref15_Cells, i_ref15_Cells),
  (f_ref11_Same, i_ref11_Same),
  (f_fill_Lines, i_fill_Lines),
  (f_fill_One, i_fill_One),
  (f_arena_New, i_arena_New),
  (f_law24_great, i_law24_great),
  (f_law24_head, i_law24_head),
  (f_frags_Parts, i_frags_Parts),
  (f_law24_nests, i_law24_nests),
  (f_frags_Check, i_frags_Check),
  (f_law24_opens, i_law24_opens),
  (f_ellipsis_Whole, i_ellipsis_Whole),
  (f_ellipsis_Places, i_ellipsis_Places),
  (f_law26_is, i_law26_is),
  (f_ellipsis_within, i_ellipsis_within),
  (f_ellipsis_first, i_ellipsis_first),
  (f_ellipsis_back, i_ellipsis_back),
  (f_ellipsis_Cut_1, i_ellipsis_Cut_1),
  (f_unit_Sum, i_unit_Sum),
  (f_tabs_pens, i_tabs_pens),
  (f_trim_Roles_1, i_trim_Roles_1),
  (f_trim_Roles_2, i_trim_Roles_2),
  (f_trim_edge, i_trim_edge),
  (f_trim_from, i_trim_from),
  (f_trim_Roles_3, i_trim_Roles_3),
  (f_tabs_End, i_tabs_End),
  (f_arena_Tree_has, i_arena_Tree_has),
  (f_arena_Tree_kids, i_arena_Tree_kids),
  (f_arena_of, i_arena_of),
  (f_style_Styles, i_style_Styles),
  (f_arena_Tree_stops, i_arena_Tree_stops),
  (f_law07_example, i_law07_example),
  (f_ref07_SameInts, i_ref07_SameInts),
  (f_law15_three, i_law15_three),
  (f_law15_lines, i_law15_lines),
  (f_fill_Ends, i_fill_Ends),
  (f_first_lines, i_first_lines),
  (f_ref14_May, i_ref14_May),
  (f_ref14_One, i_ref14_One),
  (f_ref14_Lines, i_ref14_Lines),
  (f_slices_EqualFunc_api_Cell, i_slices_EqualFunc_api_Cell),
  (f_first_Alike_1, i_first_Alike_1),
  (f_slices_Clone_api_Cell, i_slices_Clone_api_Cell),
  (f_fill_One_1, i_fill_One_1),
  (f_fill_reach, i_fill_reach),
  (f_fill_last, i_fill_last),
  (f_arena_Tree_check, i_arena_Tree_check),
  (f_law24_example, i_law24_example),
  (f_law24_row, i_law24_row),
  (f_ref24_Same, i_ref24_Same),
  (f_frags_runs, i_frags_runs),
  (f_frags_boxes, i_frags_boxes),
  (f_frags_maker_within, i_frags_maker_within),
  (f_frags_stack_int_top, i_frags_stack_int_top),
  (f_frags_maker_put, i_frags_maker_put),
  (f_ref07_Above, i_ref07_Above),
  (f_law24_under, i_law24_under),
  (f_frags_kinds, i_frags_kinds),
  (f_frags_follow, i_frags_follow),
  (f_class_Mark, i_class_Mark),
  (f_slices_Collect_int, i_slices_Collect_int),
  (f_slices_Reverse_int, i_slices_Reverse_int),
  (f_law26_cuts, i_law26_cuts),
  (f_ellipsis_back_1, i_ellipsis_back_1),
  (f_unit_fit, i_unit_fit),
  (f_tabs_pens_1, i_tabs_pens_1),
  (f_tabs_role, i_tabs_role),
  (f_tabs_Step, i_tabs_Step),
  (f_trim_from_1, i_trim_from_1),
  (f_arena_Tree_kids_1, i_arena_Tree_kids_1),
  (f_style_Check, i_style_Check),
  (f_style_CheckDecl, i_style_CheckDecl),
  (f_style_over, i_style_over),
  (f_arena_Tree_stops_1, i_arena_Tree_stops_1),
  (f_fill_may, i_fill_may),
  (f_fill_list, i_fill_list),
  (f_fill_ends, i_fill_ends),
  (f_fill_soft, i_fill_soft),
  (f_fill_emergency, i_fill_emergency),
  (f_first_lines_1, i_first_lines_1),
  (f_ref14_Ends, i_ref14_Ends),
  (f_ref14_run, i_ref14_run),
  (f_ref14_ahead, i_ref14_ahead),
  (f_ref14_Last, i_ref14_Last),
  (f_arena_Tree_place, i_arena_Tree_place),
  (f_arena_Tree_numbers, i_arena_Tree_numbers),
  (f_frags_runs_1, i_frags_runs_1),
  (f_frags_text, i_frags_text),
  (f_class_Of, i_class_Of),
  (f_slices_AppendSeq_int, i_slices_AppendSeq_int),
  (f_unit_Stop, i_unit_Stop),
  (f_style_parts, i_style_parts),
  (f_fill_ends_1, i_fill_ends_1),
  (f_trim_Blank, i_trim_Blank),
  (f_ref13_Blank, i_ref13_Blank),
  (f_ref14_Fits, i_ref14_Fits),
  (f_arena_align, i_arena_align),
  (f_arena_small, i_arena_small),
  (f_class_spans, i_class_spans),
  (f_sort_Search, i_sort_Search),
  (f_class_Of_1, i_class_Of_1),
  (f_style_parts_1, i_style_parts_1),
  (f_style_parts_2, i_style_parts_2),
  (f_style_parts_3, i_style_parts_3),
  (f_style_parts_4, i_style_parts_4),
  (f_style_parts_5, i_style_parts_5),
  (f_style_parts_6, i_style_parts_6),
  (f_style_parts_7, i_style_parts_7),
  (f_style_parts_8, i_style_parts_8),
  (f_style_parts_9, i_style_parts_9),
  (f_style_parts_10, i_style_parts_10),
  (f_style_parts_11, i_style_parts_11),
  (f_style_parts_12, i_style_parts_12),
  (f_style_parts_13, i_style_parts_13),
  (f_style_units, i_style_units),
  (f_style_parts_14, i_style_parts_14),
  (f_style_parts_15, i_style_parts_15),
  (f_style_parts_16, i_style_parts_16),
  (f_ref13_edge, i_ref13_edge),
  (f_ref13_Role, i_ref13_Role),
  (f_ref13_Fits, i_ref13_Fits),
  (f_ref13_just, i_ref13_just),
  (f_ref13_Roles, i_ref13_Roles),
  (f_ref12_End, i_ref12_End),
  (f_ref12_Pens, i_ref12_Pens),
  (f_ref12_fits, i_ref12_fits),
  (f_ref12_Step, i_ref12_Step),
  (f_ref01_Sum, i_ref01_Sum),
  (f_ref01_Stop, i_ref01_Stop),
  (f_ref01_fits, i_ref01_fits)]

def prims (f : Nat) : Option (List MV → Option MV) := bif Nat.beq f f_bits_Add64 then some add64P else none

def pms : List Nat := [f_tabs_Pens, f_first_Cells, f_ref15_Cells, f_ellipsis_back, f_tabs_pens, f_arena_Tree_kids, f_arena_Tree_stops, f_law07_example, f_law15_three, f_first_lines, f_law24_example, f_law24_row, f_frags_runs, f_fill_ends, f_bits_Add64, f_law26_EllipsisPlain + 2097152, f_law26_EllipsisFits + 2097152, f_law07_ArenaDeep + 2097152, f_law15_FirstLines + 2097152, f_law15_FirstCells + 2097152, f_law15_FirstWide + 2097152, f_law15_FirstSame + 2097152, f_law24_FragsNest + 2097152, f_law24_FragsEdges + 2097152, f_law24_FragsCount + 2097152, f_law26_head + 2097152, f_ellipsis_Cut + 2097152, f_trim_Roles + 2097152, f_law26_great + 2097152, f_trim_Fits + 2097152, f_trim_Goes + 2097152, f_arena_Check + 2097152, f_arena_Tree_Node + 2097152, f_arena_Tree_Depth + 2097152, f_arena_Tree_End + 2097152, f_arena_Tree_Kids + 2097152, f_arena_Tree_Context + 2097152, f_arena_Tree_Common + 2097152, f_arena_Tree_Styles + 2097152, f_arena_Tree_Len + 2097152, f_arena_Tree_Walk + 2097152, f_law07_head + 2097152, f_law15_great + 2097152, f_law15_head + 2097152, f_first_Lines + 2097152, f_ref15_Lines + 2097152, f_ref14_Same + 2097152, f_first_Alike + 2097152, f_ref15_Alike + 2097152, f_ref11_Same + 2097152, f_fill_Lines + 2097152, f_fill_One + 2097152, f_arena_New + 2097152, f_law24_great + 2097152, f_law24_head + 2097152, f_frags_Parts + 2097152, f_law24_nests + 2097152, f_frags_Check + 2097152, f_law24_opens + 2097152, f_ellipsis_Whole + 2097152, f_ellipsis_Places + 2097152, f_law26_is + 2097152, f_ellipsis_within + 2097152, f_ellipsis_first + 2097152, f_ellipsis_Cut_1 + 2097152, f_unit_Sum + 2097152, f_trim_Roles_2 + 2097152, f_trim_edge + 2097152, f_trim_Roles_3 + 2097152, f_tabs_End + 2097152, f_arena_Tree_has + 2097152, f_arena_of + 2097152, f_style_Styles + 2097152, f_ref07_SameInts + 2097152, f_law15_lines + 2097152, f_fill_Ends + 2097152, f_ref14_May + 2097152, f_ref14_One + 2097152, f_ref14_Lines + 2097152, f_slices_EqualFunc_api_Cell + 2097152, f_first_Alike_1 + 2097152, f_slices_Clone_api_Cell + 2097152, f_fill_One_1 + 2097152, f_fill_reach + 2097152, f_fill_last + 2097152, f_ref24_Same + 2097152, f_frags_boxes + 2097152, f_frags_stack_int_top + 2097152, f_ref07_Above + 2097152, f_law24_under + 2097152, f_frags_kinds + 2097152, f_frags_follow + 2097152, f_class_Mark + 2097152, f_slices_Collect_int + 2097152, f_law26_cuts + 2097152, f_unit_fit + 2097152, f_tabs_role + 2097152, f_tabs_Step + 2097152, f_style_Check + 2097152, f_style_CheckDecl + 2097152, f_style_over + 2097152, f_fill_may + 2097152, f_fill_soft + 2097152, f_fill_emergency + 2097152, f_ref14_Ends + 2097152, f_ref14_run + 2097152, f_ref14_ahead + 2097152, f_ref14_Last + 2097152, f_arena_Tree_place + 2097152, f_arena_Tree_numbers + 2097152, f_frags_text + 2097152, f_class_Of + 2097152, f_slices_AppendSeq_int + 2097152, f_unit_Stop + 2097152, f_style_parts + 2097152, f_trim_Blank + 2097152, f_ref13_Blank + 2097152, f_ref14_Fits + 2097152, f_arena_align + 2097152, f_arena_small + 2097152, f_class_spans + 2097152, f_sort_Search + 2097152, f_class_Of_1 + 2097152, f_style_parts_1 + 2097152, f_style_parts_3 + 2097152, f_style_parts_5 + 2097152, f_style_parts_7 + 2097152, f_style_parts_9 + 2097152, f_style_parts_11 + 2097152, f_style_parts_13 + 2097152, f_style_units + 2097152, f_style_parts_15 + 2097152, f_ref13_edge + 2097152, f_ref13_Role + 2097152, f_ref13_Fits + 2097152, f_ref13_just + 2097152, f_ref13_Roles + 2097152, f_ref12_End + 2097152, f_ref12_Pens + 2097152, f_ref12_fits + 2097152, f_ref12_Step + 2097152, f_ref01_Sum + 2097152, f_ref01_Stop + 2097152, f_ref01_fits + 2097152]
def pm (f : Nat) : Bool := pms.contains f

def ip : IProg := ⟨findF fns, prims⟩

theorem fn_law26_EllipsisPlain : ip.fn f_law26_EllipsisPlain = some i_law26_EllipsisPlain := by kernel_rfl
theorem fn_law26_EllipsisFits : ip.fn f_law26_EllipsisFits = some i_law26_EllipsisFits := by kernel_rfl
theorem fn_law07_ArenaDeep : ip.fn f_law07_ArenaDeep = some i_law07_ArenaDeep := by kernel_rfl
theorem fn_law15_FirstLines : ip.fn f_law15_FirstLines = some i_law15_FirstLines := by kernel_rfl
theorem fn_law15_FirstCells : ip.fn f_law15_FirstCells = some i_law15_FirstCells := by kernel_rfl
theorem fn_law15_FirstWide : ip.fn f_law15_FirstWide = some i_law15_FirstWide := by kernel_rfl
theorem fn_law15_FirstSame : ip.fn f_law15_FirstSame = some i_law15_FirstSame := by kernel_rfl
theorem fn_law24_FragsNest : ip.fn f_law24_FragsNest = some i_law24_FragsNest := by kernel_rfl
theorem fn_law24_FragsEdges : ip.fn f_law24_FragsEdges = some i_law24_FragsEdges := by kernel_rfl
theorem fn_law24_FragsCount : ip.fn f_law24_FragsCount = some i_law24_FragsCount := by kernel_rfl
theorem fn_law26_head : ip.fn f_law26_head = some i_law26_head := by kernel_rfl
theorem fn_ellipsis_Cut : ip.fn f_ellipsis_Cut = some i_ellipsis_Cut := by kernel_rfl
theorem fn_tabs_Pens : ip.fn f_tabs_Pens = some i_tabs_Pens := by kernel_rfl
theorem fn_trim_Roles : ip.fn f_trim_Roles = some i_trim_Roles := by kernel_rfl
theorem fn_law26_great : ip.fn f_law26_great = some i_law26_great := by kernel_rfl
theorem fn_trim_Fits : ip.fn f_trim_Fits = some i_trim_Fits := by kernel_rfl
theorem fn_trim_Goes : ip.fn f_trim_Goes = some i_trim_Goes := by kernel_rfl
theorem fn_arena_Check : ip.fn f_arena_Check = some i_arena_Check := by kernel_rfl
theorem fn_arena_Tree_Node : ip.fn f_arena_Tree_Node = some i_arena_Tree_Node := by kernel_rfl
theorem fn_arena_Tree_Depth : ip.fn f_arena_Tree_Depth = some i_arena_Tree_Depth := by kernel_rfl
theorem fn_arena_Tree_End : ip.fn f_arena_Tree_End = some i_arena_Tree_End := by kernel_rfl
theorem fn_arena_Tree_Kids : ip.fn f_arena_Tree_Kids = some i_arena_Tree_Kids := by kernel_rfl
theorem fn_arena_Tree_Context : ip.fn f_arena_Tree_Context = some i_arena_Tree_Context := by kernel_rfl
theorem fn_arena_Tree_Common : ip.fn f_arena_Tree_Common = some i_arena_Tree_Common := by kernel_rfl
theorem fn_arena_Tree_Styles : ip.fn f_arena_Tree_Styles = some i_arena_Tree_Styles := by kernel_rfl
theorem fn_arena_Tree_Len : ip.fn f_arena_Tree_Len = some i_arena_Tree_Len := by kernel_rfl
theorem fn_arena_Tree_Walk : ip.fn f_arena_Tree_Walk = some i_arena_Tree_Walk := by kernel_rfl
theorem fn_law07_head : ip.fn f_law07_head = some i_law07_head := by kernel_rfl
theorem fn_law15_great : ip.fn f_law15_great = some i_law15_great := by kernel_rfl
theorem fn_law15_head : ip.fn f_law15_head = some i_law15_head := by kernel_rfl
theorem fn_first_Lines : ip.fn f_first_Lines = some i_first_Lines := by kernel_rfl
theorem fn_ref15_Lines : ip.fn f_ref15_Lines = some i_ref15_Lines := by kernel_rfl
theorem fn_ref14_Same : ip.fn f_ref14_Same = some i_ref14_Same := by kernel_rfl
theorem fn_first_Alike : ip.fn f_first_Alike = some i_first_Alike := by kernel_rfl
theorem fn_ref15_Alike : ip.fn f_ref15_Alike = some i_ref15_Alike := by kernel_rfl
theorem fn_first_Cells : ip.fn f_first_Cells = some i_first_Cells := by kernel_rfl
theorem fn_ref15_Cells : ip.fn f_ref15_Cells = some i_ref15_Cells := by kernel_rfl
theorem fn_ref11_Same : ip.fn f_ref11_Same = some i_ref11_Same := by kernel_rfl
theorem fn_fill_Lines : ip.fn f_fill_Lines = some i_fill_Lines := by kernel_rfl
theorem fn_fill_One : ip.fn f_fill_One = some i_fill_One := by kernel_rfl
theorem fn_arena_New : ip.fn f_arena_New = some i_arena_New := by kernel_rfl
theorem fn_law24_great : ip.fn f_law24_great = some i_law24_great := by kernel_rfl
theorem fn_law24_head : ip.fn f_law24_head = some i_law24_head := by kernel_rfl
theorem fn_frags_Parts : ip.fn f_frags_Parts = some i_frags_Parts := by kernel_rfl
theorem fn_law24_nests : ip.fn f_law24_nests = some i_law24_nests := by kernel_rfl
theorem fn_frags_Check : ip.fn f_frags_Check = some i_frags_Check := by kernel_rfl
theorem fn_law24_opens : ip.fn f_law24_opens = some i_law24_opens := by kernel_rfl
theorem fn_ellipsis_Whole : ip.fn f_ellipsis_Whole = some i_ellipsis_Whole := by kernel_rfl
theorem fn_ellipsis_Places : ip.fn f_ellipsis_Places = some i_ellipsis_Places := by kernel_rfl
theorem fn_law26_is : ip.fn f_law26_is = some i_law26_is := by kernel_rfl
theorem fn_ellipsis_within : ip.fn f_ellipsis_within = some i_ellipsis_within := by kernel_rfl
theorem fn_ellipsis_first : ip.fn f_ellipsis_first = some i_ellipsis_first := by kernel_rfl
theorem fn_ellipsis_back : ip.fn f_ellipsis_back = some i_ellipsis_back := by kernel_rfl
theorem fn_ellipsis_Cut_1 : ip.fn f_ellipsis_Cut_1 = some i_ellipsis_Cut_1 := by kernel_rfl
theorem fn_unit_Sum : ip.fn f_unit_Sum = some i_unit_Sum := by kernel_rfl
theorem fn_tabs_pens : ip.fn f_tabs_pens = some i_tabs_pens := by kernel_rfl
theorem fn_trim_Roles_1 : ip.fn f_trim_Roles_1 = some i_trim_Roles_1 := by kernel_rfl
theorem fn_trim_Roles_2 : ip.fn f_trim_Roles_2 = some i_trim_Roles_2 := by kernel_rfl
theorem fn_trim_edge : ip.fn f_trim_edge = some i_trim_edge := by kernel_rfl
theorem fn_trim_from : ip.fn f_trim_from = some i_trim_from := by kernel_rfl
theorem fn_trim_Roles_3 : ip.fn f_trim_Roles_3 = some i_trim_Roles_3 := by kernel_rfl
theorem fn_tabs_End : ip.fn f_tabs_End = some i_tabs_End := by kernel_rfl
theorem fn_arena_Tree_has : ip.fn f_arena_Tree_has = some i_arena_Tree_has := by kernel_rfl
theorem fn_arena_Tree_kids : ip.fn f_arena_Tree_kids = some i_arena_Tree_kids := by kernel_rfl
theorem fn_arena_of : ip.fn f_arena_of = some i_arena_of := by kernel_rfl
theorem fn_style_Styles : ip.fn f_style_Styles = some i_style_Styles := by kernel_rfl
theorem fn_arena_Tree_stops : ip.fn f_arena_Tree_stops = some i_arena_Tree_stops := by kernel_rfl
theorem fn_law07_example : ip.fn f_law07_example = some i_law07_example := by kernel_rfl
theorem fn_ref07_SameInts : ip.fn f_ref07_SameInts = some i_ref07_SameInts := by kernel_rfl
theorem fn_law15_three : ip.fn f_law15_three = some i_law15_three := by kernel_rfl
theorem fn_law15_lines : ip.fn f_law15_lines = some i_law15_lines := by kernel_rfl
theorem fn_fill_Ends : ip.fn f_fill_Ends = some i_fill_Ends := by kernel_rfl
theorem fn_first_lines : ip.fn f_first_lines = some i_first_lines := by kernel_rfl
theorem fn_ref14_May : ip.fn f_ref14_May = some i_ref14_May := by kernel_rfl
theorem fn_ref14_One : ip.fn f_ref14_One = some i_ref14_One := by kernel_rfl
theorem fn_ref14_Lines : ip.fn f_ref14_Lines = some i_ref14_Lines := by kernel_rfl
theorem fn_slices_EqualFunc_api_Cell : ip.fn f_slices_EqualFunc_api_Cell = some i_slices_EqualFunc_api_Cell := by kernel_rfl
theorem fn_first_Alike_1 : ip.fn f_first_Alike_1 = some i_first_Alike_1 := by kernel_rfl
theorem fn_slices_Clone_api_Cell : ip.fn f_slices_Clone_api_Cell = some i_slices_Clone_api_Cell := by kernel_rfl
theorem fn_fill_One_1 : ip.fn f_fill_One_1 = some i_fill_One_1 := by kernel_rfl
theorem fn_fill_reach : ip.fn f_fill_reach = some i_fill_reach := by kernel_rfl
theorem fn_fill_last : ip.fn f_fill_last = some i_fill_last := by kernel_rfl
theorem fn_arena_Tree_check : ip.fn f_arena_Tree_check = some i_arena_Tree_check := by kernel_rfl
theorem fn_law24_example : ip.fn f_law24_example = some i_law24_example := by kernel_rfl
theorem fn_law24_row : ip.fn f_law24_row = some i_law24_row := by kernel_rfl
theorem fn_ref24_Same : ip.fn f_ref24_Same = some i_ref24_Same := by kernel_rfl
theorem fn_frags_runs : ip.fn f_frags_runs = some i_frags_runs := by kernel_rfl
theorem fn_frags_boxes : ip.fn f_frags_boxes = some i_frags_boxes := by kernel_rfl
theorem fn_frags_maker_within : ip.fn f_frags_maker_within = some i_frags_maker_within := by kernel_rfl
theorem fn_frags_stack_int_top : ip.fn f_frags_stack_int_top = some i_frags_stack_int_top := by kernel_rfl
theorem fn_frags_maker_put : ip.fn f_frags_maker_put = some i_frags_maker_put := by kernel_rfl
theorem fn_ref07_Above : ip.fn f_ref07_Above = some i_ref07_Above := by kernel_rfl
theorem fn_law24_under : ip.fn f_law24_under = some i_law24_under := by kernel_rfl
theorem fn_frags_kinds : ip.fn f_frags_kinds = some i_frags_kinds := by kernel_rfl
theorem fn_frags_follow : ip.fn f_frags_follow = some i_frags_follow := by kernel_rfl
theorem fn_class_Mark : ip.fn f_class_Mark = some i_class_Mark := by kernel_rfl
theorem fn_slices_Collect_int : ip.fn f_slices_Collect_int = some i_slices_Collect_int := by kernel_rfl
theorem fn_slices_Reverse_int : ip.fn f_slices_Reverse_int = some i_slices_Reverse_int := by kernel_rfl
theorem fn_law26_cuts : ip.fn f_law26_cuts = some i_law26_cuts := by kernel_rfl
theorem fn_ellipsis_back_1 : ip.fn f_ellipsis_back_1 = some i_ellipsis_back_1 := by kernel_rfl
theorem fn_unit_fit : ip.fn f_unit_fit = some i_unit_fit := by kernel_rfl
theorem fn_tabs_pens_1 : ip.fn f_tabs_pens_1 = some i_tabs_pens_1 := by kernel_rfl
theorem fn_tabs_role : ip.fn f_tabs_role = some i_tabs_role := by kernel_rfl
theorem fn_tabs_Step : ip.fn f_tabs_Step = some i_tabs_Step := by kernel_rfl
theorem fn_trim_from_1 : ip.fn f_trim_from_1 = some i_trim_from_1 := by kernel_rfl
theorem fn_arena_Tree_kids_1 : ip.fn f_arena_Tree_kids_1 = some i_arena_Tree_kids_1 := by kernel_rfl
theorem fn_style_Check : ip.fn f_style_Check = some i_style_Check := by kernel_rfl
theorem fn_style_CheckDecl : ip.fn f_style_CheckDecl = some i_style_CheckDecl := by kernel_rfl
theorem fn_style_over : ip.fn f_style_over = some i_style_over := by kernel_rfl
theorem fn_arena_Tree_stops_1 : ip.fn f_arena_Tree_stops_1 = some i_arena_Tree_stops_1 := by kernel_rfl
theorem fn_fill_may : ip.fn f_fill_may = some i_fill_may := by kernel_rfl
theorem fn_fill_list : ip.fn f_fill_list = some i_fill_list := by kernel_rfl
theorem fn_fill_ends : ip.fn f_fill_ends = some i_fill_ends := by kernel_rfl
theorem fn_fill_soft : ip.fn f_fill_soft = some i_fill_soft := by kernel_rfl
theorem fn_fill_emergency : ip.fn f_fill_emergency = some i_fill_emergency := by kernel_rfl
theorem fn_first_lines_1 : ip.fn f_first_lines_1 = some i_first_lines_1 := by kernel_rfl
theorem fn_ref14_Ends : ip.fn f_ref14_Ends = some i_ref14_Ends := by kernel_rfl
theorem fn_ref14_run : ip.fn f_ref14_run = some i_ref14_run := by kernel_rfl
theorem fn_ref14_ahead : ip.fn f_ref14_ahead = some i_ref14_ahead := by kernel_rfl
theorem fn_ref14_Last : ip.fn f_ref14_Last = some i_ref14_Last := by kernel_rfl
theorem fn_arena_Tree_place : ip.fn f_arena_Tree_place = some i_arena_Tree_place := by kernel_rfl
theorem fn_arena_Tree_numbers : ip.fn f_arena_Tree_numbers = some i_arena_Tree_numbers := by kernel_rfl
theorem fn_frags_runs_1 : ip.fn f_frags_runs_1 = some i_frags_runs_1 := by kernel_rfl
theorem fn_frags_text : ip.fn f_frags_text = some i_frags_text := by kernel_rfl
theorem fn_class_Of : ip.fn f_class_Of = some i_class_Of := by kernel_rfl
theorem fn_slices_AppendSeq_int : ip.fn f_slices_AppendSeq_int = some i_slices_AppendSeq_int := by kernel_rfl
theorem fn_unit_Stop : ip.fn f_unit_Stop = some i_unit_Stop := by kernel_rfl
theorem fn_style_parts : ip.fn f_style_parts = some i_style_parts := by kernel_rfl
theorem fn_fill_ends_1 : ip.fn f_fill_ends_1 = some i_fill_ends_1 := by kernel_rfl
theorem fn_trim_Blank : ip.fn f_trim_Blank = some i_trim_Blank := by kernel_rfl
theorem fn_ref13_Blank : ip.fn f_ref13_Blank = some i_ref13_Blank := by kernel_rfl
theorem fn_ref14_Fits : ip.fn f_ref14_Fits = some i_ref14_Fits := by kernel_rfl
theorem fn_arena_align : ip.fn f_arena_align = some i_arena_align := by kernel_rfl
theorem fn_arena_small : ip.fn f_arena_small = some i_arena_small := by kernel_rfl
theorem fn_class_spans : ip.fn f_class_spans = some i_class_spans := by kernel_rfl
theorem fn_sort_Search : ip.fn f_sort_Search = some i_sort_Search := by kernel_rfl
theorem fn_class_Of_1 : ip.fn f_class_Of_1 = some i_class_Of_1 := by kernel_rfl
theorem fn_style_parts_1 : ip.fn f_style_parts_1 = some i_style_parts_1 := by kernel_rfl
theorem fn_style_parts_2 : ip.fn f_style_parts_2 = some i_style_parts_2 := by kernel_rfl
theorem fn_style_parts_3 : ip.fn f_style_parts_3 = some i_style_parts_3 := by kernel_rfl
theorem fn_style_parts_4 : ip.fn f_style_parts_4 = some i_style_parts_4 := by kernel_rfl
theorem fn_style_parts_5 : ip.fn f_style_parts_5 = some i_style_parts_5 := by kernel_rfl
theorem fn_style_parts_6 : ip.fn f_style_parts_6 = some i_style_parts_6 := by kernel_rfl
theorem fn_style_parts_7 : ip.fn f_style_parts_7 = some i_style_parts_7 := by kernel_rfl
theorem fn_style_parts_8 : ip.fn f_style_parts_8 = some i_style_parts_8 := by kernel_rfl
theorem fn_style_parts_9 : ip.fn f_style_parts_9 = some i_style_parts_9 := by kernel_rfl
theorem fn_style_parts_10 : ip.fn f_style_parts_10 = some i_style_parts_10 := by kernel_rfl
theorem fn_style_parts_11 : ip.fn f_style_parts_11 = some i_style_parts_11 := by kernel_rfl
theorem fn_style_parts_12 : ip.fn f_style_parts_12 = some i_style_parts_12 := by kernel_rfl
theorem fn_style_parts_13 : ip.fn f_style_parts_13 = some i_style_parts_13 := by kernel_rfl
theorem fn_style_units : ip.fn f_style_units = some i_style_units := by kernel_rfl
theorem fn_style_parts_14 : ip.fn f_style_parts_14 = some i_style_parts_14 := by kernel_rfl
theorem fn_style_parts_15 : ip.fn f_style_parts_15 = some i_style_parts_15 := by kernel_rfl
theorem fn_style_parts_16 : ip.fn f_style_parts_16 = some i_style_parts_16 := by kernel_rfl
theorem fn_ref13_edge : ip.fn f_ref13_edge = some i_ref13_edge := by kernel_rfl
theorem fn_ref13_Role : ip.fn f_ref13_Role = some i_ref13_Role := by kernel_rfl
theorem fn_ref13_Fits : ip.fn f_ref13_Fits = some i_ref13_Fits := by kernel_rfl
theorem fn_ref13_just : ip.fn f_ref13_just = some i_ref13_just := by kernel_rfl
theorem fn_ref13_Roles : ip.fn f_ref13_Roles = some i_ref13_Roles := by kernel_rfl
theorem fn_ref12_End : ip.fn f_ref12_End = some i_ref12_End := by kernel_rfl
theorem fn_ref12_Pens : ip.fn f_ref12_Pens = some i_ref12_Pens := by kernel_rfl
theorem fn_ref12_fits : ip.fn f_ref12_fits = some i_ref12_fits := by kernel_rfl
theorem fn_ref12_Step : ip.fn f_ref12_Step = some i_ref12_Step := by kernel_rfl
theorem fn_ref01_Sum : ip.fn f_ref01_Sum = some i_ref01_Sum := by kernel_rfl
theorem fn_ref01_Stop : ip.fn f_ref01_Stop = some i_ref01_Stop := by kernel_rfl
theorem fn_ref01_fits : ip.fn f_ref01_fits = some i_ref01_fits := by kernel_rfl

end Go.Proofs.Ytnekgoanadbmmaa
