/-
The functions of the seat's program as Mini has them (printed by wip/tools/Pri2.lean over the seat's translation).
-/
import Derived.Test.YtnekgoanadbmmaaMiU
namespace Go.Proofs.Ytnekgoanadbmmaa
open Go.Mini

abbrev f_law26_EllipsisPlain : Nat := 3
abbrev f_law26_EllipsisFits : Nat := 4
abbrev f_law07_ArenaDeep : Nat := 5
abbrev f_law15_FirstLines : Nat := 6
abbrev f_law15_FirstCells : Nat := 7
abbrev f_law15_FirstWide : Nat := 8
abbrev f_law15_FirstSame : Nat := 9
abbrev f_law24_FragsNest : Nat := 10
abbrev f_law24_FragsEdges : Nat := 11
abbrev f_law24_FragsCount : Nat := 12
abbrev f_law26_head : Nat := 13
abbrev f_ellipsis_Cut : Nat := 14
abbrev f_tabs_Pens : Nat := 15
abbrev f_trim_Roles : Nat := 16
abbrev f_law26_great : Nat := 17
abbrev f_trim_Fits : Nat := 18
abbrev f_trim_Goes : Nat := 19
abbrev f_arena_Check : Nat := 20
abbrev f_arena_Tree_Node : Nat := 21
abbrev f_arena_Tree_Depth : Nat := 22
abbrev f_arena_Tree_End : Nat := 23
abbrev f_arena_Tree_Kids : Nat := 24
abbrev f_arena_Tree_Context : Nat := 25
abbrev f_arena_Tree_Common : Nat := 26
abbrev f_arena_Tree_Styles : Nat := 27
abbrev f_arena_Tree_Len : Nat := 28
abbrev f_arena_Tree_Walk : Nat := 29
abbrev f_law07_head : Nat := 30
abbrev f_law15_great : Nat := 31
abbrev f_law15_head : Nat := 32
abbrev f_first_Lines : Nat := 33
abbrev f_ref15_Lines : Nat := 34
abbrev f_ref14_Same : Nat := 35
abbrev f_first_Alike : Nat := 36
abbrev f_ref15_Alike : Nat := 37
abbrev f_first_Cells : Nat := 38
abbrev f_ref15_Cells : Nat := 39
abbrev f_ref11_Same : Nat := 40
abbrev f_fill_Lines : Nat := 41
abbrev f_fill_One : Nat := 42
abbrev f_arena_New : Nat := 43
abbrev f_law24_great : Nat := 44
abbrev f_law24_head : Nat := 45
abbrev f_frags_Parts : Nat := 46
abbrev f_law24_nests : Nat := 47
abbrev f_frags_Check : Nat := 48
abbrev f_law24_opens : Nat := 49
abbrev f_ellipsis_Whole : Nat := 50
abbrev f_ellipsis_Places : Nat := 51
abbrev f_law26_is : Nat := 52
abbrev f_ellipsis_within : Nat := 53
abbrev f_ellipsis_first : Nat := 54
abbrev f_ellipsis_back : Nat := 55
abbrev f_ellipsis_Cut_1 : Nat := 56
abbrev f_unit_Sum : Nat := 57
abbrev f_tabs_pens : Nat := 58
abbrev f_trim_Roles_1 : Nat := 59
abbrev f_trim_Roles_2 : Nat := 60
abbrev f_trim_edge : Nat := 61
abbrev f_trim_from : Nat := 62
abbrev f_trim_Roles_3 : Nat := 63
abbrev f_tabs_End : Nat := 64
abbrev f_arena_Tree_has : Nat := 65
abbrev f_arena_Tree_kids : Nat := 66
abbrev f_arena_of : Nat := 67
abbrev f_style_Styles : Nat := 68
abbrev f_arena_Tree_stops : Nat := 69
abbrev f_law07_example : Nat := 70
abbrev f_ref07_SameInts : Nat := 71
abbrev f_law15_three : Nat := 72
abbrev f_law15_lines : Nat := 73
abbrev f_fill_Ends : Nat := 74
abbrev f_first_lines : Nat := 75
abbrev f_ref14_May : Nat := 76
abbrev f_ref14_One : Nat := 77
abbrev f_ref14_Lines : Nat := 78
abbrev f_slices_EqualFunc_api_Cell : Nat := 79
abbrev f_first_Alike_1 : Nat := 80
abbrev f_slices_Clone_api_Cell : Nat := 81
abbrev f_fill_One_1 : Nat := 82
abbrev f_fill_reach : Nat := 83
abbrev f_fill_last : Nat := 84
abbrev f_arena_Tree_check : Nat := 85
abbrev f_law24_example : Nat := 86
abbrev f_law24_row : Nat := 87
abbrev f_ref24_Same : Nat := 88
abbrev f_frags_runs : Nat := 89
abbrev f_frags_boxes : Nat := 90
abbrev f_frags_maker_within : Nat := 91
abbrev f_frags_stack_int_top : Nat := 92
abbrev f_frags_maker_put : Nat := 93
abbrev f_ref07_Above : Nat := 94
abbrev f_law24_under : Nat := 95
abbrev f_frags_kinds : Nat := 96
abbrev f_frags_follow : Nat := 97
abbrev f_class_Mark : Nat := 98
abbrev f_slices_Collect_int : Nat := 99
abbrev f_slices_Reverse_int : Nat := 100
abbrev f_law26_cuts : Nat := 101
abbrev f_ellipsis_back_1 : Nat := 102
abbrev f_bits_Add64 : Nat := 103
abbrev f_unit_fit : Nat := 104
abbrev f_tabs_pens_1 : Nat := 105
abbrev f_tabs_role : Nat := 106
abbrev f_tabs_Step : Nat := 107
abbrev f_trim_from_1 : Nat := 108
abbrev f_arena_Tree_kids_1 : Nat := 109
abbrev f_style_Check : Nat := 110
abbrev f_style_CheckDecl : Nat := 111
abbrev f_style_over : Nat := 112
abbrev f_arena_Tree_stops_1 : Nat := 113
abbrev f_fill_may : Nat := 114
abbrev f_fill_list : Nat := 115
abbrev f_fill_ends : Nat := 116
abbrev f_fill_soft : Nat := 117
abbrev f_fill_emergency : Nat := 118
abbrev f_first_lines_1 : Nat := 119
abbrev f_ref14_Ends : Nat := 120
abbrev f_ref14_run : Nat := 121
abbrev f_ref14_ahead : Nat := 122
abbrev f_ref14_Last : Nat := 123
abbrev f_arena_Tree_place : Nat := 124
abbrev f_arena_Tree_numbers : Nat := 125
abbrev f_frags_runs_1 : Nat := 126
abbrev f_frags_text : Nat := 127
abbrev f_class_Of : Nat := 128
abbrev f_slices_AppendSeq_int : Nat := 129
abbrev f_unit_Stop : Nat := 130
abbrev f_style_parts : Nat := 131
abbrev f_fill_ends_1 : Nat := 132
abbrev f_trim_Blank : Nat := 133
abbrev f_ref13_Blank : Nat := 134
abbrev f_ref14_Fits : Nat := 135
abbrev f_arena_align : Nat := 136
abbrev f_arena_small : Nat := 137
abbrev f_class_spans : Nat := 138
abbrev f_sort_Search : Nat := 139
abbrev f_class_Of_1 : Nat := 140
abbrev f_style_parts_1 : Nat := 141
abbrev f_style_parts_2 : Nat := 142
abbrev f_style_parts_3 : Nat := 143
abbrev f_style_parts_4 : Nat := 144
abbrev f_style_parts_5 : Nat := 145
abbrev f_style_parts_6 : Nat := 146
abbrev f_style_parts_7 : Nat := 147
abbrev f_style_parts_8 : Nat := 148
abbrev f_style_parts_9 : Nat := 149
abbrev f_style_parts_10 : Nat := 150
abbrev f_style_parts_11 : Nat := 151
abbrev f_style_parts_12 : Nat := 152
abbrev f_style_parts_13 : Nat := 153
abbrev f_style_units : Nat := 154
abbrev f_style_parts_14 : Nat := 155
abbrev f_style_parts_15 : Nat := 156
abbrev f_style_parts_16 : Nat := 157
abbrev f_ref13_edge : Nat := 158
abbrev f_ref13_Role : Nat := 159
abbrev f_ref13_Fits : Nat := 160
abbrev f_ref13_just : Nat := 161
abbrev f_ref13_Roles : Nat := 162
abbrev f_ref12_End : Nat := 163
abbrev f_ref12_Pens : Nat := 164
abbrev f_ref12_fits : Nat := 165
abbrev f_ref12_Step : Nat := 166
abbrev f_ref01_Sum : Nat := 167
abbrev f_ref01_Stop : Nat := 168
abbrev f_ref01_fits : Nat := 169

/-- stickful/stickfullaw26.EllipsisPlain: 2 parameters, 0 captured -/
def law26_EllipsisPlain_b0 : IC := (.seq (.seq (.reg false [⟨(some 21), none, .mv (.t 6)⟩,
  ⟨(some 22), none, .mv (.t 0)⟩,
  ⟨(some 23), none, .len (.t 22)⟩,
  ⟨(some 24), none, .bin .lss (.t 21) (.t 23)⟩]) (.cond (.t 24) .skip (.exit 0))) (.seq (.block 1 (.reg false [⟨(some 27), none, .mv (.t 5)⟩,
  ⟨(some 28), none, .mv (.t 6)⟩,
  ⟨(some 29), none, .iaddr 1 (.t 27) (.t 28)⟩,
  ⟨none, none, .store 1 (.t 29) (.c (.bool true))⟩])) (.reg false [⟨(some 25), none, .mv (.t 6)⟩,
  ⟨(some 26), none, .bin .add (.t 25) (.c (.int .i64 1))⟩,
  ⟨(some 6), none, .mv (.t 26)⟩])))
def law26_EllipsisPlain_b1 : IC := (.seq (.seq (.reg false [⟨(some 88), none, .mv (.t 13)⟩,
  ⟨(some 89), none, .mv (.t 0)⟩,
  ⟨(some 90), none, .len (.t 89)⟩,
  ⟨(some 91), none, .bin .leq (.t 88) (.t 90)⟩,
  ⟨(some 92), none, .mv (.t 91)⟩,
  ⟨(some 93), some (92, true), .mv (.t 9)⟩,
  ⟨(some 94), none, .pick (.t 92) (.t 93) (.c (.bool false))⟩]) (.cond (.t 94) .skip (.exit 2))) (.seq (.block 3 (.seq (.reg true [⟨(some 97), none, .mv (.t 11)⟩,
  ⟨(some 98), none, .mv (.t 13)⟩,
  ⟨(some 99), none, .iaddr 1 (.t 97) (.t 98)⟩,
  ⟨(some 100), none, .load none (.t 99)⟩,
  ⟨(some 101), none, .faddr 0 (.t 3)⟩,
  ⟨(some 102), none, .loadi none (.t 101)⟩,
  ⟨(some 103), none, .bin .leq (.t 100) (.t 102)⟩]) (.cond (.t 103) (.seq (.reg false [⟨(some 4), none, .mv (.c (.bool false))⟩]) .ret) .skip))) (.reg false [⟨(some 95), none, .mv (.t 13)⟩,
  ⟨(some 96), none, .bin .add (.t 95) (.c (.int .i64 1))⟩,
  ⟨(some 13), none, .mv (.t 96)⟩])))
def c_law26_EllipsisPlain : IC := (.seq (.reg false [⟨(some 3), none, .boxi (.t 1)⟩,
  ⟨(some 4), none, .mv (.c (.bool false))⟩]) (.seq (.seq (.reg false [⟨(some 14), none, .mv (.t 0)⟩,
  ⟨(some 15), none, .len (.t 14)⟩,
  ⟨(some 16), none, .bin .gtr (.t 15) (.c (.int .i64 100))⟩]) (.cond (.t 16) (.seq (.reg false [⟨(some 17), none, .call (.c (.fn f_law26_head [] [])) []⟩,
  ⟨(some 4), none, .mv (.t 17)⟩]) .ret) .skip)) (.seq (.reg false [⟨(some 18), none, .mv (.t 0)⟩,
  ⟨(some 19), none, .len (.t 18)⟩,
  ⟨(some 20), none, .mksl [(.bool false)] 1 1 (.t 19) (.t 19)⟩,
  ⟨(some 5), none, .mv (.t 20)⟩]) (.seq (.seq (.reg false [⟨(some 6), none, .mv (.c (.int .i64 0))⟩]) (.block 0 (.loop (lv [0, 3, 5, 6] 128) law26_EllipsisPlain_b0))) (.seq (.reg false [⟨(some 31), none, .mv (.t 0)⟩,
  ⟨(some 32), none, .mv (.t 5)⟩,
  ⟨(some 33), none, .mv (.t 0)⟩,
  ⟨(some 34), none, .len (.t 33)⟩,
  ⟨(some 35), none, .build [(.int .i64 0), (.int .i64 0), (.bool false)] [(1, 1, (.t 34))]⟩,
  ⟨(some 36), none, .loadi (some 2) (.t 3)⟩,
  ⟨(some 37), none, .call (.c (.fn f_ellipsis_Cut [] [])) [(.t 31), (.t 32), (.t 35), (.t 36), (.c (.int .i64 0))]⟩,
  ⟨(some 30), none, .mv (.t 37)⟩,
  ⟨(some 38), none, .extr 0 (.t 30)⟩,
  ⟨(some 39), none, .extr 1 (.t 30)⟩,
  ⟨(some 40), none, .extr 2 (.t 30)⟩,
  ⟨(some 41), none, .extr 3 (.t 30)⟩,
  ⟨(some 7), none, .mv (.t 38)⟩,
  ⟨(some 8), none, .mv (.t 39)⟩,
  ⟨(some 9), none, .mv (.t 40)⟩,
  ⟨(some 10), none, .mv (.t 41)⟩]) (.seq (.reg true [⟨(some 43), none, .mv (.t 0)⟩,
  ⟨(some 44), none, .mv (.t 0)⟩,
  ⟨(some 45), none, .call (.c (.fn f_trim_Roles [] [])) [(.t 44)]⟩,
  ⟨(some 46), none, .faddr 1 (.t 3)⟩,
  ⟨(some 47), none, .loadi none (.t 46)⟩,
  ⟨(some 48), none, .call (.c (.fn f_tabs_Pens [] [])) [(.t 43), (.t 45), (.t 47)]⟩,
  ⟨(some 42), none, .mv (.t 48)⟩,
  ⟨(some 49), none, .extr 0 (.t 42)⟩,
  ⟨(some 50), none, .extr 1 (.t 42)⟩,
  ⟨(some 11), none, .mv (.t 49)⟩,
  ⟨(some 12), none, .mv (.t 50)⟩]) (.seq (.seq (.reg false [⟨(some 51), none, .mv (.t 10)⟩,
  ⟨(some 52), none, .bin .neq (.t 51) (.c (.int .i64 0))⟩,
  ⟨(some 53), none, .mv (.t 52)⟩,
  ⟨(some 54), some (53, false), .mv (.t 12)⟩,
  ⟨(some 55), some (53, false), .bin .neq (.t 54) (.c (.int .i64 0))⟩,
  ⟨(some 56), none, .pick (.t 53) (.c (.bool true)) (.t 55)⟩,
  ⟨(some 57), none, .mv (.t 56)⟩,
  ⟨(some 58), some (57, false), .mv (.t 11)⟩,
  ⟨(some 59), some (57, false), .len (.t 58)⟩,
  ⟨(some 60), some (57, false), .mv (.t 0)⟩,
  ⟨(some 61), some (57, false), .len (.t 60)⟩,
  ⟨(some 62), some (57, false), .bin .add (.t 61) (.c (.int .i64 1))⟩,
  ⟨(some 63), some (57, false), .bin .neq (.t 59) (.t 62)⟩,
  ⟨(some 64), none, .pick (.t 57) (.c (.bool true)) (.t 63)⟩,
  ⟨(some 65), none, .mv (.t 64)⟩,
  ⟨(some 66), some (65, false), .mv (.t 7)⟩,
  ⟨(some 67), some (65, false), .bin .lss (.t 66) (.c (.int .i64 0))⟩,
  ⟨(some 68), none, .pick (.t 65) (.c (.bool true)) (.t 67)⟩,
  ⟨(some 69), none, .mv (.t 68)⟩,
  ⟨(some 70), some (69, false), .mv (.t 7)⟩,
  ⟨(some 71), some (69, false), .mv (.t 0)⟩,
  ⟨(some 72), some (69, false), .len (.t 71)⟩,
  ⟨(some 73), some (69, false), .bin .gtr (.t 70) (.t 72)⟩,
  ⟨(some 74), none, .pick (.t 69) (.c (.bool true)) (.t 73)⟩]) (.cond (.t 74) (.seq (.reg false [⟨(some 75), none, .mv (.t 10)⟩,
  ⟨(some 76), none, .bin .neq (.t 75) (.c (.int .i64 0))⟩,
  ⟨(some 77), none, .mv (.t 76)⟩,
  ⟨(some 78), some (77, true), .call (.c (.fn f_law26_head [] [])) []⟩,
  ⟨(some 79), none, .pick (.t 77) (.t 78) (.c (.bool false))⟩,
  ⟨(some 4), none, .mv (.t 79)⟩]) .ret) .skip)) (.seq (.seq (.reg false [⟨(some 80), none, .mv (.t 8)⟩,
  ⟨(some 81), none, .mv (.t 11)⟩,
  ⟨(some 82), none, .mv (.t 7)⟩,
  ⟨(some 83), none, .iaddr 1 (.t 81) (.t 82)⟩,
  ⟨(some 84), none, .load none (.t 83)⟩,
  ⟨(some 85), none, .bin .neq (.t 80) (.t 84)⟩]) (.cond (.t 85) (.seq (.reg false [⟨(some 4), none, .mv (.c (.bool false))⟩]) .ret) .skip)) (.seq (.seq (.reg false [⟨(some 86), none, .mv (.t 7)⟩,
  ⟨(some 87), none, .bin .add (.t 86) (.c (.int .i64 1))⟩,
  ⟨(some 13), none, .mv (.t 87)⟩]) (.block 2 (.loop (lv [0, 3, 7, 8, 9, 11, 13] 128) law26_EllipsisPlain_b1))) (.seq (.reg false [⟨(some 104), none, .mv (.t 9)⟩,
  ⟨(some 105), none, .un .not (.t 104)⟩,
  ⟨(some 106), none, .mv (.t 105)⟩,
  ⟨(some 107), some (106, true), .mv (.t 7)⟩,
  ⟨(some 108), some (106, true), .mv (.t 0)⟩,
  ⟨(some 109), some (106, true), .len (.t 108)⟩,
  ⟨(some 110), some (106, true), .bin .eql (.t 107) (.t 109)⟩,
  ⟨(some 111), none, .pick (.t 106) (.t 110) (.c (.bool false))⟩,
  ⟨(some 112), none, .mv (.t 111)⟩,
  ⟨(some 113), some (112, false), .mv (.t 9)⟩,
  ⟨(some 114), some (112, false), .mv (.t 113)⟩,
  ⟨(some 115), some (114, true), .mv (.t 8)⟩,
  ⟨(some 116), some (114, true), .faddr 0 (.t 3)⟩,
  ⟨(some 117), some (114, true), .loadi none (.t 116)⟩,
  ⟨(some 118), some (114, true), .bin .leq (.t 115) (.t 117)⟩,
  ⟨(some 119), some (114, true), .mv (.t 118)⟩,
  ⟨(some 120), some (119, false), .mv (.t 7)⟩,
  ⟨(some 121), some (119, false), .bin .eql (.t 120) (.c (.int .i64 0))⟩,
  ⟨(some 122), some (114, true), .pick (.t 119) (.c (.bool true)) (.t 121)⟩,
  ⟨(some 123), some (112, false), .pick (.t 114) (.t 122) (.c (.bool false))⟩,
  ⟨(some 124), none, .pick (.t 112) (.c (.bool true)) (.t 123)⟩,
  ⟨(some 125), none, .mv (.t 124)⟩,
  ⟨(some 126), some (125, true), .call (.c (.fn f_law26_head [] [])) []⟩,
  ⟨(some 127), none, .pick (.t 125) (.t 126) (.c (.bool false))⟩,
  ⟨(some 4), none, .mv (.t 127)⟩]) .ret))))))))))
def i_law26_EllipsisPlain : IFn := ⟨3, 128, [.tmp 4], c_law26_EllipsisPlain⟩
/-- stickful/stickfullaw26.EllipsisFits: 2 parameters, 0 captured -/
def c_law26_EllipsisFits : IC := (.seq (.reg false [⟨(some 2), none, .boxi (.t 0)⟩,
  ⟨(some 3), none, .boxi (.t 1)⟩,
  ⟨(some 4), none, .mv (.c (.bool false))⟩]) (.seq (.seq (.reg false [⟨(some 14), none, .loadi (some 6) (.t 2)⟩,
  ⟨(some 15), none, .call (.c (.fn f_law26_great [] [])) [(.t 14)]⟩]) (.cond (.t 15) (.seq (.reg false [⟨(some 16), none, .call (.c (.fn f_law26_head [] [])) []⟩,
  ⟨(some 4), none, .mv (.t 16)⟩]) .ret) .skip)) (.seq (.reg false [⟨(some 18), none, .faddr 0 (.t 2)⟩,
  ⟨(some 19), none, .loadi none (.t 18)⟩,
  ⟨(some 20), none, .faddr 1 (.t 2)⟩,
  ⟨(some 21), none, .loadi none (.t 20)⟩,
  ⟨(some 22), none, .faddr 2 (.t 2)⟩,
  ⟨(some 23), none, .loadi (some 3) (.t 22)⟩,
  ⟨(some 24), none, .loadi (some 2) (.t 3)⟩,
  ⟨(some 25), none, .faddr 5 (.t 2)⟩,
  ⟨(some 26), none, .loadi none (.t 25)⟩,
  ⟨(some 27), none, .call (.c (.fn f_ellipsis_Cut [] [])) [(.t 19), (.t 21), (.t 23), (.t 24), (.t 26)]⟩,
  ⟨(some 17), none, .mv (.t 27)⟩,
  ⟨(some 28), none, .extr 0 (.t 17)⟩,
  ⟨(some 29), none, .extr 1 (.t 17)⟩,
  ⟨(some 30), none, .extr 2 (.t 17)⟩,
  ⟨(some 31), none, .extr 3 (.t 17)⟩,
  ⟨(some 5), none, .mv (.t 28)⟩,
  ⟨(some 6), none, .mv (.t 29)⟩,
  ⟨(some 7), none, .mv (.t 30)⟩,
  ⟨(some 8), none, .mv (.t 31)⟩]) (.seq (.seq (.reg false [⟨(some 32), none, .mv (.t 8)⟩,
  ⟨(some 33), none, .bin .neq (.t 32) (.c (.int .i64 0))⟩]) (.cond (.t 33) (.seq (.reg false [⟨(some 34), none, .mv (.t 5)⟩,
  ⟨(some 35), none, .bin .eql (.t 34) (.c (.int .i64 0))⟩,
  ⟨(some 36), none, .mv (.t 35)⟩,
  ⟨(some 37), some (36, true), .mv (.t 6)⟩,
  ⟨(some 38), some (36, true), .bin .eql (.t 37) (.c (.int .i64 0))⟩,
  ⟨(some 39), none, .pick (.t 36) (.t 38) (.c (.bool false))⟩,
  ⟨(some 40), none, .mv (.t 39)⟩,
  ⟨(some 41), some (40, true), .mv (.t 7)⟩,
  ⟨(some 42), some (40, true), .un .not (.t 41)⟩,
  ⟨(some 43), none, .pick (.t 40) (.t 42) (.c (.bool false))⟩,
  ⟨(some 44), none, .mv (.t 43)⟩,
  ⟨(some 45), some (44, true), .call (.c (.fn f_law26_head [] [])) []⟩,
  ⟨(some 46), none, .pick (.t 44) (.t 45) (.c (.bool false))⟩,
  ⟨(some 4), none, .mv (.t 46)⟩]) .ret) .skip)) (.seq (.seq (.reg false [⟨(some 47), none, .faddr 2 (.t 2)⟩,
  ⟨(some 48), none, .faddr 0 (.t 47)⟩,
  ⟨(some 49), none, .loadi none (.t 48)⟩,
  ⟨(some 50), none, .bin .lss (.t 49) (.c (.int .i64 0))⟩,
  ⟨(some 51), none, .mv (.t 50)⟩,
  ⟨(some 52), some (51, false), .faddr 2 (.t 2)⟩,
  ⟨(some 53), some (51, false), .faddr 1 (.t 52)⟩,
  ⟨(some 54), some (51, false), .loadi none (.t 53)⟩,
  ⟨(some 55), some (51, false), .faddr 2 (.t 2)⟩,
  ⟨(some 56), some (51, false), .faddr 0 (.t 55)⟩,
  ⟨(some 57), some (51, false), .loadi none (.t 56)⟩,
  ⟨(some 58), some (51, false), .bin .lss (.t 54) (.t 57)⟩,
  ⟨(some 59), none, .pick (.t 51) (.c (.bool true)) (.t 58)⟩,
  ⟨(some 60), none, .mv (.t 59)⟩,
  ⟨(some 61), some (60, false), .faddr 2 (.t 2)⟩,
  ⟨(some 62), some (60, false), .faddr 1 (.t 61)⟩,
  ⟨(some 63), some (60, false), .loadi none (.t 62)⟩,
  ⟨(some 64), some (60, false), .faddr 0 (.t 2)⟩,
  ⟨(some 65), some (60, false), .loadi none (.t 64)⟩,
  ⟨(some 66), some (60, false), .len (.t 65)⟩,
  ⟨(some 67), some (60, false), .bin .gtr (.t 63) (.t 66)⟩,
  ⟨(some 68), none, .pick (.t 60) (.c (.bool true)) (.t 67)⟩,
  ⟨(some 69), none, .mv (.t 68)⟩,
  ⟨(some 70), some (69, false), .faddr 1 (.t 2)⟩,
  ⟨(some 71), some (69, false), .loadi none (.t 70)⟩,
  ⟨(some 72), some (69, false), .len (.t 71)⟩,
  ⟨(some 73), some (69, false), .faddr 0 (.t 2)⟩,
  ⟨(some 74), some (69, false), .loadi none (.t 73)⟩,
  ⟨(some 75), some (69, false), .len (.t 74)⟩,
  ⟨(some 76), some (69, false), .bin .neq (.t 72) (.t 75)⟩,
  ⟨(some 77), none, .pick (.t 69) (.c (.bool true)) (.t 76)⟩]) (.cond (.t 77) (.seq (.reg false [⟨(some 4), none, .mv (.c (.bool false))⟩]) .ret) .skip)) (.seq (.reg false [⟨(some 78), none, .faddr 0 (.t 2)⟩,
  ⟨(some 79), none, .loadi none (.t 78)⟩,
  ⟨(some 80), none, .faddr 2 (.t 2)⟩,
  ⟨(some 81), none, .faddr 0 (.t 80)⟩,
  ⟨(some 82), none, .loadi none (.t 81)⟩,
  ⟨(some 83), none, .faddr 2 (.t 2)⟩,
  ⟨(some 84), none, .faddr 1 (.t 83)⟩,
  ⟨(some 85), none, .loadi none (.t 84)⟩,
  ⟨(some 86), none, .slice 6 (.t 79) (some (.t 82)) (some (.t 85)) none⟩,
  ⟨(some 9), none, .mv (.t 86)⟩]) (.seq (.reg false [⟨(some 88), none, .mv (.t 9)⟩,
  ⟨(some 89), none, .faddr 1 (.t 3)⟩,
  ⟨(some 90), none, .loadi none (.t 89)⟩,
  ⟨(some 91), none, .call (.c (.fn f_trim_Fits [] [])) [(.t 88), (.t 90)]⟩,
  ⟨(some 87), none, .mv (.t 91)⟩,
  ⟨(some 92), none, .extr 0 (.t 87)⟩,
  ⟨(some 93), none, .extr 1 (.t 87)⟩,
  ⟨(some 10), none, .mv (.t 92)⟩,
  ⟨(some 11), none, .mv (.t 93)⟩]) (.seq (.reg false [⟨(some 95), none, .mv (.t 9)⟩,
  ⟨(some 96), none, .faddr 1 (.t 3)⟩,
  ⟨(some 97), none, .loadi none (.t 96)⟩,
  ⟨(some 98), none, .call (.c (.fn f_trim_Goes [] [])) [(.t 95), (.t 97)]⟩,
  ⟨(some 94), none, .mv (.t 98)⟩,
  ⟨(some 99), none, .extr 0 (.t 94)⟩,
  ⟨(some 100), none, .extr 1 (.t 94)⟩,
  ⟨(some 12), none, .mv (.t 99)⟩,
  ⟨(some 13), none, .mv (.t 100)⟩]) (.seq (.seq (.reg false [⟨(some 101), none, .mv (.t 11)⟩,
  ⟨(some 102), none, .bin .neq (.t 101) (.c (.int .i64 0))⟩,
  ⟨(some 103), none, .mv (.t 102)⟩,
  ⟨(some 104), some (103, false), .mv (.t 13)⟩,
  ⟨(some 105), some (103, false), .bin .neq (.t 104) (.c (.int .i64 0))⟩,
  ⟨(some 106), none, .pick (.t 103) (.c (.bool true)) (.t 105)⟩,
  ⟨(some 107), none, .mv (.t 106)⟩,
  ⟨(some 108), some (107, false), .mv (.t 7)⟩,
  ⟨(some 109), some (107, false), .mv (.t 10)⟩,
  ⟨(some 110), some (107, false), .faddr 0 (.t 3)⟩,
  ⟨(some 111), some (107, false), .loadi none (.t 110)⟩,
  ⟨(some 112), some (107, false), .bin .gtr (.t 109) (.t 111)⟩,
  ⟨(some 113), some (107, false), .eqb true (.t 108) (.t 112)⟩,
  ⟨(some 114), none, .pick (.t 107) (.c (.bool true)) (.t 113)⟩,
  ⟨(some 115), none, .mv (.t 114)⟩,
  ⟨(some 116), some (115, false), .mv (.t 5)⟩,
  ⟨(some 117), some (115, false), .faddr 2 (.t 2)⟩,
  ⟨(some 118), some (115, false), .faddr 0 (.t 117)⟩,
  ⟨(some 119), some (115, false), .loadi none (.t 118)⟩,
  ⟨(some 120), some (115, false), .bin .lss (.t 116) (.t 119)⟩,
  ⟨(some 121), none, .pick (.t 115) (.c (.bool true)) (.t 120)⟩,
  ⟨(some 122), none, .mv (.t 121)⟩,
  ⟨(some 123), some (122, false), .mv (.t 5)⟩,
  ⟨(some 124), some (122, false), .faddr 2 (.t 2)⟩,
  ⟨(some 125), some (122, false), .faddr 1 (.t 124)⟩,
  ⟨(some 126), some (122, false), .loadi none (.t 125)⟩,
  ⟨(some 127), some (122, false), .bin .gtr (.t 123) (.t 126)⟩,
  ⟨(some 128), none, .pick (.t 122) (.c (.bool true)) (.t 127)⟩]) (.cond (.t 128) (.seq (.reg false [⟨(some 4), none, .mv (.c (.bool false))⟩]) .ret) .skip)) (.seq (.seq (.reg false [⟨(some 129), none, .mv (.t 7)⟩,
  ⟨(some 130), none, .un .not (.t 129)⟩]) (.cond (.t 130) (.seq (.reg false [⟨(some 131), none, .mv (.t 5)⟩,
  ⟨(some 132), none, .faddr 2 (.t 2)⟩,
  ⟨(some 133), none, .faddr 1 (.t 132)⟩,
  ⟨(some 134), none, .loadi none (.t 133)⟩,
  ⟨(some 135), none, .bin .eql (.t 131) (.t 134)⟩,
  ⟨(some 136), none, .mv (.t 135)⟩,
  ⟨(some 137), some (136, true), .mv (.t 6)⟩,
  ⟨(some 138), some (136, true), .mv (.t 12)⟩,
  ⟨(some 139), some (136, true), .bin .eql (.t 137) (.t 138)⟩,
  ⟨(some 140), none, .pick (.t 136) (.t 139) (.c (.bool false))⟩,
  ⟨(some 141), none, .mv (.t 140)⟩,
  ⟨(some 142), some (141, true), .call (.c (.fn f_law26_head [] [])) []⟩,
  ⟨(some 143), none, .pick (.t 141) (.t 142) (.c (.bool false))⟩,
  ⟨(some 4), none, .mv (.t 143)⟩]) .ret) .skip)) (.seq (.reg false [⟨(some 144), none, .mv (.t 5)⟩,
  ⟨(some 145), none, .faddr 2 (.t 2)⟩,
  ⟨(some 146), none, .faddr 0 (.t 145)⟩,
  ⟨(some 147), none, .loadi none (.t 146)⟩,
  ⟨(some 148), none, .bin .eql (.t 144) (.t 147)⟩,
  ⟨(some 149), none, .mv (.t 148)⟩,
  ⟨(some 150), some (149, true), .mv (.t 6)⟩,
  ⟨(some 151), some (149, true), .faddr 1 (.t 3)⟩,
  ⟨(some 152), some (149, true), .loadi none (.t 151)⟩,
  ⟨(some 153), some (149, true), .bin .eql (.t 150) (.t 152)⟩,
  ⟨(some 154), none, .pick (.t 149) (.t 153) (.c (.bool false))⟩,
  ⟨(some 155), none, .mv (.t 154)⟩,
  ⟨(some 156), some (155, false), .mv (.t 6)⟩,
  ⟨(some 157), some (155, false), .faddr 5 (.t 2)⟩,
  ⟨(some 158), some (155, false), .loadi none (.t 157)⟩,
  ⟨(some 159), some (155, false), .bin .add (.t 156) (.t 158)⟩,
  ⟨(some 160), some (155, false), .faddr 0 (.t 3)⟩,
  ⟨(some 161), some (155, false), .loadi none (.t 160)⟩,
  ⟨(some 162), some (155, false), .bin .leq (.t 159) (.t 161)⟩,
  ⟨(some 163), some (155, false), .mv (.t 162)⟩,
  ⟨(some 164), some (163, true), .mv (.t 5)⟩,
  ⟨(some 165), some (163, true), .faddr 2 (.t 2)⟩,
  ⟨(some 166), some (163, true), .faddr 1 (.t 165)⟩,
  ⟨(some 167), some (163, true), .loadi none (.t 166)⟩,
  ⟨(some 168), some (163, true), .bin .eql (.t 164) (.t 167)⟩,
  ⟨(some 169), some (163, true), .mv (.t 168)⟩,
  ⟨(some 170), some (169, false), .faddr 1 (.t 2)⟩,
  ⟨(some 171), some (169, false), .loadi none (.t 170)⟩,
  ⟨(some 172), some (169, false), .mv (.t 5)⟩,
  ⟨(some 173), some (169, false), .iaddr 1 (.t 171) (.t 172)⟩,
  ⟨(some 174), some (169, false), .load none (.t 173)⟩,
  ⟨(some 175), some (163, true), .pick (.t 169) (.c (.bool true)) (.t 174)⟩,
  ⟨(some 176), some (155, false), .pick (.t 163) (.t 175) (.c (.bool false))⟩,
  ⟨(some 177), none, .pick (.t 155) (.c (.bool true)) (.t 176)⟩,
  ⟨(some 178), none, .mv (.t 177)⟩,
  ⟨(some 179), some (178, true), .call (.c (.fn f_law26_head [] [])) []⟩,
  ⟨(some 180), none, .pick (.t 178) (.t 179) (.c (.bool false))⟩,
  ⟨(some 4), none, .mv (.t 180)⟩]) .ret)))))))))))
def i_law26_EllipsisFits : IFn := ⟨3, 181, [.tmp 4], c_law26_EllipsisFits⟩
/-- stickful/stickfullaw26.head: 0 parameters, 0 captured -/
def c_law26_head : IC := (.seq (.reg false [⟨(some 0), none, .mv (.c (.bool false))⟩]) (.seq (.reg false [⟨(some 6), none, .build [(.int .u8 0), (.int .i64 0), (.int .i64 0), (.int .i64 0), (.bool false), (.bool false)] []⟩,
  ⟨(some 7), none, .blit 1 [(.int .u8 0), (.int .i64 0), (.int .i64 0), (.int .i64 0), (.bool false), (.bool false)] [(0, 6, (.t 6))]⟩,
  ⟨(some 8), none, .call (.c (.fn f_ellipsis_Whole [] [])) [(.c .nils), (.t 7)]⟩,
  ⟨(some 5), none, .mv (.t 8)⟩,
  ⟨(some 9), none, .extr 0 (.t 5)⟩,
  ⟨(some 10), none, .extr 1 (.t 5)⟩,
  ⟨(some 1), none, .mv (.t 9)⟩,
  ⟨(some 2), none, .mv (.t 10)⟩]) (.seq (.reg false [⟨(some 12), none, .build [(.int .i64 0), (.int .i64 0), (.bool false)] [(1, 1, (.c (.int .i64 1)))]⟩,
  ⟨(some 13), none, .call (.c (.fn f_ellipsis_Places [] [])) [(.c .nils), (.c .nils), (.t 12)]⟩,
  ⟨(some 11), none, .mv (.t 13)⟩,
  ⟨(some 14), none, .extr 0 (.t 11)⟩,
  ⟨(some 15), none, .extr 1 (.t 11)⟩,
  ⟨(some 3), none, .mv (.t 14)⟩,
  ⟨(some 4), none, .mv (.t 15)⟩]) (.seq (.reg false [⟨(some 16), none, .call (.c (.fn f_law26_is [] [])) [(.c (.int .i64 60)), (.c (.int .i64 6)), (.c (.int .i64 60)), (.c (.bool false))]⟩,
  ⟨(some 17), none, .mv (.t 16)⟩,
  ⟨(some 18), some (17, true), .call (.c (.fn f_law26_is [] [])) [(.c (.int .i64 59)), (.c (.int .i64 4)), (.c (.int .i64 40)), (.c (.bool true))]⟩,
  ⟨(some 19), none, .pick (.t 17) (.t 18) (.c (.bool false))⟩,
  ⟨(some 20), none, .mv (.t 19)⟩,
  ⟨(some 21), some (20, true), .call (.c (.fn f_law26_is [] [])) [(.c (.int .i64 50)), (.c (.int .i64 4)), (.c (.int .i64 40)), (.c (.bool true))]⟩,
  ⟨(some 22), none, .pick (.t 20) (.t 21) (.c (.bool false))⟩,
  ⟨(some 23), none, .mv (.t 22)⟩,
  ⟨(some 24), some (23, true), .call (.c (.fn f_law26_is [] [])) [(.c (.int .i64 45)), (.c (.int .i64 2)), (.c (.int .i64 20)), (.c (.bool true))]⟩,
  ⟨(some 25), none, .pick (.t 23) (.t 24) (.c (.bool false))⟩,
  ⟨(some 26), none, .mv (.t 25)⟩,
  ⟨(some 27), some (26, true), .call (.c (.fn f_law26_is [] [])) [(.c (.int .i64 30)), (.c (.int .i64 2)), (.c (.int .i64 20)), (.c (.bool true))]⟩,
  ⟨(some 28), none, .pick (.t 26) (.t 27) (.c (.bool false))⟩,
  ⟨(some 29), none, .mv (.t 28)⟩,
  ⟨(some 30), some (29, true), .call (.c (.fn f_law26_is [] [])) [(.c (.int .i64 9)), (.c (.int .i64 0)), (.c (.int .i64 0)), (.c (.bool true))]⟩,
  ⟨(some 31), none, .pick (.t 29) (.t 30) (.c (.bool false))⟩,
  ⟨(some 32), none, .mv (.t 31)⟩,
  ⟨(some 33), some (32, true), .mv (.t 2)⟩,
  ⟨(some 34), some (32, true), .bin .eql (.t 33) (.c (.int .i64 2))⟩,
  ⟨(some 35), none, .pick (.t 32) (.t 34) (.c (.bool false))⟩,
  ⟨(some 36), none, .mv (.t 35)⟩,
  ⟨(some 37), some (36, true), .mv (.t 4)⟩,
  ⟨(some 38), some (36, true), .bin .eql (.t 37) (.c (.int .i64 2))⟩,
  ⟨(some 39), none, .pick (.t 36) (.t 38) (.c (.bool false))⟩,
  ⟨(some 0), none, .mv (.t 39)⟩]) .ret))))
def i_law26_head : IFn := ⟨3, 40, [.tmp 0], c_law26_head⟩
/-- stickful/ellipsis.Cut: 5 parameters, 0 captured -/
def c_ellipsis_Cut : IC := (.seq (.reg false [⟨(some 7), none, .boxi (.t 2)⟩,
  ⟨(some 8), none, .boxi (.t 3)⟩,
  ⟨(some 9), none, .boxi (.t 4)⟩,
  ⟨(some 10), none, .mv (.c (.int .i64 0))⟩,
  ⟨(some 11), none, .mv (.c (.int .i64 0))⟩,
  ⟨(some 12), none, .mv (.c (.bool false))⟩,
  ⟨(some 13), none, .mv (.c (.int .i64 0))⟩]) (.seq (.seq (.reg false [⟨(some 17), none, .mv (.t 0)⟩,
  ⟨(some 18), none, .mv (.t 1)⟩,
  ⟨(some 19), none, .loadi (some 3) (.t 7)⟩,
  ⟨(some 20), none, .call (.c (.fn f_ellipsis_within [] [])) [(.t 17), (.t 18), (.t 19)]⟩,
  ⟨(some 21), none, .un .not (.t 20)⟩,
  ⟨(some 22), none, .mv (.t 21)⟩,
  ⟨(some 23), some (22, false), .faddr 0 (.t 8)⟩,
  ⟨(some 24), some (22, false), .loadi none (.t 23)⟩,
  ⟨(some 25), some (22, false), .bin .lss (.t 24) (.c (.int .i64 0))⟩,
  ⟨(some 26), none, .pick (.t 22) (.c (.bool true)) (.t 25)⟩,
  ⟨(some 27), none, .mv (.t 26)⟩,
  ⟨(some 28), some (27, false), .loadi none (.t 9)⟩,
  ⟨(some 29), some (27, false), .bin .lss (.t 28) (.c (.int .i64 0))⟩,
  ⟨(some 30), none, .pick (.t 27) (.c (.bool true)) (.t 29)⟩,
  ⟨(some 31), none, .mv (.t 30)⟩,
  ⟨(some 32), some (31, false), .loadi none (.t 9)⟩,
  ⟨(some 33), some (31, false), .bin .gtr (.t 32) (.c (.int .i64 1073741824))⟩,
  ⟨(some 34), none, .pick (.t 31) (.c (.bool true)) (.t 33)⟩]) (.cond (.t 34) (.seq (.reg false [⟨(some 10), none, .mv (.c (.int .i64 0))⟩,
  ⟨(some 11), none, .mv (.c (.int .i64 0))⟩,
  ⟨(some 12), none, .mv (.c (.bool false))⟩,
  ⟨(some 13), none, .mv (.c (.int .i64 2))⟩]) .ret) .skip)) (.seq (.reg false [⟨(some 35), none, .mv (.t 0)⟩,
  ⟨(some 36), none, .faddr 0 (.t 7)⟩,
  ⟨(some 37), none, .loadi none (.t 36)⟩,
  ⟨(some 38), none, .faddr 1 (.t 7)⟩,
  ⟨(some 39), none, .loadi none (.t 38)⟩,
  ⟨(some 40), none, .slice 6 (.t 35) (some (.t 37)) (some (.t 39)) none⟩,
  ⟨(some 14), none, .mv (.t 40)⟩]) (.seq (.reg false [⟨(some 42), none, .mv (.t 14)⟩,
  ⟨(some 43), none, .faddr 1 (.t 8)⟩,
  ⟨(some 44), none, .loadi none (.t 43)⟩,
  ⟨(some 45), none, .call (.c (.fn f_trim_Fits [] [])) [(.t 42), (.t 44)]⟩,
  ⟨(some 41), none, .mv (.t 45)⟩,
  ⟨(some 46), none, .extr 0 (.t 41)⟩,
  ⟨(some 47), none, .extr 1 (.t 41)⟩,
  ⟨(some 15), none, .mv (.t 46)⟩,
  ⟨(some 13), none, .mv (.t 47)⟩]) (.seq (.seq (.reg false [⟨(some 48), none, .mv (.t 13)⟩,
  ⟨(some 49), none, .bin .neq (.t 48) (.c (.int .i64 0))⟩]) (.cond (.t 49) (.seq (.reg false [⟨(some 50), none, .mv (.t 13)⟩,
  ⟨(some 10), none, .mv (.c (.int .i64 0))⟩,
  ⟨(some 11), none, .mv (.c (.int .i64 0))⟩,
  ⟨(some 12), none, .mv (.c (.bool false))⟩,
  ⟨(some 13), none, .mv (.t 50)⟩]) .ret) .skip)) (.seq (.reg true [⟨(some 52), none, .mv (.t 14)⟩,
  ⟨(some 53), none, .mv (.t 14)⟩,
  ⟨(some 54), none, .call (.c (.fn f_trim_Roles [] [])) [(.t 53)]⟩,
  ⟨(some 55), none, .faddr 1 (.t 8)⟩,
  ⟨(some 56), none, .loadi none (.t 55)⟩,
  ⟨(some 57), none, .call (.c (.fn f_tabs_Pens [] [])) [(.t 52), (.t 54), (.t 56)]⟩,
  ⟨(some 51), none, .mv (.t 57)⟩,
  ⟨(some 58), none, .extr 0 (.t 51)⟩,
  ⟨(some 59), none, .extr 1 (.t 51)⟩,
  ⟨(some 16), none, .alloc [.nils]⟩,
  ⟨none, none, .store 1 (.t 16) (.t 58)⟩,
  ⟨(some 13), none, .mv (.t 59)⟩]) (.seq (.seq (.reg false [⟨(some 60), none, .mv (.t 13)⟩,
  ⟨(some 61), none, .bin .neq (.t 60) (.c (.int .i64 0))⟩]) (.cond (.t 61) (.seq (.reg false [⟨(some 62), none, .mv (.t 13)⟩,
  ⟨(some 10), none, .mv (.c (.int .i64 0))⟩,
  ⟨(some 11), none, .mv (.c (.int .i64 0))⟩,
  ⟨(some 12), none, .mv (.c (.bool false))⟩,
  ⟨(some 13), none, .mv (.t 62)⟩]) .ret) .skip)) (.seq (.seq (.reg false [⟨(some 63), none, .faddr 1 (.t 7)⟩,
  ⟨(some 64), none, .loadi none (.t 63)⟩,
  ⟨(some 10), none, .mv (.t 64)⟩]) (.seq (.reg false [⟨(some 65), none, .mv (.t 15)⟩,
  ⟨(some 66), none, .faddr 0 (.t 8)⟩,
  ⟨(some 67), none, .loadi none (.t 66)⟩,
  ⟨(some 68), none, .bin .gtr (.t 65) (.t 67)⟩]) (.cond (.t 68) (.reg true [⟨(some 69), none, .mv (.t 1)⟩,
  ⟨(some 70), none, .loadi (some 3) (.t 7)⟩,
  ⟨(some 71), none, .call (.c (.fn f_ellipsis_back [] [])) [(.t 69), (.t 70)]⟩,
  ⟨(some 72), none, .faddr 0 (.t 7)⟩,
  ⟨(some 73), none, .loadi none (.t 72)⟩,
  ⟨(some 74), none, .mkfn f_ellipsis_Cut_1 [] [(.t 16), (.t 7), (.t 9), (.t 8)]⟩,
  ⟨(some 75), none, .call (.c (.fn f_ellipsis_first [] [])) [(.t 71), (.t 73), (.t 74)]⟩,
  ⟨(some 10), none, .mv (.t 75)⟩]) .skip))) (.seq (.reg true [⟨(some 76), none, .mv (.t 10)⟩,
  ⟨(some 77), none, .load none (.t 16)⟩,
  ⟨(some 78), none, .mv (.t 10)⟩,
  ⟨(some 79), none, .faddr 0 (.t 7)⟩,
  ⟨(some 80), none, .loadi none (.t 79)⟩,
  ⟨(some 81), none, .bin .sub (.t 78) (.t 80)⟩,
  ⟨(some 82), none, .iaddr 1 (.t 77) (.t 81)⟩,
  ⟨(some 83), none, .load none (.t 82)⟩,
  ⟨(some 84), none, .mv (.t 15)⟩,
  ⟨(some 85), none, .faddr 0 (.t 8)⟩,
  ⟨(some 86), none, .loadi none (.t 85)⟩,
  ⟨(some 87), none, .bin .gtr (.t 84) (.t 86)⟩,
  ⟨(some 10), none, .mv (.t 76)⟩,
  ⟨(some 11), none, .mv (.t 83)⟩,
  ⟨(some 12), none, .mv (.t 87)⟩,
  ⟨(some 13), none, .mv (.c (.int .i64 0))⟩]) .ret)))))))))
def i_ellipsis_Cut : IFn := ⟨3, 88, [.tmp 10, .tmp 11, .tmp 12, .tmp 13], c_ellipsis_Cut⟩
/-- stickful/tabs.Pens: 3 parameters, 0 captured -/
def tabs_Pens_b0 : IC := (.seq (.reg false [⟨(some 18), none, .bin .lss (.t 17) (.t 16)⟩]) (.seq (.cond (.t 18) .skip (.exit 0)) (.seq (.block 1 (.seq (.reg false [⟨(some 19), none, .iaddr 6 (.t 15) (.t 17)⟩,
  ⟨(some 20), none, .load (some 6) (.t 19)⟩,
  ⟨(some 9), none, .alloc [(.int .u8 0), (.int .i64 0), (.int .i64 0), (.int .i64 0), (.bool false), (.bool false)]⟩,
  ⟨none, none, .store 6 (.t 9) (.t 20)⟩]) (.seq (.reg false [⟨(some 21), none, .faddr 0 (.t 9)⟩,
  ⟨(some 22), none, .load none (.t 21)⟩,
  ⟨(some 23), none, .bin .eql (.t 22) (.c (.int .u8 4))⟩,
  ⟨(some 24), none, .mv (.t 23)⟩,
  ⟨(some 25), some (24, true), .faddr 3 (.t 9)⟩,
  ⟨(some 26), some (24, true), .load none (.t 25)⟩,
  ⟨(some 27), some (24, true), .bin .lss (.t 26) (.c (.int .i64 0))⟩,
  ⟨(some 28), none, .pick (.t 24) (.t 27) (.c (.bool false))⟩]) (.cond (.t 28) (.seq (.reg false [⟨none, none, .store 1 (.t 6) (.c .nils)⟩,
  ⟨none, none, .store 1 (.t 7) (.c (.int .i64 2))⟩]) .ret) .skip)))) (.reg false [⟨(some 29), none, .bin .add (.t 17) (.c (.int .i64 1))⟩,
  ⟨(some 17), none, .mv (.t 29)⟩]))))
def tabs_Pens_a1 : IC := (.seq (.reg false [⟨(some 13), none, .mv (.t 45)⟩]) (.reg false [⟨(some 14), none, .mv (.t 46)⟩]))
def tabs_Pens_r1 : IC := (.block 3 (.seq (.seq (.reg false [⟨(some 47), none, .mv (.t 14)⟩,
  ⟨(some 48), none, .bin .neq (.t 47) (.c (.int .i64 0))⟩]) (.cond (.t 48) (.seq (.reg false [⟨(some 49), none, .mv (.t 14)⟩,
  ⟨none, none, .store 1 (.t 6) (.c .nils)⟩,
  ⟨none, none, .store 1 (.t 7) (.t 49)⟩]) .ret) .skip)) (.reg false [⟨(some 50), none, .load none (.t 12)⟩,
  ⟨(some 51), none, .mv (.t 13)⟩,
  ⟨(some 52), none, .blit 1 [(.int .i64 0)] [(0, 1, (.t 51))]⟩,
  ⟨(some 53), none, .app 1 8 (.t 50) (.t 52)⟩,
  ⟨none, none, .store 1 (.t 12) (.t 53)⟩])))
def c_tabs_Pens : IC := (.seq (.reg false [⟨(some 6), none, .alloc [.nils]⟩,
  ⟨(some 7), none, .alloc [(.int .i64 0)]⟩]) (.seq (.seq (.reg false [⟨(some 15), none, .mv (.t 0)⟩,
  ⟨(some 16), none, .len (.t 15)⟩,
  ⟨(some 17), none, .mv (.c (.int .i64 0))⟩]) (.block 0 (.loop (lv [0, 1, 2, 6, 7, 15, 16, 17] 55) tabs_Pens_b0))) (.seq (.seq (.reg false [⟨(some 31), none, .mv (.t 2)⟩,
  ⟨(some 32), none, .blit 1 [(.int .i64 0)] [(0, 1, (.t 31))]⟩,
  ⟨(some 33), none, .call (.c (.fn f_unit_Sum [] [])) [(.t 32)]⟩,
  ⟨(some 30), none, .mv (.t 33)⟩,
  ⟨(some 34), none, .extr 0 (.t 30)⟩,
  ⟨(some 35), none, .extr 1 (.t 30)⟩,
  ⟨(some 10), none, .mv (.t 34)⟩,
  ⟨(some 11), none, .mv (.t 35)⟩]) (.seq (.reg false [⟨(some 36), none, .mv (.t 11)⟩,
  ⟨(some 37), none, .bin .neq (.t 36) (.c (.int .i64 0))⟩]) (.cond (.t 37) (.seq (.reg false [⟨(some 38), none, .mv (.t 11)⟩,
  ⟨none, none, .store 1 (.t 6) (.c .nils)⟩,
  ⟨none, none, .store 1 (.t 7) (.t 38)⟩]) .ret) .skip))) (.seq (.reg false [⟨(some 39), none, .mv (.t 2)⟩,
  ⟨(some 40), none, .blit 1 [(.int .i64 0)] [(0, 1, (.t 39))]⟩,
  ⟨(some 12), none, .alloc [.nils]⟩,
  ⟨none, none, .store 1 (.t 12) (.t 40)⟩]) (.seq (.seq (.reg false [⟨(some 41), none, .mv (.t 0)⟩,
  ⟨(some 42), none, .mv (.t 1)⟩,
  ⟨(some 43), none, .mv (.t 2)⟩,
  ⟨(some 44), none, .call (.c (.fn f_tabs_pens [] [])) [(.t 41), (.t 42), (.t 43)]⟩]) (.block 2 (.rangeF (.t 44) [45, 46] tabs_Pens_a1 tabs_Pens_r1))) (.seq (.reg false [⟨(some 54), none, .load none (.t 12)⟩,
  ⟨none, none, .store 1 (.t 6) (.t 54)⟩,
  ⟨none, none, .store 1 (.t 7) (.c (.int .i64 0))⟩]) .ret))))))
def i_tabs_Pens : IFn := ⟨1, 55, [.cell 6 none, .cell 7 none], c_tabs_Pens⟩
/-- stickful/trim.Roles: 1 parameters, 0 captured -/
def c_trim_Roles : IC := (.seq (.reg false [⟨(some 1), none, .boxi (.t 0)⟩,
  ⟨(some 2), none, .mv (.c .nils)⟩]) (.seq (.reg false [⟨(some 6), none, .loadi none (.t 1)⟩,
  ⟨(some 7), none, .len (.t 6)⟩,
  ⟨(some 8), none, .mksl [(.int .u8 0)] 1 1 (.t 7) (.t 7)⟩,
  ⟨(some 3), none, .alloc [.nils]⟩,
  ⟨none, none, .store 1 (.t 3) (.t 8)⟩]) (.seq (.reg false [⟨(some 9), none, .mkfn f_trim_Roles_1 [] [(.t 1), (.t 3)]⟩,
  ⟨(some 4), none, .mv (.t 9)⟩]) (.seq (.reg false [⟨(some 5), none, .alloc [.nilf]⟩,
  ⟨none, none, .store 1 (.t 5) (.c (.fn f_trim_Roles_2 [] []))⟩]) (.seq (.reg false [⟨(some 10), none, .mv (.t 4)⟩,
  ⟨(some 11), none, .loadi none (.t 1)⟩,
  ⟨(some 12), none, .load none (.t 5)⟩,
  ⟨(some 13), none, .call (.c (.fn f_trim_from [] [])) [(.t 11), (.c (.int .i64 0)), (.c (.int .i64 1)), (.t 12)]⟩,
  ⟨(some 14), none, .call (.t 10) [(.c (.int .u8 1)), (.c (.int .u8 1)), (.t 13)]⟩]) (.seq (.reg false [⟨(some 15), none, .mv (.t 4)⟩,
  ⟨(some 16), none, .loadi none (.t 1)⟩,
  ⟨(some 17), none, .loadi none (.t 1)⟩,
  ⟨(some 18), none, .len (.t 17)⟩,
  ⟨(some 19), none, .bin .sub (.t 18) (.c (.int .i64 1))⟩,
  ⟨(some 20), none, .load none (.t 5)⟩,
  ⟨(some 21), none, .call (.c (.fn f_trim_from [] [])) [(.t 16), (.t 19), (.c (.int .i64 (-1))), (.t 20)]⟩,
  ⟨(some 22), none, .call (.t 15) [(.c (.int .u8 1)), (.c (.int .u8 1)), (.t 21)]⟩]) (.seq (.reg false [⟨(some 23), none, .mv (.t 4)⟩,
  ⟨(some 24), none, .loadi none (.t 1)⟩,
  ⟨(some 25), none, .loadi none (.t 1)⟩,
  ⟨(some 26), none, .len (.t 25)⟩,
  ⟨(some 27), none, .bin .sub (.t 26) (.c (.int .i64 1))⟩,
  ⟨(some 28), none, .mkfn f_trim_Roles_3 [] [(.t 5)]⟩,
  ⟨(some 29), none, .call (.c (.fn f_trim_from [] [])) [(.t 24), (.t 27), (.c (.int .i64 (-1))), (.t 28)]⟩,
  ⟨(some 30), none, .call (.t 23) [(.c (.int .u8 2)), (.c (.int .u8 2)), (.t 29)]⟩]) (.seq (.reg false [⟨(some 31), none, .load none (.t 3)⟩,
  ⟨(some 2), none, .mv (.t 31)⟩]) .ret))))))))
def i_trim_Roles : IFn := ⟨3, 32, [.tmp 2], c_trim_Roles⟩
/-- stickful/stickfullaw26.great: 1 parameters, 0 captured -/
def c_law26_great : IC := (.seq (.reg false [⟨(some 1), none, .boxi (.t 0)⟩,
  ⟨(some 2), none, .mv (.c (.bool false))⟩]) (.seq (.reg false [⟨(some 3), none, .faddr 0 (.t 1)⟩,
  ⟨(some 4), none, .loadi none (.t 3)⟩,
  ⟨(some 5), none, .len (.t 4)⟩,
  ⟨(some 6), none, .bin .gtr (.t 5) (.c (.int .i64 100))⟩,
  ⟨(some 7), none, .mv (.t 6)⟩,
  ⟨(some 8), some (7, false), .faddr 1 (.t 1)⟩,
  ⟨(some 9), some (7, false), .loadi none (.t 8)⟩,
  ⟨(some 10), some (7, false), .len (.t 9)⟩,
  ⟨(some 11), some (7, false), .bin .gtr (.t 10) (.c (.int .i64 150))⟩,
  ⟨(some 12), none, .pick (.t 7) (.c (.bool true)) (.t 11)⟩,
  ⟨(some 2), none, .mv (.t 12)⟩]) .ret))
def i_law26_great : IFn := ⟨3, 13, [.tmp 2], c_law26_great⟩
/-- stickful/trim.Fits: 2 parameters, 0 captured -/
def trim_Fits_b0 : IC := (.seq (.reg false [⟨(some 14), none, .bin .lss (.t 13) (.t 12)⟩]) (.seq (.cond (.t 14) .skip (.exit 0)) (.seq (.block 1 (.seq (.reg false [⟨(some 15), none, .mv (.t 13)⟩,
  ⟨(some 16), none, .iaddr 1 (.t 11) (.t 13)⟩,
  ⟨(some 17), none, .load none (.t 16)⟩,
  ⟨(some 7), none, .mv (.t 15)⟩,
  ⟨(some 8), none, .mv (.t 17)⟩]) (.seq (.reg false [⟨(some 18), none, .mv (.t 8)⟩,
  ⟨(some 19), none, .bin .eql (.t 18) (.c (.int .u8 2))⟩]) (.cond (.t 19) (.reg false [⟨(some 20), none, .mv (.t 6)⟩,
  ⟨(some 21), none, .mv (.t 7)⟩,
  ⟨(some 22), none, .iaddr 1 (.t 20) (.t 21)⟩,
  ⟨none, none, .store 1 (.t 22) (.c (.int .u8 1))⟩]) .skip)))) (.reg false [⟨(some 23), none, .bin .add (.t 13) (.c (.int .i64 1))⟩,
  ⟨(some 13), none, .mv (.t 23)⟩]))))
def c_trim_Fits : IC := (.seq (.reg false [⟨(some 4), none, .mv (.c (.int .i64 0))⟩,
  ⟨(some 5), none, .mv (.c (.int .i64 0))⟩]) (.seq (.reg false [⟨(some 9), none, .mv (.t 0)⟩,
  ⟨(some 10), none, .callt f_trim_Roles [(.t 9)]⟩,
  ⟨(some 6), none, .mv (.t 10)⟩]) (.seq (.seq (.reg false [⟨(some 11), none, .mv (.t 6)⟩,
  ⟨(some 12), none, .len (.t 11)⟩,
  ⟨(some 13), none, .mv (.c (.int .i64 0))⟩]) (.block 0 (.loop (lv [0, 1, 6, 11, 12, 13] 30) trim_Fits_b0))) (.seq (.reg false [⟨(some 24), none, .mv (.t 0)⟩,
  ⟨(some 25), none, .mv (.t 6)⟩,
  ⟨(some 26), none, .mv (.t 1)⟩,
  ⟨(some 27), none, .call (.c (.fn f_tabs_End [] [])) [(.t 24), (.t 25), (.t 26)]⟩,
  ⟨(some 28), none, .extr 0 (.t 27)⟩,
  ⟨(some 29), none, .extr 1 (.t 27)⟩,
  ⟨(some 4), none, .mv (.t 28)⟩,
  ⟨(some 5), none, .mv (.t 29)⟩]) .ret))))
def i_trim_Fits : IFn := ⟨3, 30, [.tmp 4, .tmp 5], c_trim_Fits⟩
/-- stickful/trim.Goes: 2 parameters, 0 captured -/
def c_trim_Goes : IC := (.seq (.reg false [⟨(some 4), none, .mv (.c (.int .i64 0))⟩,
  ⟨(some 5), none, .mv (.c (.int .i64 0))⟩]) (.seq (.reg false [⟨(some 6), none, .mv (.t 0)⟩,
  ⟨(some 7), none, .mv (.t 0)⟩,
  ⟨(some 8), none, .call (.c (.fn f_trim_Roles [] [])) [(.t 7)]⟩,
  ⟨(some 9), none, .mv (.t 1)⟩,
  ⟨(some 10), none, .call (.c (.fn f_tabs_End [] [])) [(.t 6), (.t 8), (.t 9)]⟩,
  ⟨(some 11), none, .extr 0 (.t 10)⟩,
  ⟨(some 12), none, .extr 1 (.t 10)⟩,
  ⟨(some 4), none, .mv (.t 11)⟩,
  ⟨(some 5), none, .mv (.t 12)⟩]) .ret))
def i_trim_Goes : IFn := ⟨3, 13, [.tmp 4, .tmp 5], c_trim_Goes⟩
/-- stickful/ellipsis.Whole: 2 parameters, 0 captured -/
def ellipsis_Whole_b0 : IC := (.seq (.reg false [⟨(some 15), none, .bin .lss (.t 14) (.t 13)⟩]) (.seq (.cond (.t 15) .skip (.exit 0)) (.seq (.block 1 (.seq (.reg false [⟨(some 16), none, .mv (.t 14)⟩,
  ⟨(some 17), none, .iaddr 6 (.t 12) (.t 14)⟩,
  ⟨(some 18), none, .load (some 6) (.t 17)⟩,
  ⟨(some 8), none, .alloc [(.int .u8 0), (.int .i64 0), (.int .i64 0), (.int .i64 0), (.bool false), (.bool false)]⟩,
  ⟨(some 7), none, .mv (.t 16)⟩,
  ⟨none, none, .store 6 (.t 8) (.t 18)⟩]) (.seq (.reg false [⟨(some 19), none, .mv (.t 6)⟩,
  ⟨(some 20), none, .mv (.t 7)⟩,
  ⟨(some 21), none, .iaddr 1 (.t 19) (.t 20)⟩,
  ⟨none, none, .store 1 (.t 21) (.c (.bool true))⟩]) (.seq (.seq (.reg false [⟨(some 22), none, .faddr 0 (.t 8)⟩,
  ⟨(some 23), none, .load none (.t 22)⟩,
  ⟨(some 24), none, .bin .neq (.t 23) (.c (.int .u8 0))⟩]) (.cond (.t 24) (.exit 1) .skip)) (.seq (.seq (.reg false [⟨(some 25), none, .faddr 2 (.t 8)⟩,
  ⟨(some 26), none, .load none (.t 25)⟩,
  ⟨(some 27), none, .bin .lss (.t 26) (.c (.int .i64 0))⟩,
  ⟨(some 28), none, .mv (.t 27)⟩,
  ⟨(some 29), some (28, false), .faddr 2 (.t 8)⟩,
  ⟨(some 30), some (28, false), .load none (.t 29)⟩,
  ⟨(some 31), some (28, false), .mv (.t 0)⟩,
  ⟨(some 32), some (28, false), .len (.t 31)⟩,
  ⟨(some 33), some (28, false), .bin .geq (.t 30) (.t 32)⟩,
  ⟨(some 34), none, .pick (.t 28) (.c (.bool true)) (.t 33)⟩]) (.cond (.t 34) (.seq (.reg false [⟨(some 4), none, .mv (.c .nils)⟩,
  ⟨(some 5), none, .mv (.c (.int .i64 2))⟩]) .ret) .skip)) (.reg false [⟨(some 35), none, .mv (.t 6)⟩,
  ⟨(some 36), none, .mv (.t 7)⟩,
  ⟨(some 37), none, .mv (.t 0)⟩,
  ⟨(some 38), none, .faddr 2 (.t 8)⟩,
  ⟨(some 39), none, .load none (.t 38)⟩,
  ⟨(some 40), none, .iaddr 5 (.t 37) (.t 39)⟩,
  ⟨(some 41), none, .faddr 0 (.t 40)⟩,
  ⟨(some 42), none, .load none (.t 41)⟩,
  ⟨(some 43), none, .call (.c (.fn f_class_Mark [] [])) [(.t 42)]⟩,
  ⟨(some 44), none, .un .not (.t 43)⟩,
  ⟨(some 45), none, .iaddr 1 (.t 35) (.t 36)⟩,
  ⟨none, none, .store 1 (.t 45) (.t 44)⟩])))))) (.reg false [⟨(some 46), none, .bin .add (.t 14) (.c (.int .i64 1))⟩,
  ⟨(some 14), none, .mv (.t 46)⟩]))))
def c_ellipsis_Whole : IC := (.seq (.reg false [⟨(some 4), none, .mv (.c .nils)⟩,
  ⟨(some 5), none, .mv (.c (.int .i64 0))⟩]) (.seq (.reg false [⟨(some 9), none, .mv (.t 1)⟩,
  ⟨(some 10), none, .len (.t 9)⟩,
  ⟨(some 11), none, .mksl [(.bool false)] 1 1 (.t 10) (.t 10)⟩,
  ⟨(some 6), none, .mv (.t 11)⟩]) (.seq (.seq (.reg false [⟨(some 12), none, .mv (.t 1)⟩,
  ⟨(some 13), none, .len (.t 12)⟩,
  ⟨(some 14), none, .mv (.c (.int .i64 0))⟩]) (.block 0 (.loop (lv [0, 6, 12, 13, 14] 48) ellipsis_Whole_b0))) (.seq (.reg false [⟨(some 47), none, .mv (.t 6)⟩,
  ⟨(some 4), none, .mv (.t 47)⟩,
  ⟨(some 5), none, .mv (.c (.int .i64 0))⟩]) .ret))))
def i_ellipsis_Whole : IFn := ⟨3, 48, [.tmp 4, .tmp 5], c_ellipsis_Whole⟩
/-- stickful/ellipsis.Places: 3 parameters, 0 captured -/
def c_ellipsis_Places : IC := (.seq (.reg false [⟨(some 5), none, .boxi (.t 2)⟩,
  ⟨(some 6), none, .mv (.c .nils)⟩,
  ⟨(some 7), none, .mv (.c (.int .i64 0))⟩]) (.seq (.seq (.reg false [⟨(some 9), none, .mv (.t 0)⟩,
  ⟨(some 10), none, .mv (.t 1)⟩,
  ⟨(some 11), none, .loadi (some 3) (.t 5)⟩,
  ⟨(some 12), none, .call (.c (.fn f_ellipsis_within [] [])) [(.t 9), (.t 10), (.t 11)]⟩,
  ⟨(some 13), none, .un .not (.t 12)⟩]) (.cond (.t 13) (.seq (.reg false [⟨(some 6), none, .mv (.c .nils)⟩,
  ⟨(some 7), none, .mv (.c (.int .i64 2))⟩]) .ret) .skip)) (.seq (.reg false [⟨(some 14), none, .mv (.t 1)⟩,
  ⟨(some 15), none, .loadi (some 3) (.t 5)⟩,
  ⟨(some 16), none, .call (.c (.fn f_ellipsis_back [] [])) [(.t 14), (.t 15)]⟩,
  ⟨(some 17), none, .call (.c (.fn f_slices_Collect_int [] [])) [(.t 16)]⟩,
  ⟨(some 8), none, .mv (.t 17)⟩]) (.seq (.reg false [⟨(some 18), none, .mv (.t 8)⟩,
  ⟨(some 19), none, .call (.c (.fn f_slices_Reverse_int [] [])) [(.t 18)]⟩]) (.seq (.reg false [⟨(some 20), none, .mv (.t 8)⟩,
  ⟨(some 6), none, .mv (.t 20)⟩,
  ⟨(some 7), none, .mv (.c (.int .i64 0))⟩]) .ret)))))
def i_ellipsis_Places : IFn := ⟨3, 21, [.tmp 6, .tmp 7], c_ellipsis_Places⟩
/-- stickful/stickfullaw26.is: 4 parameters, 0 captured -/
def c_law26_is : IC := (.seq (.reg false [⟨(some 8), none, .mv (.c (.bool false))⟩]) (.seq (.reg false [⟨(some 13), none, .mv (.t 0)⟩,
  ⟨(some 14), none, .call (.c (.fn f_law26_cuts [] [])) [(.t 13)]⟩,
  ⟨(some 12), none, .mv (.t 14)⟩,
  ⟨(some 15), none, .extr 0 (.t 12)⟩,
  ⟨(some 16), none, .extr 1 (.t 12)⟩,
  ⟨(some 17), none, .extr 2 (.t 12)⟩,
  ⟨(some 9), none, .mv (.t 15)⟩,
  ⟨(some 10), none, .mv (.t 16)⟩,
  ⟨(some 11), none, .mv (.t 17)⟩]) (.seq (.reg false [⟨(some 18), none, .mv (.t 9)⟩,
  ⟨(some 19), none, .mv (.t 1)⟩,
  ⟨(some 20), none, .bin .eql (.t 18) (.t 19)⟩,
  ⟨(some 21), none, .mv (.t 20)⟩,
  ⟨(some 22), some (21, true), .mv (.t 10)⟩,
  ⟨(some 23), some (21, true), .mv (.t 2)⟩,
  ⟨(some 24), some (21, true), .bin .eql (.t 22) (.t 23)⟩,
  ⟨(some 25), none, .pick (.t 21) (.t 24) (.c (.bool false))⟩,
  ⟨(some 26), none, .mv (.t 25)⟩,
  ⟨(some 27), some (26, true), .mv (.t 11)⟩,
  ⟨(some 28), some (26, true), .mv (.t 3)⟩,
  ⟨(some 29), some (26, true), .eqb false (.t 27) (.t 28)⟩,
  ⟨(some 30), none, .pick (.t 26) (.t 29) (.c (.bool false))⟩,
  ⟨(some 8), none, .mv (.t 30)⟩]) .ret)))
def i_law26_is : IFn := ⟨3, 31, [.tmp 8], c_law26_is⟩
/-- stickful/ellipsis.within: 3 parameters, 0 captured -/
def c_ellipsis_within : IC := (.seq (.reg false [⟨(some 5), none, .boxi (.t 2)⟩,
  ⟨(some 6), none, .mv (.c (.bool false))⟩]) (.seq (.reg false [⟨(some 7), none, .mv (.t 1)⟩,
  ⟨(some 8), none, .len (.t 7)⟩,
  ⟨(some 9), none, .mv (.t 0)⟩,
  ⟨(some 10), none, .len (.t 9)⟩,
  ⟨(some 11), none, .bin .eql (.t 8) (.t 10)⟩,
  ⟨(some 12), none, .mv (.t 11)⟩,
  ⟨(some 13), some (12, true), .faddr 0 (.t 5)⟩,
  ⟨(some 14), some (12, true), .loadi none (.t 13)⟩,
  ⟨(some 15), some (12, true), .bin .geq (.t 14) (.c (.int .i64 0))⟩,
  ⟨(some 16), none, .pick (.t 12) (.t 15) (.c (.bool false))⟩,
  ⟨(some 17), none, .mv (.t 16)⟩,
  ⟨(some 18), some (17, true), .faddr 0 (.t 5)⟩,
  ⟨(some 19), some (17, true), .loadi none (.t 18)⟩,
  ⟨(some 20), some (17, true), .faddr 1 (.t 5)⟩,
  ⟨(some 21), some (17, true), .loadi none (.t 20)⟩,
  ⟨(some 22), some (17, true), .bin .leq (.t 19) (.t 21)⟩,
  ⟨(some 23), none, .pick (.t 17) (.t 22) (.c (.bool false))⟩,
  ⟨(some 24), none, .mv (.t 23)⟩,
  ⟨(some 25), some (24, true), .faddr 1 (.t 5)⟩,
  ⟨(some 26), some (24, true), .loadi none (.t 25)⟩,
  ⟨(some 27), some (24, true), .mv (.t 0)⟩,
  ⟨(some 28), some (24, true), .len (.t 27)⟩,
  ⟨(some 29), some (24, true), .bin .leq (.t 26) (.t 28)⟩,
  ⟨(some 30), none, .pick (.t 24) (.t 29) (.c (.bool false))⟩,
  ⟨(some 6), none, .mv (.t 30)⟩]) .ret))
def i_ellipsis_within : IFn := ⟨3, 31, [.tmp 6], c_ellipsis_within⟩
/-- stickful/ellipsis.first: 3 parameters, 0 captured -/
def ellipsis_first_a0 : IC := (.reg false [⟨(some 7), none, .mv (.t 9)⟩])
def ellipsis_first_r0 : IC := (.block 1 (.seq (.reg false [⟨(some 10), none, .loadi none (.t 5)⟩,
  ⟨(some 11), none, .mv (.t 7)⟩,
  ⟨(some 12), none, .call (.t 10) [(.t 11)]⟩]) (.cond (.t 12) (.seq (.reg false [⟨(some 13), none, .mv (.t 7)⟩,
  ⟨none, none, .store 1 (.t 6) (.t 13)⟩]) .ret) .skip)))
def c_ellipsis_first : IC := (.seq (.reg false [⟨(some 5), none, .boxi (.t 2)⟩,
  ⟨(some 6), none, .alloc [(.int .i64 0)]⟩]) (.seq (.seq (.reg false [⟨(some 8), none, .mv (.t 0)⟩]) (.block 0 (.rangeF (.t 8) [9] ellipsis_first_a0 ellipsis_first_r0))) (.seq (.reg false [⟨(some 14), none, .mv (.t 1)⟩,
  ⟨none, none, .store 1 (.t 6) (.t 14)⟩]) .ret)))
def i_ellipsis_first : IFn := ⟨3, 15, [.cell 6 none], c_ellipsis_first⟩
/-- stickful/ellipsis.back: 2 parameters, 0 captured -/
def c_ellipsis_back : IC := (.seq (.reg false [⟨(some 2), none, .boxi (.t 0)⟩,
  ⟨(some 3), none, .boxi (.t 1)⟩,
  ⟨(some 4), none, .mv (.c .nilf)⟩]) (.seq (.reg false [⟨(some 5), none, .mkfn f_ellipsis_back_1 [] [(.t 3), (.t 2)]⟩,
  ⟨(some 4), none, .mv (.t 5)⟩]) .ret))
def i_ellipsis_back : IFn := ⟨1, 6, [.tmp 4], c_ellipsis_back⟩
/-- stickful/ellipsis.Cut$1: 1 parameters, 4 captured -/
def c_ellipsis_Cut_1 : IC := (.seq (.reg false [⟨(some 6), none, .mv (.c (.bool false))⟩]) (.seq (.reg true [⟨(some 7), none, .load none (.t 1)⟩,
  ⟨(some 8), none, .mv (.t 0)⟩,
  ⟨(some 9), none, .faddr 0 (.t 2)⟩,
  ⟨(some 10), none, .load none (.t 9)⟩,
  ⟨(some 11), none, .bin .sub (.t 8) (.t 10)⟩,
  ⟨(some 12), none, .iaddr 1 (.t 7) (.t 11)⟩,
  ⟨(some 13), none, .load none (.t 12)⟩,
  ⟨(some 14), none, .load none (.t 3)⟩,
  ⟨(some 15), none, .bin .add (.t 13) (.t 14)⟩,
  ⟨(some 16), none, .faddr 0 (.t 4)⟩,
  ⟨(some 17), none, .load none (.t 16)⟩,
  ⟨(some 18), none, .bin .leq (.t 15) (.t 17)⟩,
  ⟨(some 6), none, .mv (.t 18)⟩]) .ret))
def i_ellipsis_Cut_1 : IFn := ⟨3, 19, [.tmp 6], c_ellipsis_Cut_1⟩
/-- stickful/unit.Sum: 1 parameters, 0 captured -/
def unit_Sum_b0 : IC := (.seq (.reg false [⟨(some 14), none, .bin .lss (.t 13) (.t 12)⟩]) (.seq (.cond (.t 14) .skip (.exit 0)) (.seq (.block 1 (.seq (.reg false [⟨(some 15), none, .iaddr 1 (.t 11) (.t 13)⟩,
  ⟨(some 16), none, .load none (.t 15)⟩,
  ⟨(some 7), none, .mv (.t 16)⟩]) (.seq (.reg false [⟨(some 18), none, .mv (.t 5)⟩,
  ⟨(some 19), none, .mv (.t 7)⟩,
  ⟨(some 20), none, .conv .u64 (.t 19)⟩,
  ⟨(some 21), none, .call (.c (.fn f_bits_Add64 [] [])) [(.t 18), (.t 20), (.c (.int .u64 0))]⟩,
  ⟨(some 17), none, .mv (.t 21)⟩,
  ⟨(some 22), none, .extr 0 (.t 17)⟩,
  ⟨(some 23), none, .extr 1 (.t 17)⟩,
  ⟨(some 8), none, .mv (.t 22)⟩,
  ⟨(some 9), none, .mv (.t 23)⟩]) (.reg false [⟨(some 24), none, .mv (.t 4)⟩,
  ⟨(some 25), none, .mv (.t 7)⟩,
  ⟨(some 26), none, .bin .shr (.t 25) (.c (.int .u64 63))⟩,
  ⟨(some 27), none, .bin .add (.t 24) (.t 26)⟩,
  ⟨(some 28), none, .mv (.t 9)⟩,
  ⟨(some 29), none, .conv .i64 (.t 28)⟩,
  ⟨(some 30), none, .bin .add (.t 27) (.t 29)⟩,
  ⟨(some 31), none, .mv (.t 8)⟩,
  ⟨(some 4), none, .mv (.t 30)⟩,
  ⟨(some 5), none, .mv (.t 31)⟩])))) (.reg false [⟨(some 32), none, .bin .add (.t 13) (.c (.int .i64 1))⟩,
  ⟨(some 13), none, .mv (.t 32)⟩]))))
def c_unit_Sum : IC := (.seq (.reg false [⟨(some 2), none, .mv (.c (.int .i64 0))⟩,
  ⟨(some 3), none, .mv (.c (.int .i64 0))⟩]) (.seq (.reg false [⟨(some 4), none, .mv (.c (.int .i64 0))⟩,
  ⟨(some 5), none, .mv (.c (.int .u64 0))⟩]) (.seq (.seq (.reg false [⟨(some 11), none, .mv (.t 0)⟩,
  ⟨(some 12), none, .len (.t 11)⟩,
  ⟨(some 13), none, .mv (.c (.int .i64 0))⟩]) (.block 0 (.loop (lv [4, 5, 11, 12, 13] 43) unit_Sum_b0))) (.seq (.seq (.reg false [⟨(some 33), none, .mv (.t 5)⟩,
  ⟨(some 34), none, .conv .i64 (.t 33)⟩,
  ⟨(some 10), none, .mv (.t 34)⟩]) (.seq (.reg false [⟨(some 35), none, .mv (.t 4)⟩,
  ⟨(some 36), none, .mv (.t 10)⟩,
  ⟨(some 37), none, .bin .shr (.t 36) (.c (.int .u64 63))⟩,
  ⟨(some 38), none, .bin .eql (.t 35) (.t 37)⟩]) (.cond (.t 38) (.seq (.reg false [⟨(some 39), none, .mv (.t 10)⟩,
  ⟨(some 40), none, .call (.c (.fn f_unit_fit [] [])) [(.t 39)]⟩,
  ⟨(some 41), none, .extr 0 (.t 40)⟩,
  ⟨(some 42), none, .extr 1 (.t 40)⟩,
  ⟨(some 2), none, .mv (.t 41)⟩,
  ⟨(some 3), none, .mv (.t 42)⟩]) .ret) .skip))) (.seq (.reg false [⟨(some 2), none, .mv (.c (.int .i64 0))⟩,
  ⟨(some 3), none, .mv (.c (.int .i64 10))⟩]) .ret)))))
def i_unit_Sum : IFn := ⟨3, 43, [.tmp 2, .tmp 3], c_unit_Sum⟩
/-- stickful/tabs.pens: 3 parameters, 0 captured -/
def c_tabs_pens : IC := (.seq (.reg false [⟨(some 3), none, .boxi (.t 0)⟩,
  ⟨(some 4), none, .boxi (.t 1)⟩,
  ⟨(some 5), none, .boxi (.t 2)⟩,
  ⟨(some 6), none, .mv (.c .nilf)⟩]) (.seq (.reg false [⟨(some 7), none, .mkfn f_tabs_pens_1 [] [(.t 5), (.t 3), (.t 4)]⟩,
  ⟨(some 6), none, .mv (.t 7)⟩]) .ret))
def i_tabs_pens : IFn := ⟨1, 8, [.tmp 6], c_tabs_pens⟩
/-- stickful/trim.Roles$1: 3 parameters, 2 captured -/
def trim_Roles_1_a0 : IC := (.reg false [⟨(some 8), none, .mv (.t 10)⟩])
def trim_Roles_1_r0 : IC := (.block 1 (.seq (.reg true [⟨(some 11), none, .load none (.t 3)⟩,
  ⟨(some 12), none, .mv (.t 8)⟩,
  ⟨(some 13), none, .iaddr 6 (.t 11) (.t 12)⟩,
  ⟨(some 14), none, .faddr 0 (.t 13)⟩,
  ⟨(some 15), none, .load none (.t 14)⟩,
  ⟨(some 16), none, .loadi none (.t 5)⟩,
  ⟨(some 17), none, .bin .eql (.t 15) (.t 16)⟩]) (.cond (.t 17) (.reg false [⟨(some 18), none, .load none (.t 4)⟩,
  ⟨(some 19), none, .mv (.t 8)⟩,
  ⟨(some 20), none, .loadi none (.t 6)⟩,
  ⟨(some 21), none, .iaddr 1 (.t 18) (.t 19)⟩,
  ⟨none, none, .store 1 (.t 21) (.t 20)⟩]) .skip)))
def c_trim_Roles_1 : IC := (.seq (.reg false [⟨(some 5), none, .boxi (.t 0)⟩,
  ⟨(some 6), none, .boxi (.t 1)⟩]) (.seq (.reg false [⟨(some 9), none, .mv (.t 2)⟩]) (.block 0 (.rangeF (.t 9) [10] trim_Roles_1_a0 trim_Roles_1_r0))))
def i_trim_Roles_1 : IFn := ⟨0, 22, [], c_trim_Roles_1⟩
/-- stickful/trim.Roles$2: 1 parameters, 0 captured -/
def c_trim_Roles_2 : IC := (.seq (.reg false [⟨(some 1), none, .boxi (.t 0)⟩,
  ⟨(some 2), none, .mv (.c (.bool false))⟩]) (.seq (.reg false [⟨(some 3), none, .loadi (some 6) (.t 1)⟩,
  ⟨(some 4), none, .call (.c (.fn f_trim_edge [] [])) [(.t 3)]⟩,
  ⟨(some 5), none, .mv (.t 4)⟩,
  ⟨(some 6), some (5, false), .faddr 0 (.t 1)⟩,
  ⟨(some 7), some (5, false), .loadi none (.t 6)⟩,
  ⟨(some 8), some (5, false), .bin .eql (.t 7) (.c (.int .u8 1))⟩,
  ⟨(some 9), none, .pick (.t 5) (.c (.bool true)) (.t 8)⟩,
  ⟨(some 2), none, .mv (.t 9)⟩]) .ret))
def i_trim_Roles_2 : IFn := ⟨3, 10, [.tmp 2], c_trim_Roles_2⟩
/-- stickful/trim.edge: 1 parameters, 0 captured -/
def c_trim_edge : IC := (.seq (.reg false [⟨(some 1), none, .boxi (.t 0)⟩,
  ⟨(some 2), none, .mv (.c (.bool false))⟩]) (.seq (.reg false [⟨(some 3), none, .faddr 0 (.t 1)⟩,
  ⟨(some 4), none, .loadi none (.t 3)⟩,
  ⟨(some 5), none, .bin .eql (.t 4) (.c (.int .u8 7))⟩,
  ⟨(some 6), none, .mv (.t 5)⟩,
  ⟨(some 7), some (6, false), .faddr 0 (.t 1)⟩,
  ⟨(some 8), some (6, false), .loadi none (.t 7)⟩,
  ⟨(some 9), some (6, false), .bin .eql (.t 8) (.c (.int .u8 8))⟩,
  ⟨(some 10), none, .pick (.t 6) (.c (.bool true)) (.t 9)⟩,
  ⟨(some 11), none, .mv (.t 10)⟩,
  ⟨(some 12), some (11, false), .faddr 0 (.t 1)⟩,
  ⟨(some 13), some (11, false), .loadi none (.t 12)⟩,
  ⟨(some 14), some (11, false), .bin .eql (.t 13) (.c (.int .u8 5))⟩,
  ⟨(some 15), none, .pick (.t 11) (.c (.bool true)) (.t 14)⟩,
  ⟨(some 2), none, .mv (.t 15)⟩]) .ret))
def i_trim_edge : IFn := ⟨3, 16, [.tmp 2], c_trim_edge⟩
/-- stickful/trim.from: 4 parameters, 0 captured -/
def c_trim_from : IC := (.seq (.reg false [⟨(some 4), none, .boxi (.t 0)⟩,
  ⟨(some 5), none, .box (.t 1)⟩,
  ⟨(some 6), none, .boxi (.t 2)⟩,
  ⟨(some 7), none, .box (.t 3)⟩,
  ⟨(some 8), none, .mv (.c .nilf)⟩]) (.seq (.reg false [⟨(some 9), none, .mkfn f_trim_from_1 [] [(.t 5), (.t 4), (.t 7), (.t 6)]⟩,
  ⟨(some 8), none, .mv (.t 9)⟩]) .ret))
def i_trim_from : IFn := ⟨0, 10, [.tmp 8], c_trim_from⟩
/-- stickful/trim.Roles$3: 1 parameters, 1 captured -/
def c_trim_Roles_3 : IC := (.seq (.reg false [⟨(some 2), none, .boxi (.t 0)⟩,
  ⟨(some 3), none, .mv (.c (.bool false))⟩]) (.seq (.reg false [⟨(some 4), none, .load none (.t 1)⟩,
  ⟨(some 5), none, .loadi (some 6) (.t 2)⟩,
  ⟨(some 6), none, .call (.t 4) [(.t 5)]⟩,
  ⟨(some 7), none, .mv (.t 6)⟩,
  ⟨(some 8), some (7, false), .faddr 0 (.t 2)⟩,
  ⟨(some 9), some (7, false), .loadi none (.t 8)⟩,
  ⟨(some 10), some (7, false), .bin .eql (.t 9) (.c (.int .u8 2))⟩,
  ⟨(some 11), none, .pick (.t 7) (.c (.bool true)) (.t 10)⟩,
  ⟨(some 3), none, .mv (.t 11)⟩]) .ret))
def i_trim_Roles_3 : IFn := ⟨3, 12, [.tmp 3], c_trim_Roles_3⟩
/-- stickful/tabs.End: 3 parameters, 0 captured -/
def c_tabs_End : IC := (.seq (.reg false [⟨(some 6), none, .mv (.c (.int .i64 0))⟩,
  ⟨(some 7), none, .mv (.c (.int .i64 0))⟩]) (.seq (.reg false [⟨(some 11), none, .mv (.t 0)⟩,
  ⟨(some 12), none, .mv (.t 1)⟩,
  ⟨(some 13), none, .mv (.t 2)⟩,
  ⟨(some 14), none, .call (.c (.fn f_tabs_Pens [] [])) [(.t 11), (.t 12), (.t 13)]⟩,
  ⟨(some 10), none, .mv (.t 14)⟩,
  ⟨(some 15), none, .extr 0 (.t 10)⟩,
  ⟨(some 16), none, .extr 1 (.t 10)⟩,
  ⟨(some 8), none, .mv (.t 15)⟩,
  ⟨(some 9), none, .mv (.t 16)⟩]) (.seq (.seq (.reg false [⟨(some 17), none, .mv (.t 9)⟩,
  ⟨(some 18), none, .bin .neq (.t 17) (.c (.int .i64 0))⟩]) (.cond (.t 18) (.seq (.reg false [⟨(some 19), none, .mv (.t 9)⟩,
  ⟨(some 6), none, .mv (.c (.int .i64 0))⟩,
  ⟨(some 7), none, .mv (.t 19)⟩]) .ret) .skip)) (.seq (.reg false [⟨(some 20), none, .mv (.t 8)⟩,
  ⟨(some 21), none, .mv (.t 8)⟩,
  ⟨(some 22), none, .len (.t 21)⟩,
  ⟨(some 23), none, .bin .sub (.t 22) (.c (.int .i64 1))⟩,
  ⟨(some 24), none, .iaddr 1 (.t 20) (.t 23)⟩,
  ⟨(some 25), none, .load none (.t 24)⟩,
  ⟨(some 6), none, .mv (.t 25)⟩,
  ⟨(some 7), none, .mv (.c (.int .i64 0))⟩]) .ret))))
def i_tabs_End : IFn := ⟨3, 26, [.tmp 6, .tmp 7], c_tabs_End⟩
/-- stickful/class.Mark: 1 parameters, 0 captured -/
def c_class_Mark : IC := (.seq (.reg false [⟨(some 2), none, .mv (.c (.bool false))⟩]) (.seq (.reg false [⟨(some 3), none, .mv (.t 0)⟩,
  ⟨(some 4), none, .call (.c (.fn f_class_Of [] [])) [(.t 3)]⟩,
  ⟨(some 5), none, .bin .eql (.t 4) (.c (.int .u8 9))⟩,
  ⟨(some 2), none, .mv (.t 5)⟩]) .ret))
def i_class_Mark : IFn := ⟨3, 6, [.tmp 2], c_class_Mark⟩
/-- slices.Collect[int]: 1 parameters, 0 captured -/
def c_slices_Collect_int : IC := (.seq (.reg false [⟨(some 2), none, .mv (.c .nils)⟩]) (.seq (.reg false [⟨(some 3), none, .mv (.t 0)⟩,
  ⟨(some 4), none, .call (.c (.fn f_slices_AppendSeq_int [] [])) [(.c .nils), (.t 3)]⟩,
  ⟨(some 2), none, .mv (.t 4)⟩]) .ret))
def i_slices_Collect_int : IFn := ⟨3, 5, [.tmp 2], c_slices_Collect_int⟩
/-- slices.Reverse[[]int,int]: 1 parameters, 0 captured -/
def slices_Reverse_int_b0 : IC := (.seq (.seq (.reg false [⟨(some 7), none, .mv (.t 2)⟩,
  ⟨(some 8), none, .mv (.t 3)⟩,
  ⟨(some 9), none, .bin .lss (.t 7) (.t 8)⟩]) (.cond (.t 9) .skip (.exit 0))) (.seq (.block 1 (.reg true [⟨(some 14), none, .mv (.t 0)⟩,
  ⟨(some 15), none, .mv (.t 2)⟩,
  ⟨(some 16), none, .mv (.t 0)⟩,
  ⟨(some 17), none, .mv (.t 3)⟩,
  ⟨(some 18), none, .mv (.t 0)⟩,
  ⟨(some 19), none, .mv (.t 3)⟩,
  ⟨(some 20), none, .iaddr 1 (.t 18) (.t 19)⟩,
  ⟨(some 21), none, .load none (.t 20)⟩,
  ⟨(some 22), none, .mv (.t 0)⟩,
  ⟨(some 23), none, .mv (.t 2)⟩,
  ⟨(some 24), none, .iaddr 1 (.t 22) (.t 23)⟩,
  ⟨(some 25), none, .load none (.t 24)⟩,
  ⟨(some 26), none, .iaddr 1 (.t 14) (.t 15)⟩,
  ⟨none, none, .store 1 (.t 26) (.t 21)⟩,
  ⟨(some 27), none, .iaddr 1 (.t 16) (.t 17)⟩,
  ⟨none, none, .store 1 (.t 27) (.t 25)⟩])) (.reg false [⟨(some 10), none, .mv (.t 2)⟩,
  ⟨(some 11), none, .bin .add (.t 10) (.c (.int .i64 1))⟩,
  ⟨(some 12), none, .mv (.t 3)⟩,
  ⟨(some 13), none, .bin .sub (.t 12) (.c (.int .i64 1))⟩,
  ⟨(some 2), none, .mv (.t 11)⟩,
  ⟨(some 3), none, .mv (.t 13)⟩])))
def c_slices_Reverse_int : IC := (.seq (.reg false [⟨(some 4), none, .mv (.t 0)⟩,
  ⟨(some 5), none, .len (.t 4)⟩,
  ⟨(some 6), none, .bin .sub (.t 5) (.c (.int .i64 1))⟩,
  ⟨(some 2), none, .mv (.c (.int .i64 0))⟩,
  ⟨(some 3), none, .mv (.t 6)⟩]) (.block 0 (.loop (lv [0, 2, 3] 28) slices_Reverse_int_b0)))
def i_slices_Reverse_int : IFn := ⟨0, 28, [], c_slices_Reverse_int⟩
/-- stickful/stickfullaw26.cuts: 1 parameters, 0 captured -/
def law26_cuts_b0 : IC := (.seq (.seq (.reg false [⟨(some 15), none, .mv (.t 7)⟩,
  ⟨(some 16), none, .bin .lss (.t 15) (.c (.int .i64 6))⟩]) (.cond (.t 16) .skip (.exit 0))) (.seq (.block 1 (.seq (.reg false [⟨(some 19), none, .build [(.int .i32 0), (.int .i64 0), (.int .i64 0), (.int .i64 0), (.int .u8 0)] [(0, 1, (.c (.int .i32 97)))]⟩,
  ⟨(some 8), none, .alloc [(.int .i32 0), (.int .i64 0), (.int .i64 0), (.int .i64 0), (.int .u8 0)]⟩,
  ⟨none, none, .store 5 (.t 8) (.t 19)⟩]) (.seq (.seq (.reg false [⟨(some 20), none, .mv (.t 7)⟩,
  ⟨(some 21), none, .bin .eql (.t 20) (.c (.int .i64 3))⟩]) (.cond (.t 21) (.reg false [⟨(some 22), none, .faddr 0 (.t 8)⟩,
  ⟨none, none, .store 1 (.t 22) (.c (.int .i32 769))⟩]) .skip)) (.seq (.reg false [⟨(some 23), none, .mv (.t 5)⟩,
  ⟨(some 24), none, .load (some 5) (.t 8)⟩,
  ⟨(some 25), none, .blit 1 [(.int .i32 0), (.int .i64 0), (.int .i64 0), (.int .i64 0), (.int .u8 0)] [(0, 5, (.t 24))]⟩,
  ⟨(some 26), none, .app 5 40 (.t 23) (.t 25)⟩,
  ⟨(some 5), none, .mv (.t 26)⟩]) (.reg false [⟨(some 27), none, .mv (.t 6)⟩,
  ⟨(some 28), none, .mv (.t 7)⟩,
  ⟨(some 29), none, .build [(.int .u8 0), (.int .i64 0), (.int .i64 0), (.int .i64 0), (.bool false), (.bool false)] [(2, 1, (.t 28)), (3, 1, (.c (.int .i64 10)))]⟩,
  ⟨(some 30), none, .blit 1 [(.int .u8 0), (.int .i64 0), (.int .i64 0), (.int .i64 0), (.bool false), (.bool false)] [(0, 6, (.t 29))]⟩,
  ⟨(some 31), none, .app 6 40 (.t 27) (.t 30)⟩,
  ⟨(some 6), none, .mv (.t 31)⟩]))))) (.reg false [⟨(some 17), none, .mv (.t 7)⟩,
  ⟨(some 18), none, .bin .add (.t 17) (.c (.int .i64 1))⟩,
  ⟨(some 7), none, .mv (.t 18)⟩])))
def c_law26_cuts : IC := (.seq (.reg false [⟨(some 2), none, .mv (.c (.int .i64 0))⟩,
  ⟨(some 3), none, .mv (.c (.int .i64 0))⟩,
  ⟨(some 4), none, .mv (.c (.bool false))⟩]) (.seq (.reg false [⟨(some 5), none, .mv (.c .nils)⟩]) (.seq (.reg false [⟨(some 6), none, .mv (.c .nils)⟩]) (.seq (.seq (.reg false [⟨(some 7), none, .mv (.c (.int .i64 0))⟩]) (.block 0 (.loop (lv [0, 5, 6, 7] 54) law26_cuts_b0))) (.seq (.reg false [⟨(some 33), none, .mv (.t 5)⟩,
  ⟨(some 34), none, .mv (.t 6)⟩,
  ⟨(some 35), none, .call (.c (.fn f_ellipsis_Whole [] [])) [(.t 33), (.t 34)]⟩,
  ⟨(some 32), none, .mv (.t 35)⟩,
  ⟨(some 36), none, .extr 0 (.t 32)⟩,
  ⟨(some 37), none, .extr 1 (.t 32)⟩,
  ⟨(some 9), none, .mv (.t 36)⟩,
  ⟨(some 10), none, .mv (.t 37)⟩]) (.seq (.reg false [⟨(some 39), none, .mv (.t 6)⟩,
  ⟨(some 40), none, .mv (.t 9)⟩,
  ⟨(some 41), none, .build [(.int .i64 0), (.int .i64 0), (.bool false)] [(1, 1, (.c (.int .i64 6)))]⟩,
  ⟨(some 42), none, .mv (.t 0)⟩,
  ⟨(some 43), none, .build [(.int .i64 0), (.int .i64 0)] [(0, 1, (.t 42))]⟩,
  ⟨(some 44), none, .call (.c (.fn f_ellipsis_Cut [] [])) [(.t 39), (.t 40), (.t 41), (.t 43), (.c (.int .i64 10))]⟩,
  ⟨(some 38), none, .mv (.t 44)⟩,
  ⟨(some 45), none, .extr 0 (.t 38)⟩,
  ⟨(some 46), none, .extr 1 (.t 38)⟩,
  ⟨(some 47), none, .extr 2 (.t 38)⟩,
  ⟨(some 48), none, .extr 3 (.t 38)⟩,
  ⟨(some 11), none, .mv (.t 45)⟩,
  ⟨(some 12), none, .mv (.t 46)⟩,
  ⟨(some 13), none, .mv (.t 47)⟩,
  ⟨(some 14), none, .mv (.t 48)⟩]) (.seq (.seq (.reg false [⟨(some 49), none, .mv (.t 14)⟩,
  ⟨(some 50), none, .bin .neq (.t 49) (.c (.int .i64 0))⟩]) (.cond (.t 50) (.seq (.reg false [⟨(some 2), none, .mv (.c (.int .i64 (-1)))⟩,
  ⟨(some 3), none, .mv (.c (.int .i64 0))⟩,
  ⟨(some 4), none, .mv (.c (.bool false))⟩]) .ret) .skip)) (.seq (.reg false [⟨(some 51), none, .mv (.t 11)⟩,
  ⟨(some 52), none, .mv (.t 12)⟩,
  ⟨(some 53), none, .mv (.t 13)⟩,
  ⟨(some 2), none, .mv (.t 51)⟩,
  ⟨(some 3), none, .mv (.t 52)⟩,
  ⟨(some 4), none, .mv (.t 53)⟩]) .ret))))))))
def i_law26_cuts : IFn := ⟨3, 54, [.tmp 2, .tmp 3, .tmp 4], c_law26_cuts⟩
/-- stickful/ellipsis.back$1: 1 parameters, 2 captured -/
def ellipsis_back_1_b0 : IC := (.seq (.seq (.reg false [⟨(some 7), none, .mv (.t 4)⟩,
  ⟨(some 8), none, .faddr 0 (.t 1)⟩,
  ⟨(some 9), none, .load none (.t 8)⟩,
  ⟨(some 10), none, .bin .geq (.t 7) (.t 9)⟩]) (.cond (.t 10) .skip (.exit 0))) (.seq (.block 1 (.seq (.reg false [⟨(some 13), none, .mv (.t 4)⟩,
  ⟨(some 14), none, .faddr 1 (.t 1)⟩,
  ⟨(some 15), none, .load none (.t 14)⟩,
  ⟨(some 16), none, .bin .eql (.t 13) (.t 15)⟩,
  ⟨(some 17), none, .mv (.t 16)⟩,
  ⟨(some 18), some (17, false), .load none (.t 2)⟩,
  ⟨(some 19), some (17, false), .mv (.t 4)⟩,
  ⟨(some 20), some (17, false), .iaddr 1 (.t 18) (.t 19)⟩,
  ⟨(some 21), some (17, false), .load none (.t 20)⟩,
  ⟨(some 22), none, .pick (.t 17) (.c (.bool true)) (.t 21)⟩,
  ⟨(some 23), none, .mv (.t 22)⟩,
  ⟨(some 24), some (23, true), .mv (.t 0)⟩,
  ⟨(some 25), some (23, true), .mv (.t 4)⟩,
  ⟨(some 26), some (23, true), .call (.t 24) [(.t 25)]⟩,
  ⟨(some 27), some (23, true), .un .not (.t 26)⟩,
  ⟨(some 28), none, .pick (.t 23) (.t 27) (.c (.bool false))⟩]) (.cond (.t 28) .ret .skip))) (.reg false [⟨(some 11), none, .mv (.t 4)⟩,
  ⟨(some 12), none, .bin .sub (.t 11) (.c (.int .i64 1))⟩,
  ⟨(some 4), none, .mv (.t 12)⟩])))
def c_ellipsis_back_1 : IC := (.seq (.reg false [⟨(some 5), none, .faddr 1 (.t 1)⟩,
  ⟨(some 6), none, .load none (.t 5)⟩,
  ⟨(some 4), none, .mv (.t 6)⟩]) (.block 0 (.loop (lv [0, 1, 2, 4] 29) ellipsis_back_1_b0)))
def i_ellipsis_back_1 : IFn := ⟨0, 29, [], c_ellipsis_back_1⟩
/-- stickful/unit.fit: 1 parameters, 0 captured -/
def c_unit_fit : IC := (.seq (.reg false [⟨(some 2), none, .mv (.c (.int .i64 0))⟩,
  ⟨(some 3), none, .mv (.c (.int .i64 0))⟩]) (.seq (.seq (.reg false [⟨(some 4), none, .mv (.t 0)⟩,
  ⟨(some 5), none, .bin .lss (.t 4) (.c (.int .i64 (-4611686018427387904)))⟩,
  ⟨(some 6), none, .mv (.t 5)⟩,
  ⟨(some 7), some (6, false), .mv (.t 0)⟩,
  ⟨(some 8), some (6, false), .bin .gtr (.t 7) (.c (.int .i64 4611686018427387904))⟩,
  ⟨(some 9), none, .pick (.t 6) (.c (.bool true)) (.t 8)⟩]) (.cond (.t 9) (.seq (.reg false [⟨(some 2), none, .mv (.c (.int .i64 0))⟩,
  ⟨(some 3), none, .mv (.c (.int .i64 10))⟩]) .ret) .skip)) (.seq (.reg false [⟨(some 10), none, .mv (.t 0)⟩,
  ⟨(some 2), none, .mv (.t 10)⟩,
  ⟨(some 3), none, .mv (.c (.int .i64 0))⟩]) .ret)))
def i_unit_fit : IFn := ⟨3, 11, [.tmp 2, .tmp 3], c_unit_fit⟩
/-- stickful/tabs.pens$1: 1 parameters, 3 captured -/
def tabs_pens_1_b0 : IC := (.seq (.reg false [⟨(some 13), none, .bin .lss (.t 12) (.t 11)⟩]) (.seq (.cond (.t 13) .skip (.exit 0)) (.seq (.block 1 (.seq (.reg false [⟨(some 14), none, .mv (.t 12)⟩,
  ⟨(some 15), none, .iaddr 6 (.t 10) (.t 12)⟩,
  ⟨(some 16), none, .load (some 6) (.t 15)⟩,
  ⟨(some 8), none, .alloc [(.int .u8 0), (.int .i64 0), (.int .i64 0), (.int .i64 0), (.bool false), (.bool false)]⟩,
  ⟨(some 7), none, .mv (.t 14)⟩,
  ⟨none, none, .store 6 (.t 8) (.t 16)⟩]) (.seq (.seq (.reg false [⟨(some 17), none, .load none (.t 3)⟩,
  ⟨(some 18), none, .mv (.t 7)⟩,
  ⟨(some 19), none, .call (.c (.fn f_tabs_role [] [])) [(.t 17), (.t 18)]⟩,
  ⟨(some 20), none, .bin .neq (.t 19) (.c (.int .u8 1))⟩]) (.cond (.t 20) (.reg false [⟨(some 22), none, .load (some 6) (.t 8)⟩,
  ⟨(some 23), none, .mv (.t 5)⟩,
  ⟨(some 24), none, .call (.c (.fn f_tabs_Step [] [])) [(.t 22), (.t 23)]⟩,
  ⟨(some 21), none, .mv (.t 24)⟩,
  ⟨(some 25), none, .extr 0 (.t 21)⟩,
  ⟨(some 26), none, .extr 1 (.t 21)⟩,
  ⟨(some 5), none, .mv (.t 25)⟩,
  ⟨(some 6), none, .mv (.t 26)⟩]) .skip)) (.seq (.reg false [⟨(some 27), none, .mv (.t 0)⟩,
  ⟨(some 28), none, .mv (.t 5)⟩,
  ⟨(some 29), none, .mv (.t 6)⟩,
  ⟨(some 30), none, .call (.t 27) [(.t 28), (.t 29)]⟩,
  ⟨(some 31), none, .un .not (.t 30)⟩,
  ⟨(some 32), none, .mv (.t 31)⟩,
  ⟨(some 33), some (32, false), .mv (.t 6)⟩,
  ⟨(some 34), some (32, false), .bin .neq (.t 33) (.c (.int .i64 0))⟩,
  ⟨(some 35), none, .pick (.t 32) (.c (.bool true)) (.t 34)⟩]) (.cond (.t 35) .ret .skip))))) (.reg false [⟨(some 36), none, .bin .add (.t 12) (.c (.int .i64 1))⟩,
  ⟨(some 12), none, .mv (.t 36)⟩]))))
def c_tabs_pens_1 : IC := (.seq (.reg false [⟨(some 9), none, .load none (.t 1)⟩,
  ⟨(some 5), none, .mv (.t 9)⟩,
  ⟨(some 6), none, .mv (.c (.int .i64 0))⟩]) (.seq (.reg false [⟨(some 10), none, .load none (.t 2)⟩,
  ⟨(some 11), none, .len (.t 10)⟩,
  ⟨(some 12), none, .mv (.c (.int .i64 0))⟩]) (.block 0 (.loop (lv [0, 3, 5, 6, 10, 11, 12] 37) tabs_pens_1_b0))))
def i_tabs_pens_1 : IFn := ⟨0, 37, [], c_tabs_pens_1⟩
/-- stickful/tabs.role: 2 parameters, 0 captured -/
def c_tabs_role : IC := (.seq (.reg false [⟨(some 4), none, .mv (.c (.int .u8 0))⟩]) (.seq (.seq (.reg false [⟨(some 5), none, .mv (.t 1)⟩,
  ⟨(some 6), none, .mv (.t 0)⟩,
  ⟨(some 7), none, .len (.t 6)⟩,
  ⟨(some 8), none, .bin .lss (.t 5) (.t 7)⟩]) (.cond (.t 8) (.seq (.reg false [⟨(some 9), none, .mv (.t 0)⟩,
  ⟨(some 10), none, .mv (.t 1)⟩,
  ⟨(some 11), none, .iaddr 1 (.t 9) (.t 10)⟩,
  ⟨(some 12), none, .load none (.t 11)⟩,
  ⟨(some 4), none, .mv (.t 12)⟩]) .ret) .skip)) (.seq (.reg false [⟨(some 4), none, .mv (.c (.int .u8 0))⟩]) .ret)))
def i_tabs_role : IFn := ⟨3, 13, [.tmp 4], c_tabs_role⟩
/-- stickful/tabs.Step: 2 parameters, 0 captured -/
def c_tabs_Step : IC := (.seq (.reg false [⟨(some 2), none, .boxi (.t 0)⟩,
  ⟨(some 4), none, .mv (.c (.int .i64 0))⟩,
  ⟨(some 5), none, .mv (.c (.int .i64 0))⟩]) (.seq (.reg false [⟨(some 9), none, .mv (.t 1)⟩,
  ⟨(some 10), none, .blit 1 [(.int .i64 0)] [(0, 1, (.t 9))]⟩,
  ⟨(some 11), none, .call (.c (.fn f_unit_Sum [] [])) [(.t 10)]⟩,
  ⟨(some 8), none, .mv (.t 11)⟩,
  ⟨(some 12), none, .extr 0 (.t 8)⟩,
  ⟨(some 13), none, .extr 1 (.t 8)⟩,
  ⟨(some 6), none, .mv (.t 12)⟩,
  ⟨(some 7), none, .mv (.t 13)⟩]) (.seq (.block 0 (.seq (.reg false [⟨(some 15), none, .faddr 0 (.t 2)⟩,
  ⟨(some 16), none, .loadi none (.t 15)⟩,
  ⟨(some 17), none, .bin .eql (.t 16) (.c (.int .u8 4))⟩,
  ⟨(some 18), none, .mv (.t 17)⟩,
  ⟨(some 19), some (18, true), .faddr 3 (.t 2)⟩,
  ⟨(some 20), some (18, true), .loadi none (.t 19)⟩,
  ⟨(some 21), some (18, true), .bin .lss (.t 20) (.c (.int .i64 0))⟩,
  ⟨(some 22), none, .pick (.t 18) (.t 21) (.c (.bool false))⟩,
  ⟨(some 14), none, .mv (.t 22)⟩]) (.cond (.t 14) (.seq (.reg false [⟨(some 4), none, .mv (.c (.int .i64 0))⟩,
  ⟨(some 5), none, .mv (.c (.int .i64 2))⟩]) .ret) (.seq (.reg false [⟨(some 24), none, .faddr 0 (.t 2)⟩,
  ⟨(some 25), none, .loadi none (.t 24)⟩,
  ⟨(some 26), none, .bin .neq (.t 25) (.c (.int .u8 4))⟩,
  ⟨(some 23), none, .mv (.t 26)⟩]) (.cond (.t 23) (.seq (.reg false [⟨(some 27), none, .mv (.t 1)⟩,
  ⟨(some 28), none, .faddr 3 (.t 2)⟩,
  ⟨(some 29), none, .loadi none (.t 28)⟩,
  ⟨(some 30), none, .blit 2 [(.int .i64 0), (.int .i64 0)] [(0, 1, (.t 27)), (1, 1, (.t 29))]⟩,
  ⟨(some 31), none, .call (.c (.fn f_unit_Sum [] [])) [(.t 30)]⟩,
  ⟨(some 32), none, .extr 0 (.t 31)⟩,
  ⟨(some 33), none, .extr 1 (.t 31)⟩,
  ⟨(some 4), none, .mv (.t 32)⟩,
  ⟨(some 5), none, .mv (.t 33)⟩]) .ret) (.seq (.reg false [⟨(some 35), none, .mv (.t 7)⟩,
  ⟨(some 36), none, .bin .neq (.t 35) (.c (.int .i64 0))⟩,
  ⟨(some 34), none, .mv (.t 36)⟩]) (.cond (.t 34) (.seq (.reg false [⟨(some 37), none, .mv (.t 7)⟩,
  ⟨(some 4), none, .mv (.c (.int .i64 0))⟩,
  ⟨(some 5), none, .mv (.t 37)⟩]) .ret) (.seq (.reg false [⟨(some 39), none, .faddr 3 (.t 2)⟩,
  ⟨(some 40), none, .loadi none (.t 39)⟩,
  ⟨(some 41), none, .bin .eql (.t 40) (.c (.int .i64 0))⟩,
  ⟨(some 38), none, .mv (.t 41)⟩]) (.cond (.t 38) (.seq (.reg false [⟨(some 42), none, .mv (.t 1)⟩,
  ⟨(some 4), none, .mv (.t 42)⟩,
  ⟨(some 5), none, .mv (.c (.int .i64 0))⟩]) .ret) .skip))))))))) (.seq (.reg false [⟨(some 43), none, .mv (.t 1)⟩,
  ⟨(some 44), none, .faddr 3 (.t 2)⟩,
  ⟨(some 45), none, .loadi none (.t 44)⟩,
  ⟨(some 46), none, .call (.c (.fn f_unit_Stop [] [])) [(.t 43), (.t 45)]⟩,
  ⟨(some 47), none, .extr 0 (.t 46)⟩,
  ⟨(some 48), none, .extr 1 (.t 46)⟩,
  ⟨(some 4), none, .mv (.t 47)⟩,
  ⟨(some 5), none, .mv (.t 48)⟩]) .ret))))
def i_tabs_Step : IFn := ⟨3, 49, [.tmp 4, .tmp 5], c_tabs_Step⟩
/-- stickful/trim.from$1: 1 parameters, 4 captured -/
def trim_from_1_b0 : IC := (.seq (.seq (.reg true [⟨(some 6), none, .load none (.t 1)⟩,
  ⟨(some 7), none, .bin .geq (.t 6) (.c (.int .i64 0))⟩,
  ⟨(some 8), none, .mv (.t 7)⟩,
  ⟨(some 9), some (8, true), .load none (.t 1)⟩,
  ⟨(some 10), some (8, true), .load none (.t 2)⟩,
  ⟨(some 11), some (8, true), .len (.t 10)⟩,
  ⟨(some 12), some (8, true), .bin .lss (.t 9) (.t 11)⟩,
  ⟨(some 13), none, .pick (.t 8) (.t 12) (.c (.bool false))⟩,
  ⟨(some 14), none, .mv (.t 13)⟩,
  ⟨(some 15), some (14, true), .load none (.t 3)⟩,
  ⟨(some 16), some (14, true), .load none (.t 2)⟩,
  ⟨(some 17), some (14, true), .load none (.t 1)⟩,
  ⟨(some 18), some (14, true), .iaddr 6 (.t 16) (.t 17)⟩,
  ⟨(some 19), some (14, true), .load (some 6) (.t 18)⟩,
  ⟨(some 20), some (14, true), .call (.t 15) [(.t 19)]⟩,
  ⟨(some 21), none, .pick (.t 14) (.t 20) (.c (.bool false))⟩]) (.cond (.t 21) .skip (.exit 0))) (.seq (.block 1 (.seq (.reg false [⟨(some 25), none, .mv (.t 0)⟩,
  ⟨(some 26), none, .load none (.t 1)⟩,
  ⟨(some 27), none, .call (.t 25) [(.t 26)]⟩,
  ⟨(some 28), none, .un .not (.t 27)⟩]) (.cond (.t 28) .ret .skip))) (.reg false [⟨(some 22), none, .load none (.t 1)⟩,
  ⟨(some 23), none, .load none (.t 4)⟩,
  ⟨(some 24), none, .bin .add (.t 22) (.t 23)⟩,
  ⟨none, none, .store 1 (.t 1) (.t 24)⟩])))
def c_trim_from_1 : IC := (.block 0 (.loop (lv [0, 1, 2, 3, 4] 29) trim_from_1_b0))
def i_trim_from_1 : IFn := ⟨0, 29, [], c_trim_from_1⟩
/-- stickful/class.Of: 1 parameters, 0 captured -/
def c_class_Of : IC := (.seq (.reg false [⟨(some 1), none, .boxi (.t 0)⟩,
  ⟨(some 2), none, .mv (.c (.int .u8 0))⟩]) (.seq (.reg false [⟨(some 5), none, .call (.c (.fn f_class_spans [] [])) []⟩,
  ⟨(some 3), none, .alloc [(.int .i32 0), (.int .i32 0), (.int .u8 0), (.int .i32 0), (.int .i32 0), (.int .u8 0), (.int .i32 0), (.int .i32 0), (.int .u8 0), (.int .i32 0), (.int .i32 0), (.int .u8 0), (.int .i32 0), (.int .i32 0), (.int .u8 0), (.int .i32 0), (.int .i32 0), (.int .u8 0), (.int .i32 0), (.int .i32 0), (.int .u8 0), (.int .i32 0), (.int .i32 0), (.int .u8 0), (.int .i32 0), (.int .i32 0), (.int .u8 0), (.int .i32 0), (.int .i32 0), (.int .u8 0), (.int .i32 0), (.int .i32 0), (.int .u8 0), (.int .i32 0), (.int .i32 0), (.int .u8 0), (.int .i32 0), (.int .i32 0), (.int .u8 0), (.int .i32 0), (.int .i32 0), (.int .u8 0), (.int .i32 0), (.int .i32 0), (.int .u8 0), (.int .i32 0), (.int .i32 0), (.int .u8 0), (.int .i32 0), (.int .i32 0), (.int .u8 0), (.int .i32 0), (.int .i32 0), (.int .u8 0), (.int .i32 0), (.int .i32 0), (.int .u8 0), (.int .i32 0), (.int .i32 0), (.int .u8 0), (.int .i32 0), (.int .i32 0), (.int .u8 0), (.int .i32 0), (.int .i32 0), (.int .u8 0), (.int .i32 0), (.int .i32 0), (.int .u8 0), (.int .i32 0), (.int .i32 0), (.int .u8 0), (.int .i32 0), (.int .i32 0), (.int .u8 0), (.int .i32 0), (.int .i32 0), (.int .u8 0), (.int .i32 0), (.int .i32 0), (.int .u8 0), (.int .i32 0), (.int .i32 0), (.int .u8 0), (.int .i32 0), (.int .i32 0), (.int .u8 0), (.int .i32 0), (.int .i32 0), (.int .u8 0), (.int .i32 0), (.int .i32 0), (.int .u8 0), (.int .i32 0), (.int .i32 0), (.int .u8 0), (.int .i32 0), (.int .i32 0), (.int .u8 0), (.int .i32 0), (.int .i32 0), (.int .u8 0), (.int .i32 0), (.int .i32 0), (.int .u8 0), (.int .i32 0), (.int .i32 0), (.int .u8 0), (.int .i32 0), (.int .i32 0), (.int .u8 0), (.int .i32 0), (.int .i32 0), (.int .u8 0), (.int .i32 0), (.int .i32 0), (.int .u8 0), (.int .i32 0), (.int .i32 0), (.int .u8 0), (.int .i32 0), (.int .i32 0), (.int .u8 0), (.int .i32 0), (.int .i32 0), (.int .u8 0), (.int .i32 0), (.int .i32 0), (.int .u8 0), (.int .i32 0), (.int .i32 0), (.int .u8 0), (.int .i32 0), (.int .i32 0), (.int .u8 0), (.int .i32 0), (.int .i32 0), (.int .u8 0), (.int .i32 0), (.int .i32 0), (.int .u8 0), (.int .i32 0), (.int .i32 0), (.int .u8 0), (.int .i32 0), (.int .i32 0), (.int .u8 0), (.int .i32 0), (.int .i32 0), (.int .u8 0), (.int .i32 0), (.int .i32 0), (.int .u8 0), (.int .i32 0), (.int .i32 0), (.int .u8 0), (.int .i32 0), (.int .i32 0), (.int .u8 0), (.int .i32 0), (.int .i32 0), (.int .u8 0), (.int .i32 0), (.int .i32 0), (.int .u8 0), (.int .i32 0), (.int .i32 0), (.int .u8 0), (.int .i32 0), (.int .i32 0), (.int .u8 0), (.int .i32 0), (.int .i32 0), (.int .u8 0), (.int .i32 0), (.int .i32 0), (.int .u8 0), (.int .i32 0), (.int .i32 0), (.int .u8 0), (.int .i32 0), (.int .i32 0), (.int .u8 0), (.int .i32 0), (.int .i32 0), (.int .u8 0), (.int .i32 0), (.int .i32 0), (.int .u8 0), (.int .i32 0), (.int .i32 0), (.int .u8 0), (.int .i32 0), (.int .i32 0), (.int .u8 0), (.int .i32 0), (.int .i32 0), (.int .u8 0), (.int .i32 0), (.int .i32 0), (.int .u8 0), (.int .i32 0), (.int .i32 0), (.int .u8 0), (.int .i32 0), (.int .i32 0), (.int .u8 0), (.int .i32 0), (.int .i32 0), (.int .u8 0), (.int .i32 0), (.int .i32 0), (.int .u8 0), (.int .i32 0), (.int .i32 0), (.int .u8 0), (.int .i32 0), (.int .i32 0), (.int .u8 0), (.int .i32 0), (.int .i32 0), (.int .u8 0), (.int .i32 0), (.int .i32 0), (.int .u8 0), (.int .i32 0), (.int .i32 0), (.int .u8 0), (.int .i32 0), (.int .i32 0), (.int .u8 0), (.int .i32 0), (.int .i32 0), (.int .u8 0), (.int .i32 0), (.int .i32 0), (.int .u8 0), (.int .i32 0), (.int .i32 0), (.int .u8 0), (.int .i32 0), (.int .i32 0), (.int .u8 0), (.int .i32 0), (.int .i32 0), (.int .u8 0), (.int .i32 0), (.int .i32 0), (.int .u8 0), (.int .i32 0), (.int .i32 0), (.int .u8 0), (.int .i32 0), (.int .i32 0), (.int .u8 0), (.int .i32 0), (.int .i32 0), (.int .u8 0), (.int .i32 0), (.int .i32 0), (.int .u8 0), (.int .i32 0), (.int .i32 0), (.int .u8 0), (.int .i32 0), (.int .i32 0), (.int .u8 0), (.int .i32 0), (.int .i32 0), (.int .u8 0), (.int .i32 0), (.int .i32 0), (.int .u8 0), (.int .i32 0), (.int .i32 0), (.int .u8 0), (.int .i32 0), (.int .i32 0), (.int .u8 0), (.int .i32 0), (.int .i32 0), (.int .u8 0), (.int .i32 0), (.int .i32 0), (.int .u8 0), (.int .i32 0), (.int .i32 0), (.int .u8 0), (.int .i32 0), (.int .i32 0), (.int .u8 0), (.int .i32 0), (.int .i32 0), (.int .u8 0), (.int .i32 0), (.int .i32 0), (.int .u8 0), (.int .i32 0), (.int .i32 0), (.int .u8 0), (.int .i32 0), (.int .i32 0), (.int .u8 0), (.int .i32 0), (.int .i32 0), (.int .u8 0), (.int .i32 0), (.int .i32 0), (.int .u8 0), (.int .i32 0), (.int .i32 0), (.int .u8 0), (.int .i32 0), (.int .i32 0), (.int .u8 0), (.int .i32 0), (.int .i32 0), (.int .u8 0), (.int .i32 0), (.int .i32 0), (.int .u8 0), (.int .i32 0), (.int .i32 0), (.int .u8 0), (.int .i32 0), (.int .i32 0), (.int .u8 0), (.int .i32 0), (.int .i32 0), (.int .u8 0), (.int .i32 0), (.int .i32 0), (.int .u8 0), (.int .i32 0), (.int .i32 0), (.int .u8 0), (.int .i32 0), (.int .i32 0), (.int .u8 0), (.int .i32 0), (.int .i32 0), (.int .u8 0), (.int .i32 0), (.int .i32 0), (.int .u8 0), (.int .i32 0), (.int .i32 0), (.int .u8 0), (.int .i32 0), (.int .i32 0), (.int .u8 0), (.int .i32 0), (.int .i32 0), (.int .u8 0), (.int .i32 0), (.int .i32 0), (.int .u8 0), (.int .i32 0), (.int .i32 0), (.int .u8 0), (.int .i32 0), (.int .i32 0), (.int .u8 0), (.int .i32 0), (.int .i32 0), (.int .u8 0), (.int .i32 0), (.int .i32 0), (.int .u8 0), (.int .i32 0), (.int .i32 0), (.int .u8 0), (.int .i32 0), (.int .i32 0), (.int .u8 0), (.int .i32 0), (.int .i32 0), (.int .u8 0), (.int .i32 0), (.int .i32 0), (.int .u8 0), (.int .i32 0), (.int .i32 0), (.int .u8 0), (.int .i32 0), (.int .i32 0), (.int .u8 0), (.int .i32 0), (.int .i32 0), (.int .u8 0), (.int .i32 0), (.int .i32 0), (.int .u8 0), (.int .i32 0), (.int .i32 0), (.int .u8 0), (.int .i32 0), (.int .i32 0), (.int .u8 0), (.int .i32 0), (.int .i32 0), (.int .u8 0), (.int .i32 0), (.int .i32 0), (.int .u8 0), (.int .i32 0), (.int .i32 0), (.int .u8 0), (.int .i32 0), (.int .i32 0), (.int .u8 0), (.int .i32 0), (.int .i32 0), (.int .u8 0), (.int .i32 0), (.int .i32 0), (.int .u8 0), (.int .i32 0), (.int .i32 0), (.int .u8 0), (.int .i32 0), (.int .i32 0), (.int .u8 0), (.int .i32 0), (.int .i32 0), (.int .u8 0), (.int .i32 0), (.int .i32 0), (.int .u8 0), (.int .i32 0), (.int .i32 0), (.int .u8 0), (.int .i32 0), (.int .i32 0), (.int .u8 0), (.int .i32 0), (.int .i32 0), (.int .u8 0), (.int .i32 0), (.int .i32 0), (.int .u8 0), (.int .i32 0), (.int .i32 0), (.int .u8 0), (.int .i32 0), (.int .i32 0), (.int .u8 0), (.int .i32 0), (.int .i32 0), (.int .u8 0), (.int .i32 0), (.int .i32 0), (.int .u8 0), (.int .i32 0), (.int .i32 0), (.int .u8 0), (.int .i32 0), (.int .i32 0), (.int .u8 0), (.int .i32 0), (.int .i32 0), (.int .u8 0), (.int .i32 0), (.int .i32 0), (.int .u8 0), (.int .i32 0), (.int .i32 0), (.int .u8 0), (.int .i32 0), (.int .i32 0), (.int .u8 0), (.int .i32 0), (.int .i32 0), (.int .u8 0), (.int .i32 0), (.int .i32 0), (.int .u8 0), (.int .i32 0), (.int .i32 0), (.int .u8 0), (.int .i32 0), (.int .i32 0), (.int .u8 0), (.int .i32 0), (.int .i32 0), (.int .u8 0), (.int .i32 0), (.int .i32 0), (.int .u8 0), (.int .i32 0), (.int .i32 0), (.int .u8 0), (.int .i32 0), (.int .i32 0), (.int .u8 0), (.int .i32 0), (.int .i32 0), (.int .u8 0), (.int .i32 0), (.int .i32 0), (.int .u8 0), (.int .i32 0), (.int .i32 0), (.int .u8 0), (.int .i32 0), (.int .i32 0), (.int .u8 0), (.int .i32 0), (.int .i32 0), (.int .u8 0), (.int .i32 0), (.int .i32 0), (.int .u8 0), (.int .i32 0), (.int .i32 0), (.int .u8 0), (.int .i32 0), (.int .i32 0), (.int .u8 0), (.int .i32 0), (.int .i32 0), (.int .u8 0), (.int .i32 0), (.int .i32 0), (.int .u8 0), (.int .i32 0), (.int .i32 0), (.int .u8 0), (.int .i32 0), (.int .i32 0), (.int .u8 0), (.int .i32 0), (.int .i32 0), (.int .u8 0), (.int .i32 0), (.int .i32 0), (.int .u8 0), (.int .i32 0), (.int .i32 0), (.int .u8 0), (.int .i32 0), (.int .i32 0), (.int .u8 0), (.int .i32 0), (.int .i32 0), (.int .u8 0), (.int .i32 0), (.int .i32 0), (.int .u8 0), (.int .i32 0), (.int .i32 0), (.int .u8 0), (.int .i32 0), (.int .i32 0), (.int .u8 0), (.int .i32 0), (.int .i32 0), (.int .u8 0), (.int .i32 0), (.int .i32 0), (.int .u8 0), (.int .i32 0), (.int .i32 0), (.int .u8 0)]⟩,
  ⟨none, none, .store 564 (.t 3) (.t 5)⟩]) (.seq (.reg false [⟨(some 6), none, .mkfn f_class_Of_1 [] [(.t 3), (.t 1)]⟩,
  ⟨(some 7), none, .call (.c (.fn f_sort_Search [] [])) [(.c (.int .i64 188)), (.t 6)]⟩,
  ⟨(some 4), none, .mv (.t 7)⟩]) (.seq (.seq (.reg true [⟨(some 8), none, .mv (.t 4)⟩,
  ⟨(some 9), none, .bin .eql (.t 8) (.c (.int .i64 188))⟩,
  ⟨(some 10), none, .mv (.t 9)⟩,
  ⟨(some 11), some (10, false), .mv (.t 4)⟩,
  ⟨(some 12), some (10, false), .iaddra 188 3 (.t 3) (.t 11)⟩,
  ⟨(some 13), some (10, false), .faddr 0 (.t 12)⟩,
  ⟨(some 14), some (10, false), .load none (.t 13)⟩,
  ⟨(some 15), some (10, false), .loadi none (.t 1)⟩,
  ⟨(some 16), some (10, false), .bin .gtr (.t 14) (.t 15)⟩,
  ⟨(some 17), none, .pick (.t 10) (.c (.bool true)) (.t 16)⟩]) (.cond (.t 17) (.seq (.reg false [⟨(some 2), none, .mv (.c (.int .u8 0))⟩]) .ret) .skip)) (.seq (.reg false [⟨(some 18), none, .mv (.t 4)⟩,
  ⟨(some 19), none, .iaddra 188 3 (.t 3) (.t 18)⟩,
  ⟨(some 20), none, .faddr 2 (.t 19)⟩,
  ⟨(some 21), none, .load none (.t 20)⟩,
  ⟨(some 2), none, .mv (.t 21)⟩]) .ret)))))
def i_class_Of : IFn := ⟨3, 22, [.tmp 2], c_class_Of⟩
/-- slices.AppendSeq[[]int,int]: 2 parameters, 0 captured -/
def slices_AppendSeq_int_a0 : IC := (.reg false [⟨(some 5), none, .mv (.t 7)⟩])
def slices_AppendSeq_int_r0 : IC := (.block 1 (.reg false [⟨(some 8), none, .load none (.t 2)⟩,
  ⟨(some 9), none, .mv (.t 5)⟩,
  ⟨(some 10), none, .blit 1 [(.int .i64 0)] [(0, 1, (.t 9))]⟩,
  ⟨(some 11), none, .app 1 8 (.t 8) (.t 10)⟩,
  ⟨none, none, .store 1 (.t 2) (.t 11)⟩]))
def c_slices_AppendSeq_int : IC := (.seq (.reg false [⟨(some 2), none, .box (.t 0)⟩,
  ⟨(some 4), none, .mv (.c .nils)⟩]) (.seq (.seq (.reg false [⟨(some 6), none, .mv (.t 1)⟩]) (.block 0 (.rangeF (.t 6) [7] slices_AppendSeq_int_a0 slices_AppendSeq_int_r0))) (.seq (.reg false [⟨(some 12), none, .load none (.t 2)⟩,
  ⟨(some 4), none, .mv (.t 12)⟩]) .ret)))
def i_slices_AppendSeq_int : IFn := ⟨3, 13, [.tmp 4], c_slices_AppendSeq_int⟩
/-- stickful/unit.Stop: 2 parameters, 0 captured -/
def c_unit_Stop : IC := (.seq (.reg false [⟨(some 4), none, .mv (.c (.int .i64 0))⟩,
  ⟨(some 5), none, .mv (.c (.int .i64 0))⟩]) (.seq (.seq (.reg false [⟨(some 7), none, .mv (.t 1)⟩,
  ⟨(some 8), none, .bin .lss (.t 7) (.c (.int .i64 1))⟩]) (.cond (.t 8) (.seq (.reg false [⟨(some 4), none, .mv (.c (.int .i64 0))⟩,
  ⟨(some 5), none, .mv (.c (.int .i64 2))⟩]) .ret) .skip)) (.seq (.reg false [⟨(some 9), none, .mv (.t 0)⟩,
  ⟨(some 10), none, .mv (.t 1)⟩,
  ⟨(some 11), none, .bin .rem (.t 9) (.t 10)⟩,
  ⟨(some 6), none, .mv (.t 11)⟩]) (.seq (.seq (.reg false [⟨(some 12), none, .mv (.t 6)⟩,
  ⟨(some 13), none, .bin .lss (.t 12) (.c (.int .i64 0))⟩]) (.cond (.t 13) (.reg false [⟨(some 14), none, .mv (.t 6)⟩,
  ⟨(some 15), none, .mv (.t 1)⟩,
  ⟨(some 16), none, .bin .add (.t 14) (.t 15)⟩,
  ⟨(some 6), none, .mv (.t 16)⟩]) .skip)) (.seq (.reg false [⟨(some 17), none, .mv (.t 0)⟩,
  ⟨(some 18), none, .mv (.t 6)⟩,
  ⟨(some 19), none, .un .neg (.t 18)⟩,
  ⟨(some 20), none, .mv (.t 1)⟩,
  ⟨(some 21), none, .blit 3 [(.int .i64 0), (.int .i64 0), (.int .i64 0)] [(0, 1, (.t 17)), (1, 1, (.t 19)), (2, 1, (.t 20))]⟩,
  ⟨(some 22), none, .call (.c (.fn f_unit_Sum [] [])) [(.t 21)]⟩,
  ⟨(some 23), none, .extr 0 (.t 22)⟩,
  ⟨(some 24), none, .extr 1 (.t 22)⟩,
  ⟨(some 4), none, .mv (.t 23)⟩,
  ⟨(some 5), none, .mv (.t 24)⟩]) .ret)))))
def i_unit_Stop : IFn := ⟨3, 25, [.tmp 4, .tmp 5], c_unit_Stop⟩
/-- stickful/class.spans: 0 parameters, 0 captured -/
def c_class_spans : IC := (.seq (.reg false [⟨(some 0), none, .alloc [(.int .i32 0), (.int .i32 0), (.int .u8 0), (.int .i32 0), (.int .i32 0), (.int .u8 0), (.int .i32 0), (.int .i32 0), (.int .u8 0), (.int .i32 0), (.int .i32 0), (.int .u8 0), (.int .i32 0), (.int .i32 0), (.int .u8 0), (.int .i32 0), (.int .i32 0), (.int .u8 0), (.int .i32 0), (.int .i32 0), (.int .u8 0), (.int .i32 0), (.int .i32 0), (.int .u8 0), (.int .i32 0), (.int .i32 0), (.int .u8 0), (.int .i32 0), (.int .i32 0), (.int .u8 0), (.int .i32 0), (.int .i32 0), (.int .u8 0), (.int .i32 0), (.int .i32 0), (.int .u8 0), (.int .i32 0), (.int .i32 0), (.int .u8 0), (.int .i32 0), (.int .i32 0), (.int .u8 0), (.int .i32 0), (.int .i32 0), (.int .u8 0), (.int .i32 0), (.int .i32 0), (.int .u8 0), (.int .i32 0), (.int .i32 0), (.int .u8 0), (.int .i32 0), (.int .i32 0), (.int .u8 0), (.int .i32 0), (.int .i32 0), (.int .u8 0), (.int .i32 0), (.int .i32 0), (.int .u8 0), (.int .i32 0), (.int .i32 0), (.int .u8 0), (.int .i32 0), (.int .i32 0), (.int .u8 0), (.int .i32 0), (.int .i32 0), (.int .u8 0), (.int .i32 0), (.int .i32 0), (.int .u8 0), (.int .i32 0), (.int .i32 0), (.int .u8 0), (.int .i32 0), (.int .i32 0), (.int .u8 0), (.int .i32 0), (.int .i32 0), (.int .u8 0), (.int .i32 0), (.int .i32 0), (.int .u8 0), (.int .i32 0), (.int .i32 0), (.int .u8 0), (.int .i32 0), (.int .i32 0), (.int .u8 0), (.int .i32 0), (.int .i32 0), (.int .u8 0), (.int .i32 0), (.int .i32 0), (.int .u8 0), (.int .i32 0), (.int .i32 0), (.int .u8 0), (.int .i32 0), (.int .i32 0), (.int .u8 0), (.int .i32 0), (.int .i32 0), (.int .u8 0), (.int .i32 0), (.int .i32 0), (.int .u8 0), (.int .i32 0), (.int .i32 0), (.int .u8 0), (.int .i32 0), (.int .i32 0), (.int .u8 0), (.int .i32 0), (.int .i32 0), (.int .u8 0), (.int .i32 0), (.int .i32 0), (.int .u8 0), (.int .i32 0), (.int .i32 0), (.int .u8 0), (.int .i32 0), (.int .i32 0), (.int .u8 0), (.int .i32 0), (.int .i32 0), (.int .u8 0), (.int .i32 0), (.int .i32 0), (.int .u8 0), (.int .i32 0), (.int .i32 0), (.int .u8 0), (.int .i32 0), (.int .i32 0), (.int .u8 0), (.int .i32 0), (.int .i32 0), (.int .u8 0), (.int .i32 0), (.int .i32 0), (.int .u8 0), (.int .i32 0), (.int .i32 0), (.int .u8 0), (.int .i32 0), (.int .i32 0), (.int .u8 0), (.int .i32 0), (.int .i32 0), (.int .u8 0), (.int .i32 0), (.int .i32 0), (.int .u8 0), (.int .i32 0), (.int .i32 0), (.int .u8 0), (.int .i32 0), (.int .i32 0), (.int .u8 0), (.int .i32 0), (.int .i32 0), (.int .u8 0), (.int .i32 0), (.int .i32 0), (.int .u8 0), (.int .i32 0), (.int .i32 0), (.int .u8 0), (.int .i32 0), (.int .i32 0), (.int .u8 0), (.int .i32 0), (.int .i32 0), (.int .u8 0), (.int .i32 0), (.int .i32 0), (.int .u8 0), (.int .i32 0), (.int .i32 0), (.int .u8 0), (.int .i32 0), (.int .i32 0), (.int .u8 0), (.int .i32 0), (.int .i32 0), (.int .u8 0), (.int .i32 0), (.int .i32 0), (.int .u8 0), (.int .i32 0), (.int .i32 0), (.int .u8 0), (.int .i32 0), (.int .i32 0), (.int .u8 0), (.int .i32 0), (.int .i32 0), (.int .u8 0), (.int .i32 0), (.int .i32 0), (.int .u8 0), (.int .i32 0), (.int .i32 0), (.int .u8 0), (.int .i32 0), (.int .i32 0), (.int .u8 0), (.int .i32 0), (.int .i32 0), (.int .u8 0), (.int .i32 0), (.int .i32 0), (.int .u8 0), (.int .i32 0), (.int .i32 0), (.int .u8 0), (.int .i32 0), (.int .i32 0), (.int .u8 0), (.int .i32 0), (.int .i32 0), (.int .u8 0), (.int .i32 0), (.int .i32 0), (.int .u8 0), (.int .i32 0), (.int .i32 0), (.int .u8 0), (.int .i32 0), (.int .i32 0), (.int .u8 0), (.int .i32 0), (.int .i32 0), (.int .u8 0), (.int .i32 0), (.int .i32 0), (.int .u8 0), (.int .i32 0), (.int .i32 0), (.int .u8 0), (.int .i32 0), (.int .i32 0), (.int .u8 0), (.int .i32 0), (.int .i32 0), (.int .u8 0), (.int .i32 0), (.int .i32 0), (.int .u8 0), (.int .i32 0), (.int .i32 0), (.int .u8 0), (.int .i32 0), (.int .i32 0), (.int .u8 0), (.int .i32 0), (.int .i32 0), (.int .u8 0), (.int .i32 0), (.int .i32 0), (.int .u8 0), (.int .i32 0), (.int .i32 0), (.int .u8 0), (.int .i32 0), (.int .i32 0), (.int .u8 0), (.int .i32 0), (.int .i32 0), (.int .u8 0), (.int .i32 0), (.int .i32 0), (.int .u8 0), (.int .i32 0), (.int .i32 0), (.int .u8 0), (.int .i32 0), (.int .i32 0), (.int .u8 0), (.int .i32 0), (.int .i32 0), (.int .u8 0), (.int .i32 0), (.int .i32 0), (.int .u8 0), (.int .i32 0), (.int .i32 0), (.int .u8 0), (.int .i32 0), (.int .i32 0), (.int .u8 0), (.int .i32 0), (.int .i32 0), (.int .u8 0), (.int .i32 0), (.int .i32 0), (.int .u8 0), (.int .i32 0), (.int .i32 0), (.int .u8 0), (.int .i32 0), (.int .i32 0), (.int .u8 0), (.int .i32 0), (.int .i32 0), (.int .u8 0), (.int .i32 0), (.int .i32 0), (.int .u8 0), (.int .i32 0), (.int .i32 0), (.int .u8 0), (.int .i32 0), (.int .i32 0), (.int .u8 0), (.int .i32 0), (.int .i32 0), (.int .u8 0), (.int .i32 0), (.int .i32 0), (.int .u8 0), (.int .i32 0), (.int .i32 0), (.int .u8 0), (.int .i32 0), (.int .i32 0), (.int .u8 0), (.int .i32 0), (.int .i32 0), (.int .u8 0), (.int .i32 0), (.int .i32 0), (.int .u8 0), (.int .i32 0), (.int .i32 0), (.int .u8 0), (.int .i32 0), (.int .i32 0), (.int .u8 0), (.int .i32 0), (.int .i32 0), (.int .u8 0), (.int .i32 0), (.int .i32 0), (.int .u8 0), (.int .i32 0), (.int .i32 0), (.int .u8 0), (.int .i32 0), (.int .i32 0), (.int .u8 0), (.int .i32 0), (.int .i32 0), (.int .u8 0), (.int .i32 0), (.int .i32 0), (.int .u8 0), (.int .i32 0), (.int .i32 0), (.int .u8 0), (.int .i32 0), (.int .i32 0), (.int .u8 0), (.int .i32 0), (.int .i32 0), (.int .u8 0), (.int .i32 0), (.int .i32 0), (.int .u8 0), (.int .i32 0), (.int .i32 0), (.int .u8 0), (.int .i32 0), (.int .i32 0), (.int .u8 0), (.int .i32 0), (.int .i32 0), (.int .u8 0), (.int .i32 0), (.int .i32 0), (.int .u8 0), (.int .i32 0), (.int .i32 0), (.int .u8 0), (.int .i32 0), (.int .i32 0), (.int .u8 0), (.int .i32 0), (.int .i32 0), (.int .u8 0), (.int .i32 0), (.int .i32 0), (.int .u8 0), (.int .i32 0), (.int .i32 0), (.int .u8 0), (.int .i32 0), (.int .i32 0), (.int .u8 0), (.int .i32 0), (.int .i32 0), (.int .u8 0), (.int .i32 0), (.int .i32 0), (.int .u8 0), (.int .i32 0), (.int .i32 0), (.int .u8 0), (.int .i32 0), (.int .i32 0), (.int .u8 0), (.int .i32 0), (.int .i32 0), (.int .u8 0), (.int .i32 0), (.int .i32 0), (.int .u8 0), (.int .i32 0), (.int .i32 0), (.int .u8 0), (.int .i32 0), (.int .i32 0), (.int .u8 0), (.int .i32 0), (.int .i32 0), (.int .u8 0), (.int .i32 0), (.int .i32 0), (.int .u8 0), (.int .i32 0), (.int .i32 0), (.int .u8 0), (.int .i32 0), (.int .i32 0), (.int .u8 0), (.int .i32 0), (.int .i32 0), (.int .u8 0), (.int .i32 0), (.int .i32 0), (.int .u8 0), (.int .i32 0), (.int .i32 0), (.int .u8 0), (.int .i32 0), (.int .i32 0), (.int .u8 0), (.int .i32 0), (.int .i32 0), (.int .u8 0), (.int .i32 0), (.int .i32 0), (.int .u8 0), (.int .i32 0), (.int .i32 0), (.int .u8 0), (.int .i32 0), (.int .i32 0), (.int .u8 0), (.int .i32 0), (.int .i32 0), (.int .u8 0), (.int .i32 0), (.int .i32 0), (.int .u8 0), (.int .i32 0), (.int .i32 0), (.int .u8 0), (.int .i32 0), (.int .i32 0), (.int .u8 0), (.int .i32 0), (.int .i32 0), (.int .u8 0), (.int .i32 0), (.int .i32 0), (.int .u8 0), (.int .i32 0), (.int .i32 0), (.int .u8 0), (.int .i32 0), (.int .i32 0), (.int .u8 0), (.int .i32 0), (.int .i32 0), (.int .u8 0), (.int .i32 0), (.int .i32 0), (.int .u8 0), (.int .i32 0), (.int .i32 0), (.int .u8 0), (.int .i32 0), (.int .i32 0), (.int .u8 0), (.int .i32 0), (.int .i32 0), (.int .u8 0), (.int .i32 0), (.int .i32 0), (.int .u8 0), (.int .i32 0), (.int .i32 0), (.int .u8 0), (.int .i32 0), (.int .i32 0), (.int .u8 0), (.int .i32 0), (.int .i32 0), (.int .u8 0), (.int .i32 0), (.int .i32 0), (.int .u8 0), (.int .i32 0), (.int .i32 0), (.int .u8 0), (.int .i32 0), (.int .i32 0), (.int .u8 0), (.int .i32 0), (.int .i32 0), (.int .u8 0), (.int .i32 0), (.int .i32 0), (.int .u8 0), (.int .i32 0), (.int .i32 0), (.int .u8 0), (.int .i32 0), (.int .i32 0), (.int .u8 0), (.int .i32 0), (.int .i32 0), (.int .u8 0), (.int .i32 0), (.int .i32 0), (.int .u8 0), (.int .i32 0), (.int .i32 0), (.int .u8 0), (.int .i32 0), (.int .i32 0), (.int .u8 0), (.int .i32 0), (.int .i32 0), (.int .u8 0), (.int .i32 0), (.int .i32 0), (.int .u8 0), (.int .i32 0), (.int .i32 0), (.int .u8 0), (.int .i32 0), (.int .i32 0), (.int .u8 0), (.int .i32 0), (.int .i32 0), (.int .u8 0), (.int .i32 0), (.int .i32 0), (.int .u8 0)]⟩]) (.seq (.reg false [⟨(some 1), none, .build [(.int .i32 0), (.int .i32 0), (.int .u8 0)] [(0, 1, (.c (.int .i32 0))), (1, 1, (.c (.int .i32 8))), (2, 1, (.c (.int .u8 9)))]⟩,
  ⟨(some 2), none, .build [(.int .i32 0), (.int .i32 0), (.int .u8 0)] [(0, 1, (.c (.int .i32 9))), (1, 1, (.c (.int .i32 9))), (2, 1, (.c (.int .u8 10)))]⟩,
  ⟨(some 3), none, .build [(.int .i32 0), (.int .i32 0), (.int .u8 0)] [(0, 1, (.c (.int .i32 10))), (1, 1, (.c (.int .i32 10))), (2, 1, (.c (.int .u8 3)))]⟩,
  ⟨(some 4), none, .build [(.int .i32 0), (.int .i32 0), (.int .u8 0)] [(0, 1, (.c (.int .i32 11))), (1, 1, (.c (.int .i32 12))), (2, 1, (.c (.int .u8 1)))]⟩,
  ⟨(some 5), none, .build [(.int .i32 0), (.int .i32 0), (.int .u8 0)] [(0, 1, (.c (.int .i32 13))), (1, 1, (.c (.int .i32 13))), (2, 1, (.c (.int .u8 2)))]⟩,
  ⟨(some 6), none, .build [(.int .i32 0), (.int .i32 0), (.int .u8 0)] [(0, 1, (.c (.int .i32 14))), (1, 1, (.c (.int .i32 31))), (2, 1, (.c (.int .u8 9)))]⟩,
  ⟨(some 7), none, .build [(.int .i32 0), (.int .i32 0), (.int .u8 0)] [(0, 1, (.c (.int .i32 32))), (1, 1, (.c (.int .i32 32))), (2, 1, (.c (.int .u8 5)))]⟩,
  ⟨(some 8), none, .build [(.int .i32 0), (.int .i32 0), (.int .u8 0)] [(0, 1, (.c (.int .i32 33))), (1, 1, (.c (.int .i32 33))), (2, 1, (.c (.int .u8 17)))]⟩,
  ⟨(some 9), none, .build [(.int .i32 0), (.int .i32 0), (.int .u8 0)] [(0, 1, (.c (.int .i32 34))), (1, 1, (.c (.int .i32 34))), (2, 1, (.c (.int .u8 16)))]⟩,
  ⟨(some 10), none, .build [(.int .i32 0), (.int .i32 0), (.int .u8 0)] [(0, 1, (.c (.int .i32 36))), (1, 1, (.c (.int .i32 36))), (2, 1, (.c (.int .u8 23)))]⟩,
  ⟨(some 11), none, .build [(.int .i32 0), (.int .i32 0), (.int .u8 0)] [(0, 1, (.c (.int .i32 37))), (1, 1, (.c (.int .i32 37))), (2, 1, (.c (.int .u8 24)))]⟩,
  ⟨(some 12), none, .build [(.int .i32 0), (.int .i32 0), (.int .u8 0)] [(0, 1, (.c (.int .i32 39))), (1, 1, (.c (.int .i32 39))), (2, 1, (.c (.int .u8 16)))]⟩,
  ⟨(some 13), none, .build [(.int .i32 0), (.int .i32 0), (.int .u8 0)] [(0, 1, (.c (.int .i32 40))), (1, 1, (.c (.int .i32 40))), (2, 1, (.c (.int .u8 14)))]⟩,
  ⟨(some 14), none, .build [(.int .i32 0), (.int .i32 0), (.int .u8 0)] [(0, 1, (.c (.int .i32 41))), (1, 1, (.c (.int .i32 41))), (2, 1, (.c (.int .u8 15)))]⟩,
  ⟨(some 15), none, .build [(.int .i32 0), (.int .i32 0), (.int .u8 0)] [(0, 1, (.c (.int .i32 43))), (1, 1, (.c (.int .i32 43))), (2, 1, (.c (.int .u8 23)))]⟩,
  ⟨(some 16), none, .build [(.int .i32 0), (.int .i32 0), (.int .u8 0)] [(0, 1, (.c (.int .i32 44))), (1, 1, (.c (.int .i32 44))), (2, 1, (.c (.int .u8 18)))]⟩,
  ⟨(some 17), none, .build [(.int .i32 0), (.int .i32 0), (.int .u8 0)] [(0, 1, (.c (.int .i32 45))), (1, 1, (.c (.int .i32 45))), (2, 1, (.c (.int .u8 13)))]⟩,
  ⟨(some 18), none, .build [(.int .i32 0), (.int .i32 0), (.int .u8 0)] [(0, 1, (.c (.int .i32 46))), (1, 1, (.c (.int .i32 47))), (2, 1, (.c (.int .u8 18)))]⟩,
  ⟨(some 19), none, .build [(.int .i32 0), (.int .i32 0), (.int .u8 0)] [(0, 1, (.c (.int .i32 48))), (1, 1, (.c (.int .i32 57))), (2, 1, (.c (.int .u8 22)))]⟩,
  ⟨(some 20), none, .build [(.int .i32 0), (.int .i32 0), (.int .u8 0)] [(0, 1, (.c (.int .i32 58))), (1, 1, (.c (.int .i32 59))), (2, 1, (.c (.int .u8 18)))]⟩,
  ⟨(some 21), none, .build [(.int .i32 0), (.int .i32 0), (.int .u8 0)] [(0, 1, (.c (.int .i32 63))), (1, 1, (.c (.int .i32 63))), (2, 1, (.c (.int .u8 17)))]⟩,
  ⟨(some 22), none, .build [(.int .i32 0), (.int .i32 0), (.int .u8 0)] [(0, 1, (.c (.int .i32 91))), (1, 1, (.c (.int .i32 91))), (2, 1, (.c (.int .u8 14)))]⟩,
  ⟨(some 23), none, .build [(.int .i32 0), (.int .i32 0), (.int .u8 0)] [(0, 1, (.c (.int .i32 92))), (1, 1, (.c (.int .i32 92))), (2, 1, (.c (.int .u8 23)))]⟩,
  ⟨(some 24), none, .build [(.int .i32 0), (.int .i32 0), (.int .u8 0)] [(0, 1, (.c (.int .i32 93))), (1, 1, (.c (.int .i32 93))), (2, 1, (.c (.int .u8 15)))]⟩,
  ⟨(some 25), none, .build [(.int .i32 0), (.int .i32 0), (.int .u8 0)] [(0, 1, (.c (.int .i32 123))), (1, 1, (.c (.int .i32 123))), (2, 1, (.c (.int .u8 14)))]⟩,
  ⟨(some 26), none, .build [(.int .i32 0), (.int .i32 0), (.int .u8 0)] [(0, 1, (.c (.int .i32 124))), (1, 1, (.c (.int .i32 124))), (2, 1, (.c (.int .u8 10)))]⟩,
  ⟨(some 27), none, .build [(.int .i32 0), (.int .i32 0), (.int .u8 0)] [(0, 1, (.c (.int .i32 125))), (1, 1, (.c (.int .i32 125))), (2, 1, (.c (.int .u8 15)))]⟩,
  ⟨(some 28), none, .build [(.int .i32 0), (.int .i32 0), (.int .u8 0)] [(0, 1, (.c (.int .i32 127))), (1, 1, (.c (.int .i32 132))), (2, 1, (.c (.int .u8 9)))]⟩,
  ⟨(some 29), none, .build [(.int .i32 0), (.int .i32 0), (.int .u8 0)] [(0, 1, (.c (.int .i32 133))), (1, 1, (.c (.int .i32 133))), (2, 1, (.c (.int .u8 4)))]⟩,
  ⟨(some 30), none, .build [(.int .i32 0), (.int .i32 0), (.int .u8 0)] [(0, 1, (.c (.int .i32 134))), (1, 1, (.c (.int .i32 159))), (2, 1, (.c (.int .u8 9)))]⟩,
  ⟨(some 31), none, .build [(.int .i32 0), (.int .i32 0), (.int .u8 0)] [(0, 1, (.c (.int .i32 160))), (1, 1, (.c (.int .i32 160))), (2, 1, (.c (.int .u8 8)))]⟩,
  ⟨(some 32), none, .build [(.int .i32 0), (.int .i32 0), (.int .u8 0)] [(0, 1, (.c (.int .i32 161))), (1, 1, (.c (.int .i32 161))), (2, 1, (.c (.int .u8 14)))]⟩,
  ⟨(some 33), none, .build [(.int .i32 0), (.int .i32 0), (.int .u8 0)] [(0, 1, (.c (.int .i32 162))), (1, 1, (.c (.int .i32 162))), (2, 1, (.c (.int .u8 24)))]⟩,
  ⟨(some 34), none, .build [(.int .i32 0), (.int .i32 0), (.int .u8 0)] [(0, 1, (.c (.int .i32 163))), (1, 1, (.c (.int .i32 165))), (2, 1, (.c (.int .u8 23)))]⟩,
  ⟨(some 35), none, .build [(.int .i32 0), (.int .i32 0), (.int .u8 0)] [(0, 1, (.c (.int .i32 171))), (1, 1, (.c (.int .i32 171))), (2, 1, (.c (.int .u8 16)))]⟩,
  ⟨(some 36), none, .build [(.int .i32 0), (.int .i32 0), (.int .u8 0)] [(0, 1, (.c (.int .i32 173))), (1, 1, (.c (.int .i32 173))), (2, 1, (.c (.int .u8 10)))]⟩,
  ⟨(some 37), none, .build [(.int .i32 0), (.int .i32 0), (.int .u8 0)] [(0, 1, (.c (.int .i32 176))), (1, 1, (.c (.int .i32 176))), (2, 1, (.c (.int .u8 24)))]⟩,
  ⟨(some 38), none, .build [(.int .i32 0), (.int .i32 0), (.int .u8 0)] [(0, 1, (.c (.int .i32 177))), (1, 1, (.c (.int .i32 177))), (2, 1, (.c (.int .u8 23)))]⟩,
  ⟨(some 39), none, .build [(.int .i32 0), (.int .i32 0), (.int .u8 0)] [(0, 1, (.c (.int .i32 180))), (1, 1, (.c (.int .i32 180))), (2, 1, (.c (.int .u8 11)))]⟩,
  ⟨(some 40), none, .build [(.int .i32 0), (.int .i32 0), (.int .u8 0)] [(0, 1, (.c (.int .i32 187))), (1, 1, (.c (.int .i32 187))), (2, 1, (.c (.int .u8 16)))]⟩,
  ⟨(some 41), none, .build [(.int .i32 0), (.int .i32 0), (.int .u8 0)] [(0, 1, (.c (.int .i32 191))), (1, 1, (.c (.int .i32 191))), (2, 1, (.c (.int .u8 14)))]⟩,
  ⟨(some 42), none, .build [(.int .i32 0), (.int .i32 0), (.int .u8 0)] [(0, 1, (.c (.int .i32 712))), (1, 1, (.c (.int .i32 712))), (2, 1, (.c (.int .u8 11)))]⟩,
  ⟨(some 43), none, .build [(.int .i32 0), (.int .i32 0), (.int .u8 0)] [(0, 1, (.c (.int .i32 716))), (1, 1, (.c (.int .i32 716))), (2, 1, (.c (.int .u8 11)))]⟩,
  ⟨(some 44), none, .build [(.int .i32 0), (.int .i32 0), (.int .u8 0)] [(0, 1, (.c (.int .i32 768))), (1, 1, (.c (.int .i32 879))), (2, 1, (.c (.int .u8 9)))]⟩,
  ⟨(some 45), none, .build [(.int .i32 0), (.int .i32 0), (.int .u8 0)] [(0, 1, (.c (.int .i32 1155))), (1, 1, (.c (.int .i32 1161))), (2, 1, (.c (.int .u8 9)))]⟩,
  ⟨(some 46), none, .build [(.int .i32 0), (.int .i32 0), (.int .u8 0)] [(0, 1, (.c (.int .i32 1425))), (1, 1, (.c (.int .i32 1469))), (2, 1, (.c (.int .u8 9)))]⟩,
  ⟨(some 47), none, .build [(.int .i32 0), (.int .i32 0), (.int .u8 0)] [(0, 1, (.c (.int .i32 1552))), (1, 1, (.c (.int .i32 1562))), (2, 1, (.c (.int .u8 9)))]⟩,
  ⟨(some 48), none, .build [(.int .i32 0), (.int .i32 0), (.int .u8 0)] [(0, 1, (.c (.int .i32 1611))), (1, 1, (.c (.int .i32 1631))), (2, 1, (.c (.int .u8 9)))]⟩,
  ⟨(some 49), none, .build [(.int .i32 0), (.int .i32 0), (.int .u8 0)] [(0, 1, (.c (.int .i32 1632))), (1, 1, (.c (.int .i32 1641))), (2, 1, (.c (.int .u8 22)))]⟩,
  ⟨(some 50), none, .build [(.int .i32 0), (.int .i32 0), (.int .u8 0)] [(0, 1, (.c (.int .i32 2406))), (1, 1, (.c (.int .i32 2415))), (2, 1, (.c (.int .u8 22)))]⟩,
  ⟨(some 51), none, .build [(.int .i32 0), (.int .i32 0), (.int .u8 0)] [(0, 1, (.c (.int .i32 4352))), (1, 1, (.c (.int .i32 4607))), (2, 1, (.c (.int .u8 25)))]⟩,
  ⟨(some 52), none, .build [(.int .i32 0), (.int .i32 0), (.int .u8 0)] [(0, 1, (.c (.int .i32 6832))), (1, 1, (.c (.int .i32 6911))), (2, 1, (.c (.int .u8 9)))]⟩,
  ⟨(some 53), none, .build [(.int .i32 0), (.int .i32 0), (.int .u8 0)] [(0, 1, (.c (.int .i32 7616))), (1, 1, (.c (.int .i32 7679))), (2, 1, (.c (.int .u8 9)))]⟩,
  ⟨(some 54), none, .build [(.int .i32 0), (.int .i32 0), (.int .u8 0)] [(0, 1, (.c (.int .i32 8192))), (1, 1, (.c (.int .i32 8198))), (2, 1, (.c (.int .u8 10)))]⟩,
  ⟨(some 55), none, .build [(.int .i32 0), (.int .i32 0), (.int .u8 0)] [(0, 1, (.c (.int .i32 8199))), (1, 1, (.c (.int .i32 8199))), (2, 1, (.c (.int .u8 8)))]⟩,
  ⟨(some 56), none, .build [(.int .i32 0), (.int .i32 0), (.int .u8 0)] [(0, 1, (.c (.int .i32 8200))), (1, 1, (.c (.int .i32 8202))), (2, 1, (.c (.int .u8 10)))]⟩,
  ⟨(some 57), none, .build [(.int .i32 0), (.int .i32 0), (.int .u8 0)] [(0, 1, (.c (.int .i32 8203))), (1, 1, (.c (.int .i32 8203))), (2, 1, (.c (.int .u8 6)))]⟩,
  ⟨(some 58), none, .build [(.int .i32 0), (.int .i32 0), (.int .u8 0)] [(0, 1, (.c (.int .i32 8204))), (1, 1, (.c (.int .i32 8207))), (2, 1, (.c (.int .u8 9)))]⟩,
  ⟨(some 59), none, .build [(.int .i32 0), (.int .i32 0), (.int .u8 0)] [(0, 1, (.c (.int .i32 8208))), (1, 1, (.c (.int .i32 8208))), (2, 1, (.c (.int .u8 10)))]⟩,
  ⟨(some 60), none, .build [(.int .i32 0), (.int .i32 0), (.int .u8 0)] [(0, 1, (.c (.int .i32 8209))), (1, 1, (.c (.int .i32 8209))), (2, 1, (.c (.int .u8 8)))]⟩,
  ⟨(some 61), none, .build [(.int .i32 0), (.int .i32 0), (.int .u8 0)] [(0, 1, (.c (.int .i32 8210))), (1, 1, (.c (.int .i32 8211))), (2, 1, (.c (.int .u8 10)))]⟩,
  ⟨(some 62), none, .build [(.int .i32 0), (.int .i32 0), (.int .u8 0)] [(0, 1, (.c (.int .i32 8212))), (1, 1, (.c (.int .i32 8212))), (2, 1, (.c (.int .u8 12)))]⟩,
  ⟨(some 63), none, .build [(.int .i32 0), (.int .i32 0), (.int .u8 0)] [(0, 1, (.c (.int .i32 8216))), (1, 1, (.c (.int .i32 8217))), (2, 1, (.c (.int .u8 16)))]⟩,
  ⟨(some 64), none, .build [(.int .i32 0), (.int .i32 0), (.int .u8 0)] [(0, 1, (.c (.int .i32 8218))), (1, 1, (.c (.int .i32 8218))), (2, 1, (.c (.int .u8 14)))]⟩,
  ⟨(some 65), none, .build [(.int .i32 0), (.int .i32 0), (.int .u8 0)] [(0, 1, (.c (.int .i32 8220))), (1, 1, (.c (.int .i32 8221))), (2, 1, (.c (.int .u8 16)))]⟩,
  ⟨(some 66), none, .build [(.int .i32 0), (.int .i32 0), (.int .u8 0)] [(0, 1, (.c (.int .i32 8222))), (1, 1, (.c (.int .i32 8222))), (2, 1, (.c (.int .u8 14)))]⟩,
  ⟨(some 67), none, .build [(.int .i32 0), (.int .i32 0), (.int .u8 0)] [(0, 1, (.c (.int .i32 8228))), (1, 1, (.c (.int .i32 8230))), (2, 1, (.c (.int .u8 21)))]⟩,
  ⟨(some 68), none, .build [(.int .i32 0), (.int .i32 0), (.int .u8 0)] [(0, 1, (.c (.int .i32 8232))), (1, 1, (.c (.int .i32 8233))), (2, 1, (.c (.int .u8 1)))]⟩,
  ⟨(some 69), none, .build [(.int .i32 0), (.int .i32 0), (.int .u8 0)] [(0, 1, (.c (.int .i32 8234))), (1, 1, (.c (.int .i32 8238))), (2, 1, (.c (.int .u8 9)))]⟩,
  ⟨(some 70), none, .build [(.int .i32 0), (.int .i32 0), (.int .u8 0)] [(0, 1, (.c (.int .i32 8239))), (1, 1, (.c (.int .i32 8239))), (2, 1, (.c (.int .u8 8)))]⟩,
  ⟨(some 71), none, .build [(.int .i32 0), (.int .i32 0), (.int .u8 0)] [(0, 1, (.c (.int .i32 8240))), (1, 1, (.c (.int .i32 8247))), (2, 1, (.c (.int .u8 24)))]⟩,
  ⟨(some 72), none, .build [(.int .i32 0), (.int .i32 0), (.int .u8 0)] [(0, 1, (.c (.int .i32 8249))), (1, 1, (.c (.int .i32 8250))), (2, 1, (.c (.int .u8 16)))]⟩,
  ⟨(some 73), none, .build [(.int .i32 0), (.int .i32 0), (.int .u8 0)] [(0, 1, (.c (.int .i32 8252))), (1, 1, (.c (.int .i32 8253))), (2, 1, (.c (.int .u8 19)))]⟩,
  ⟨(some 74), none, .build [(.int .i32 0), (.int .i32 0), (.int .u8 0)] [(0, 1, (.c (.int .i32 8260))), (1, 1, (.c (.int .i32 8260))), (2, 1, (.c (.int .u8 18)))]⟩,
  ⟨(some 75), none, .build [(.int .i32 0), (.int .i32 0), (.int .u8 0)] [(0, 1, (.c (.int .i32 8261))), (1, 1, (.c (.int .i32 8261))), (2, 1, (.c (.int .u8 14)))]⟩,
  ⟨(some 76), none, .build [(.int .i32 0), (.int .i32 0), (.int .u8 0)] [(0, 1, (.c (.int .i32 8262))), (1, 1, (.c (.int .i32 8262))), (2, 1, (.c (.int .u8 15)))]⟩,
  ⟨(some 77), none, .build [(.int .i32 0), (.int .i32 0), (.int .u8 0)] [(0, 1, (.c (.int .i32 8288))), (1, 1, (.c (.int .i32 8288))), (2, 1, (.c (.int .u8 7)))]⟩,
  ⟨(some 78), none, .build [(.int .i32 0), (.int .i32 0), (.int .u8 0)] [(0, 1, (.c (.int .i32 8352))), (1, 1, (.c (.int .i32 8399))), (2, 1, (.c (.int .u8 23)))]⟩,
  ⟨(some 79), none, .build [(.int .i32 0), (.int .i32 0), (.int .u8 0)] [(0, 1, (.c (.int .i32 8400))), (1, 1, (.c (.int .i32 8447))), (2, 1, (.c (.int .u8 9)))]⟩,
  ⟨(some 80), none, .build [(.int .i32 0), (.int .i32 0), (.int .u8 0)] [(0, 1, (.c (.int .i32 8451))), (1, 1, (.c (.int .i32 8451))), (2, 1, (.c (.int .u8 24)))]⟩,
  ⟨(some 81), none, .build [(.int .i32 0), (.int .i32 0), (.int .u8 0)] [(0, 1, (.c (.int .i32 8470))), (1, 1, (.c (.int .i32 8470))), (2, 1, (.c (.int .u8 23)))]⟩,
  ⟨(some 82), none, .build [(.int .i32 0), (.int .i32 0), (.int .u8 0)] [(0, 1, (.c (.int .i32 8722))), (1, 1, (.c (.int .i32 8723))), (2, 1, (.c (.int .u8 23)))]⟩,
  ⟨(some 83), none, .build [(.int .i32 0), (.int .i32 0), (.int .u8 0)] [(0, 1, (.c (.int .i32 11904))), (1, 1, (.c (.int .i32 12287))), (2, 1, (.c (.int .u8 25)))]⟩,
  ⟨(some 84), none, .build [(.int .i32 0), (.int .i32 0), (.int .u8 0)] [(0, 1, (.c (.int .i32 12288))), (1, 1, (.c (.int .i32 12288))), (2, 1, (.c (.int .u8 10)))]⟩,
  ⟨(some 85), none, .build [(.int .i32 0), (.int .i32 0), (.int .u8 0)] [(0, 1, (.c (.int .i32 12289))), (1, 1, (.c (.int .i32 12290))), (2, 1, (.c (.int .u8 15)))]⟩,
  ⟨(some 86), none, .build [(.int .i32 0), (.int .i32 0), (.int .u8 0)] [(0, 1, (.c (.int .i32 12291))), (1, 1, (.c (.int .i32 12292))), (2, 1, (.c (.int .u8 25)))]⟩,
  ⟨(some 87), none, .build [(.int .i32 0), (.int .i32 0), (.int .u8 0)] [(0, 1, (.c (.int .i32 12293))), (1, 1, (.c (.int .i32 12293))), (2, 1, (.c (.int .u8 19)))]⟩,
  ⟨(some 88), none, .build [(.int .i32 0), (.int .i32 0), (.int .u8 0)] [(0, 1, (.c (.int .i32 12294))), (1, 1, (.c (.int .i32 12295))), (2, 1, (.c (.int .u8 25)))]⟩,
  ⟨(some 89), none, .build [(.int .i32 0), (.int .i32 0), (.int .u8 0)] [(0, 1, (.c (.int .i32 12296))), (1, 1, (.c (.int .i32 12296))), (2, 1, (.c (.int .u8 14)))]⟩,
  ⟨(some 90), none, .build [(.int .i32 0), (.int .i32 0), (.int .u8 0)] [(0, 1, (.c (.int .i32 12297))), (1, 1, (.c (.int .i32 12297))), (2, 1, (.c (.int .u8 15)))]⟩,
  ⟨(some 91), none, .build [(.int .i32 0), (.int .i32 0), (.int .u8 0)] [(0, 1, (.c (.int .i32 12298))), (1, 1, (.c (.int .i32 12298))), (2, 1, (.c (.int .u8 14)))]⟩,
  ⟨(some 92), none, .build [(.int .i32 0), (.int .i32 0), (.int .u8 0)] [(0, 1, (.c (.int .i32 12299))), (1, 1, (.c (.int .i32 12299))), (2, 1, (.c (.int .u8 15)))]⟩,
  ⟨(some 93), none, .build [(.int .i32 0), (.int .i32 0), (.int .u8 0)] [(0, 1, (.c (.int .i32 12300))), (1, 1, (.c (.int .i32 12300))), (2, 1, (.c (.int .u8 14)))]⟩,
  ⟨(some 94), none, .build [(.int .i32 0), (.int .i32 0), (.int .u8 0)] [(0, 1, (.c (.int .i32 12301))), (1, 1, (.c (.int .i32 12301))), (2, 1, (.c (.int .u8 15)))]⟩,
  ⟨(some 95), none, .build [(.int .i32 0), (.int .i32 0), (.int .u8 0)] [(0, 1, (.c (.int .i32 12302))), (1, 1, (.c (.int .i32 12302))), (2, 1, (.c (.int .u8 14)))]⟩,
  ⟨(some 96), none, .build [(.int .i32 0), (.int .i32 0), (.int .u8 0)] [(0, 1, (.c (.int .i32 12303))), (1, 1, (.c (.int .i32 12303))), (2, 1, (.c (.int .u8 15)))]⟩,
  ⟨(some 97), none, .build [(.int .i32 0), (.int .i32 0), (.int .u8 0)] [(0, 1, (.c (.int .i32 12304))), (1, 1, (.c (.int .i32 12304))), (2, 1, (.c (.int .u8 14)))]⟩,
  ⟨(some 98), none, .build [(.int .i32 0), (.int .i32 0), (.int .u8 0)] [(0, 1, (.c (.int .i32 12305))), (1, 1, (.c (.int .i32 12305))), (2, 1, (.c (.int .u8 15)))]⟩,
  ⟨(some 99), none, .build [(.int .i32 0), (.int .i32 0), (.int .u8 0)] [(0, 1, (.c (.int .i32 12306))), (1, 1, (.c (.int .i32 12307))), (2, 1, (.c (.int .u8 25)))]⟩,
  ⟨(some 100), none, .build [(.int .i32 0), (.int .i32 0), (.int .u8 0)] [(0, 1, (.c (.int .i32 12308))), (1, 1, (.c (.int .i32 12308))), (2, 1, (.c (.int .u8 14)))]⟩,
  ⟨(some 101), none, .build [(.int .i32 0), (.int .i32 0), (.int .u8 0)] [(0, 1, (.c (.int .i32 12309))), (1, 1, (.c (.int .i32 12309))), (2, 1, (.c (.int .u8 15)))]⟩,
  ⟨(some 102), none, .build [(.int .i32 0), (.int .i32 0), (.int .u8 0)] [(0, 1, (.c (.int .i32 12310))), (1, 1, (.c (.int .i32 12310))), (2, 1, (.c (.int .u8 14)))]⟩,
  ⟨(some 103), none, .build [(.int .i32 0), (.int .i32 0), (.int .u8 0)] [(0, 1, (.c (.int .i32 12311))), (1, 1, (.c (.int .i32 12311))), (2, 1, (.c (.int .u8 15)))]⟩,
  ⟨(some 104), none, .build [(.int .i32 0), (.int .i32 0), (.int .u8 0)] [(0, 1, (.c (.int .i32 12312))), (1, 1, (.c (.int .i32 12312))), (2, 1, (.c (.int .u8 14)))]⟩,
  ⟨(some 105), none, .build [(.int .i32 0), (.int .i32 0), (.int .u8 0)] [(0, 1, (.c (.int .i32 12313))), (1, 1, (.c (.int .i32 12313))), (2, 1, (.c (.int .u8 15)))]⟩,
  ⟨(some 106), none, .build [(.int .i32 0), (.int .i32 0), (.int .u8 0)] [(0, 1, (.c (.int .i32 12314))), (1, 1, (.c (.int .i32 12314))), (2, 1, (.c (.int .u8 14)))]⟩,
  ⟨(some 107), none, .build [(.int .i32 0), (.int .i32 0), (.int .u8 0)] [(0, 1, (.c (.int .i32 12315))), (1, 1, (.c (.int .i32 12315))), (2, 1, (.c (.int .u8 15)))]⟩,
  ⟨(some 108), none, .build [(.int .i32 0), (.int .i32 0), (.int .u8 0)] [(0, 1, (.c (.int .i32 12316))), (1, 1, (.c (.int .i32 12316))), (2, 1, (.c (.int .u8 19)))]⟩,
  ⟨(some 109), none, .build [(.int .i32 0), (.int .i32 0), (.int .u8 0)] [(0, 1, (.c (.int .i32 12317))), (1, 1, (.c (.int .i32 12317))), (2, 1, (.c (.int .u8 14)))]⟩,
  ⟨(some 110), none, .build [(.int .i32 0), (.int .i32 0), (.int .u8 0)] [(0, 1, (.c (.int .i32 12318))), (1, 1, (.c (.int .i32 12319))), (2, 1, (.c (.int .u8 15)))]⟩,
  ⟨(some 111), none, .build [(.int .i32 0), (.int .i32 0), (.int .u8 0)] [(0, 1, (.c (.int .i32 12320))), (1, 1, (.c (.int .i32 12329))), (2, 1, (.c (.int .u8 25)))]⟩,
  ⟨(some 112), none, .build [(.int .i32 0), (.int .i32 0), (.int .u8 0)] [(0, 1, (.c (.int .i32 12330))), (1, 1, (.c (.int .i32 12335))), (2, 1, (.c (.int .u8 9)))]⟩,
  ⟨(some 113), none, .build [(.int .i32 0), (.int .i32 0), (.int .u8 0)] [(0, 1, (.c (.int .i32 12336))), (1, 1, (.c (.int .i32 12352))), (2, 1, (.c (.int .u8 25)))]⟩,
  ⟨(some 114), none, .build [(.int .i32 0), (.int .i32 0), (.int .u8 0)] [(0, 1, (.c (.int .i32 12353))), (1, 1, (.c (.int .i32 12353))), (2, 1, (.c (.int .u8 20)))]⟩,
  ⟨(some 115), none, .build [(.int .i32 0), (.int .i32 0), (.int .u8 0)] [(0, 1, (.c (.int .i32 12354))), (1, 1, (.c (.int .i32 12354))), (2, 1, (.c (.int .u8 25)))]⟩,
  ⟨(some 116), none, .build [(.int .i32 0), (.int .i32 0), (.int .u8 0)] [(0, 1, (.c (.int .i32 12355))), (1, 1, (.c (.int .i32 12355))), (2, 1, (.c (.int .u8 20)))]⟩,
  ⟨(some 117), none, .build [(.int .i32 0), (.int .i32 0), (.int .u8 0)] [(0, 1, (.c (.int .i32 12356))), (1, 1, (.c (.int .i32 12356))), (2, 1, (.c (.int .u8 25)))]⟩,
  ⟨(some 118), none, .build [(.int .i32 0), (.int .i32 0), (.int .u8 0)] [(0, 1, (.c (.int .i32 12357))), (1, 1, (.c (.int .i32 12357))), (2, 1, (.c (.int .u8 20)))]⟩,
  ⟨(some 119), none, .build [(.int .i32 0), (.int .i32 0), (.int .u8 0)] [(0, 1, (.c (.int .i32 12358))), (1, 1, (.c (.int .i32 12358))), (2, 1, (.c (.int .u8 25)))]⟩,
  ⟨(some 120), none, .build [(.int .i32 0), (.int .i32 0), (.int .u8 0)] [(0, 1, (.c (.int .i32 12359))), (1, 1, (.c (.int .i32 12359))), (2, 1, (.c (.int .u8 20)))]⟩,
  ⟨(some 121), none, .build [(.int .i32 0), (.int .i32 0), (.int .u8 0)] [(0, 1, (.c (.int .i32 12360))), (1, 1, (.c (.int .i32 12360))), (2, 1, (.c (.int .u8 25)))]⟩,
  ⟨(some 122), none, .build [(.int .i32 0), (.int .i32 0), (.int .u8 0)] [(0, 1, (.c (.int .i32 12361))), (1, 1, (.c (.int .i32 12361))), (2, 1, (.c (.int .u8 20)))]⟩,
  ⟨(some 123), none, .build [(.int .i32 0), (.int .i32 0), (.int .u8 0)] [(0, 1, (.c (.int .i32 12362))), (1, 1, (.c (.int .i32 12386))), (2, 1, (.c (.int .u8 25)))]⟩,
  ⟨(some 124), none, .build [(.int .i32 0), (.int .i32 0), (.int .u8 0)] [(0, 1, (.c (.int .i32 12387))), (1, 1, (.c (.int .i32 12387))), (2, 1, (.c (.int .u8 20)))]⟩,
  ⟨(some 125), none, .build [(.int .i32 0), (.int .i32 0), (.int .u8 0)] [(0, 1, (.c (.int .i32 12388))), (1, 1, (.c (.int .i32 12418))), (2, 1, (.c (.int .u8 25)))]⟩,
  ⟨(some 126), none, .build [(.int .i32 0), (.int .i32 0), (.int .u8 0)] [(0, 1, (.c (.int .i32 12419))), (1, 1, (.c (.int .i32 12419))), (2, 1, (.c (.int .u8 20)))]⟩,
  ⟨(some 127), none, .build [(.int .i32 0), (.int .i32 0), (.int .u8 0)] [(0, 1, (.c (.int .i32 12420))), (1, 1, (.c (.int .i32 12420))), (2, 1, (.c (.int .u8 25)))]⟩,
  ⟨(some 128), none, .build [(.int .i32 0), (.int .i32 0), (.int .u8 0)] [(0, 1, (.c (.int .i32 12421))), (1, 1, (.c (.int .i32 12421))), (2, 1, (.c (.int .u8 20)))]⟩,
  ⟨(some 129), none, .build [(.int .i32 0), (.int .i32 0), (.int .u8 0)] [(0, 1, (.c (.int .i32 12422))), (1, 1, (.c (.int .i32 12422))), (2, 1, (.c (.int .u8 25)))]⟩,
  ⟨(some 130), none, .build [(.int .i32 0), (.int .i32 0), (.int .u8 0)] [(0, 1, (.c (.int .i32 12423))), (1, 1, (.c (.int .i32 12423))), (2, 1, (.c (.int .u8 20)))]⟩,
  ⟨(some 131), none, .build [(.int .i32 0), (.int .i32 0), (.int .u8 0)] [(0, 1, (.c (.int .i32 12424))), (1, 1, (.c (.int .i32 12429))), (2, 1, (.c (.int .u8 25)))]⟩,
  ⟨(some 132), none, .build [(.int .i32 0), (.int .i32 0), (.int .u8 0)] [(0, 1, (.c (.int .i32 12430))), (1, 1, (.c (.int .i32 12430))), (2, 1, (.c (.int .u8 20)))]⟩,
  ⟨(some 133), none, .build [(.int .i32 0), (.int .i32 0), (.int .u8 0)] [(0, 1, (.c (.int .i32 12431))), (1, 1, (.c (.int .i32 12436))), (2, 1, (.c (.int .u8 25)))]⟩,
  ⟨(some 134), none, .build [(.int .i32 0), (.int .i32 0), (.int .u8 0)] [(0, 1, (.c (.int .i32 12437))), (1, 1, (.c (.int .i32 12438))), (2, 1, (.c (.int .u8 20)))]⟩,
  ⟨(some 135), none, .build [(.int .i32 0), (.int .i32 0), (.int .u8 0)] [(0, 1, (.c (.int .i32 12439))), (1, 1, (.c (.int .i32 12440))), (2, 1, (.c (.int .u8 25)))]⟩,
  ⟨(some 136), none, .build [(.int .i32 0), (.int .i32 0), (.int .u8 0)] [(0, 1, (.c (.int .i32 12441))), (1, 1, (.c (.int .i32 12442))), (2, 1, (.c (.int .u8 9)))]⟩,
  ⟨(some 137), none, .build [(.int .i32 0), (.int .i32 0), (.int .u8 0)] [(0, 1, (.c (.int .i32 12443))), (1, 1, (.c (.int .i32 12446))), (2, 1, (.c (.int .u8 19)))]⟩,
  ⟨(some 138), none, .build [(.int .i32 0), (.int .i32 0), (.int .u8 0)] [(0, 1, (.c (.int .i32 12447))), (1, 1, (.c (.int .i32 12447))), (2, 1, (.c (.int .u8 25)))]⟩,
  ⟨(some 139), none, .build [(.int .i32 0), (.int .i32 0), (.int .u8 0)] [(0, 1, (.c (.int .i32 12448))), (1, 1, (.c (.int .i32 12448))), (2, 1, (.c (.int .u8 19)))]⟩,
  ⟨(some 140), none, .build [(.int .i32 0), (.int .i32 0), (.int .u8 0)] [(0, 1, (.c (.int .i32 12449))), (1, 1, (.c (.int .i32 12449))), (2, 1, (.c (.int .u8 20)))]⟩,
  ⟨(some 141), none, .build [(.int .i32 0), (.int .i32 0), (.int .u8 0)] [(0, 1, (.c (.int .i32 12450))), (1, 1, (.c (.int .i32 12450))), (2, 1, (.c (.int .u8 25)))]⟩,
  ⟨(some 142), none, .build [(.int .i32 0), (.int .i32 0), (.int .u8 0)] [(0, 1, (.c (.int .i32 12451))), (1, 1, (.c (.int .i32 12451))), (2, 1, (.c (.int .u8 20)))]⟩,
  ⟨(some 143), none, .build [(.int .i32 0), (.int .i32 0), (.int .u8 0)] [(0, 1, (.c (.int .i32 12452))), (1, 1, (.c (.int .i32 12452))), (2, 1, (.c (.int .u8 25)))]⟩,
  ⟨(some 144), none, .build [(.int .i32 0), (.int .i32 0), (.int .u8 0)] [(0, 1, (.c (.int .i32 12453))), (1, 1, (.c (.int .i32 12453))), (2, 1, (.c (.int .u8 20)))]⟩,
  ⟨(some 145), none, .build [(.int .i32 0), (.int .i32 0), (.int .u8 0)] [(0, 1, (.c (.int .i32 12454))), (1, 1, (.c (.int .i32 12454))), (2, 1, (.c (.int .u8 25)))]⟩,
  ⟨(some 146), none, .build [(.int .i32 0), (.int .i32 0), (.int .u8 0)] [(0, 1, (.c (.int .i32 12455))), (1, 1, (.c (.int .i32 12455))), (2, 1, (.c (.int .u8 20)))]⟩,
  ⟨(some 147), none, .build [(.int .i32 0), (.int .i32 0), (.int .u8 0)] [(0, 1, (.c (.int .i32 12456))), (1, 1, (.c (.int .i32 12456))), (2, 1, (.c (.int .u8 25)))]⟩,
  ⟨(some 148), none, .build [(.int .i32 0), (.int .i32 0), (.int .u8 0)] [(0, 1, (.c (.int .i32 12457))), (1, 1, (.c (.int .i32 12457))), (2, 1, (.c (.int .u8 20)))]⟩,
  ⟨(some 149), none, .build [(.int .i32 0), (.int .i32 0), (.int .u8 0)] [(0, 1, (.c (.int .i32 12458))), (1, 1, (.c (.int .i32 12482))), (2, 1, (.c (.int .u8 25)))]⟩,
  ⟨(some 150), none, .build [(.int .i32 0), (.int .i32 0), (.int .u8 0)] [(0, 1, (.c (.int .i32 12483))), (1, 1, (.c (.int .i32 12483))), (2, 1, (.c (.int .u8 20)))]⟩,
  ⟨(some 151), none, .build [(.int .i32 0), (.int .i32 0), (.int .u8 0)] [(0, 1, (.c (.int .i32 12484))), (1, 1, (.c (.int .i32 12514))), (2, 1, (.c (.int .u8 25)))]⟩,
  ⟨(some 152), none, .build [(.int .i32 0), (.int .i32 0), (.int .u8 0)] [(0, 1, (.c (.int .i32 12515))), (1, 1, (.c (.int .i32 12515))), (2, 1, (.c (.int .u8 20)))]⟩,
  ⟨(some 153), none, .build [(.int .i32 0), (.int .i32 0), (.int .u8 0)] [(0, 1, (.c (.int .i32 12516))), (1, 1, (.c (.int .i32 12516))), (2, 1, (.c (.int .u8 25)))]⟩,
  ⟨(some 154), none, .build [(.int .i32 0), (.int .i32 0), (.int .u8 0)] [(0, 1, (.c (.int .i32 12517))), (1, 1, (.c (.int .i32 12517))), (2, 1, (.c (.int .u8 20)))]⟩,
  ⟨(some 155), none, .build [(.int .i32 0), (.int .i32 0), (.int .u8 0)] [(0, 1, (.c (.int .i32 12518))), (1, 1, (.c (.int .i32 12518))), (2, 1, (.c (.int .u8 25)))]⟩,
  ⟨(some 156), none, .build [(.int .i32 0), (.int .i32 0), (.int .u8 0)] [(0, 1, (.c (.int .i32 12519))), (1, 1, (.c (.int .i32 12519))), (2, 1, (.c (.int .u8 20)))]⟩,
  ⟨(some 157), none, .build [(.int .i32 0), (.int .i32 0), (.int .u8 0)] [(0, 1, (.c (.int .i32 12520))), (1, 1, (.c (.int .i32 12525))), (2, 1, (.c (.int .u8 25)))]⟩,
  ⟨(some 158), none, .build [(.int .i32 0), (.int .i32 0), (.int .u8 0)] [(0, 1, (.c (.int .i32 12526))), (1, 1, (.c (.int .i32 12526))), (2, 1, (.c (.int .u8 20)))]⟩,
  ⟨(some 159), none, .build [(.int .i32 0), (.int .i32 0), (.int .u8 0)] [(0, 1, (.c (.int .i32 12527))), (1, 1, (.c (.int .i32 12532))), (2, 1, (.c (.int .u8 25)))]⟩,
  ⟨(some 160), none, .build [(.int .i32 0), (.int .i32 0), (.int .u8 0)] [(0, 1, (.c (.int .i32 12533))), (1, 1, (.c (.int .i32 12534))), (2, 1, (.c (.int .u8 20)))]⟩,
  ⟨(some 161), none, .build [(.int .i32 0), (.int .i32 0), (.int .u8 0)] [(0, 1, (.c (.int .i32 12535))), (1, 1, (.c (.int .i32 12538))), (2, 1, (.c (.int .u8 25)))]⟩,
  ⟨(some 162), none, .build [(.int .i32 0), (.int .i32 0), (.int .u8 0)] [(0, 1, (.c (.int .i32 12539))), (1, 1, (.c (.int .i32 12539))), (2, 1, (.c (.int .u8 19)))]⟩,
  ⟨(some 163), none, .build [(.int .i32 0), (.int .i32 0), (.int .u8 0)] [(0, 1, (.c (.int .i32 12540))), (1, 1, (.c (.int .i32 12540))), (2, 1, (.c (.int .u8 20)))]⟩,
  ⟨(some 164), none, .build [(.int .i32 0), (.int .i32 0), (.int .u8 0)] [(0, 1, (.c (.int .i32 12541))), (1, 1, (.c (.int .i32 12542))), (2, 1, (.c (.int .u8 19)))]⟩,
  ⟨(some 165), none, .build [(.int .i32 0), (.int .i32 0), (.int .u8 0)] [(0, 1, (.c (.int .i32 12543))), (1, 1, (.c (.int .i32 19903))), (2, 1, (.c (.int .u8 25)))]⟩,
  ⟨(some 166), none, .build [(.int .i32 0), (.int .i32 0), (.int .u8 0)] [(0, 1, (.c (.int .i32 19968))), (1, 1, (.c (.int .i32 42191))), (2, 1, (.c (.int .u8 25)))]⟩,
  ⟨(some 167), none, .build [(.int .i32 0), (.int .i32 0), (.int .u8 0)] [(0, 1, (.c (.int .i32 44032))), (1, 1, (.c (.int .i32 55203))), (2, 1, (.c (.int .u8 25)))]⟩,
  ⟨(some 168), none, .build [(.int .i32 0), (.int .i32 0), (.int .u8 0)] [(0, 1, (.c (.int .i32 63744))), (1, 1, (.c (.int .i32 64255))), (2, 1, (.c (.int .u8 25)))]⟩,
  ⟨(some 169), none, .build [(.int .i32 0), (.int .i32 0), (.int .u8 0)] [(0, 1, (.c (.int .i32 65024))), (1, 1, (.c (.int .i32 65039))), (2, 1, (.c (.int .u8 9)))]⟩,
  ⟨(some 170), none, .build [(.int .i32 0), (.int .i32 0), (.int .u8 0)] [(0, 1, (.c (.int .i32 65056))), (1, 1, (.c (.int .i32 65071))), (2, 1, (.c (.int .u8 9)))]⟩,
  ⟨(some 171), none, .build [(.int .i32 0), (.int .i32 0), (.int .u8 0)] [(0, 1, (.c (.int .i32 65279))), (1, 1, (.c (.int .i32 65279))), (2, 1, (.c (.int .u8 7)))]⟩,
  ⟨(some 172), none, .build [(.int .i32 0), (.int .i32 0), (.int .u8 0)] [(0, 1, (.c (.int .i32 65281))), (1, 1, (.c (.int .i32 65281))), (2, 1, (.c (.int .u8 17)))]⟩,
  ⟨(some 173), none, .build [(.int .i32 0), (.int .i32 0), (.int .u8 0)] [(0, 1, (.c (.int .i32 65282))), (1, 1, (.c (.int .i32 65287))), (2, 1, (.c (.int .u8 25)))]⟩,
  ⟨(some 174), none, .build [(.int .i32 0), (.int .i32 0), (.int .u8 0)] [(0, 1, (.c (.int .i32 65288))), (1, 1, (.c (.int .i32 65288))), (2, 1, (.c (.int .u8 14)))]⟩,
  ⟨(some 175), none, .build [(.int .i32 0), (.int .i32 0), (.int .u8 0)] [(0, 1, (.c (.int .i32 65289))), (1, 1, (.c (.int .i32 65289))), (2, 1, (.c (.int .u8 15)))]⟩,
  ⟨(some 176), none, .build [(.int .i32 0), (.int .i32 0), (.int .u8 0)] [(0, 1, (.c (.int .i32 65290))), (1, 1, (.c (.int .i32 65291))), (2, 1, (.c (.int .u8 25)))]⟩,
  ⟨(some 177), none, .build [(.int .i32 0), (.int .i32 0), (.int .u8 0)] [(0, 1, (.c (.int .i32 65292))), (1, 1, (.c (.int .i32 65292))), (2, 1, (.c (.int .u8 15)))]⟩,
  ⟨(some 178), none, .build [(.int .i32 0), (.int .i32 0), (.int .u8 0)] [(0, 1, (.c (.int .i32 65293))), (1, 1, (.c (.int .i32 65293))), (2, 1, (.c (.int .u8 25)))]⟩,
  ⟨(some 179), none, .build [(.int .i32 0), (.int .i32 0), (.int .u8 0)] [(0, 1, (.c (.int .i32 65294))), (1, 1, (.c (.int .i32 65294))), (2, 1, (.c (.int .u8 15)))]⟩,
  ⟨(some 180), none, .build [(.int .i32 0), (.int .i32 0), (.int .u8 0)] [(0, 1, (.c (.int .i32 65295))), (1, 1, (.c (.int .i32 65305))), (2, 1, (.c (.int .u8 25)))]⟩,
  ⟨(some 181), none, .build [(.int .i32 0), (.int .i32 0), (.int .u8 0)] [(0, 1, (.c (.int .i32 65306))), (1, 1, (.c (.int .i32 65307))), (2, 1, (.c (.int .u8 19)))]⟩,
  ⟨(some 182), none, .build [(.int .i32 0), (.int .i32 0), (.int .u8 0)] [(0, 1, (.c (.int .i32 65308))), (1, 1, (.c (.int .i32 65310))), (2, 1, (.c (.int .u8 25)))]⟩,
  ⟨(some 183), none, .build [(.int .i32 0), (.int .i32 0), (.int .u8 0)] [(0, 1, (.c (.int .i32 65311))), (1, 1, (.c (.int .i32 65311))), (2, 1, (.c (.int .u8 17)))]⟩,
  ⟨(some 184), none, .build [(.int .i32 0), (.int .i32 0), (.int .u8 0)] [(0, 1, (.c (.int .i32 65312))), (1, 1, (.c (.int .i32 65376))), (2, 1, (.c (.int .u8 25)))]⟩,
  ⟨(some 185), none, .build [(.int .i32 0), (.int .i32 0), (.int .u8 0)] [(0, 1, (.c (.int .i32 65532))), (1, 1, (.c (.int .i32 65532))), (2, 1, (.c (.int .u8 26)))]⟩,
  ⟨(some 186), none, .build [(.int .i32 0), (.int .i32 0), (.int .u8 0)] [(0, 1, (.c (.int .i32 126976))), (1, 1, (.c (.int .i32 129791))), (2, 1, (.c (.int .u8 25)))]⟩,
  ⟨(some 187), none, .build [(.int .i32 0), (.int .i32 0), (.int .u8 0)] [(0, 1, (.c (.int .i32 131072))), (1, 1, (.c (.int .i32 262141))), (2, 1, (.c (.int .u8 25)))]⟩,
  ⟨(some 188), none, .build [(.int .i32 0), (.int .i32 0), (.int .u8 0)] [(0, 1, (.c (.int .i32 917505))), (1, 1, (.c (.int .i32 917999))), (2, 1, (.c (.int .u8 9)))]⟩,
  ⟨(some 189), none, .build [(.int .i32 0), (.int .i32 0), (.int .u8 0), (.int .i32 0), (.int .i32 0), (.int .u8 0), (.int .i32 0), (.int .i32 0), (.int .u8 0), (.int .i32 0), (.int .i32 0), (.int .u8 0), (.int .i32 0), (.int .i32 0), (.int .u8 0), (.int .i32 0), (.int .i32 0), (.int .u8 0), (.int .i32 0), (.int .i32 0), (.int .u8 0), (.int .i32 0), (.int .i32 0), (.int .u8 0), (.int .i32 0), (.int .i32 0), (.int .u8 0), (.int .i32 0), (.int .i32 0), (.int .u8 0), (.int .i32 0), (.int .i32 0), (.int .u8 0), (.int .i32 0), (.int .i32 0), (.int .u8 0), (.int .i32 0), (.int .i32 0), (.int .u8 0), (.int .i32 0), (.int .i32 0), (.int .u8 0), (.int .i32 0), (.int .i32 0), (.int .u8 0), (.int .i32 0), (.int .i32 0), (.int .u8 0), (.int .i32 0), (.int .i32 0), (.int .u8 0), (.int .i32 0), (.int .i32 0), (.int .u8 0), (.int .i32 0), (.int .i32 0), (.int .u8 0), (.int .i32 0), (.int .i32 0), (.int .u8 0), (.int .i32 0), (.int .i32 0), (.int .u8 0), (.int .i32 0), (.int .i32 0), (.int .u8 0), (.int .i32 0), (.int .i32 0), (.int .u8 0), (.int .i32 0), (.int .i32 0), (.int .u8 0), (.int .i32 0), (.int .i32 0), (.int .u8 0), (.int .i32 0), (.int .i32 0), (.int .u8 0), (.int .i32 0), (.int .i32 0), (.int .u8 0), (.int .i32 0), (.int .i32 0), (.int .u8 0), (.int .i32 0), (.int .i32 0), (.int .u8 0), (.int .i32 0), (.int .i32 0), (.int .u8 0), (.int .i32 0), (.int .i32 0), (.int .u8 0), (.int .i32 0), (.int .i32 0), (.int .u8 0), (.int .i32 0), (.int .i32 0), (.int .u8 0), (.int .i32 0), (.int .i32 0), (.int .u8 0), (.int .i32 0), (.int .i32 0), (.int .u8 0), (.int .i32 0), (.int .i32 0), (.int .u8 0), (.int .i32 0), (.int .i32 0), (.int .u8 0), (.int .i32 0), (.int .i32 0), (.int .u8 0), (.int .i32 0), (.int .i32 0), (.int .u8 0), (.int .i32 0), (.int .i32 0), (.int .u8 0), (.int .i32 0), (.int .i32 0), (.int .u8 0), (.int .i32 0), (.int .i32 0), (.int .u8 0), (.int .i32 0), (.int .i32 0), (.int .u8 0), (.int .i32 0), (.int .i32 0), (.int .u8 0), (.int .i32 0), (.int .i32 0), (.int .u8 0), (.int .i32 0), (.int .i32 0), (.int .u8 0), (.int .i32 0), (.int .i32 0), (.int .u8 0), (.int .i32 0), (.int .i32 0), (.int .u8 0), (.int .i32 0), (.int .i32 0), (.int .u8 0), (.int .i32 0), (.int .i32 0), (.int .u8 0), (.int .i32 0), (.int .i32 0), (.int .u8 0), (.int .i32 0), (.int .i32 0), (.int .u8 0), (.int .i32 0), (.int .i32 0), (.int .u8 0), (.int .i32 0), (.int .i32 0), (.int .u8 0), (.int .i32 0), (.int .i32 0), (.int .u8 0), (.int .i32 0), (.int .i32 0), (.int .u8 0), (.int .i32 0), (.int .i32 0), (.int .u8 0), (.int .i32 0), (.int .i32 0), (.int .u8 0), (.int .i32 0), (.int .i32 0), (.int .u8 0), (.int .i32 0), (.int .i32 0), (.int .u8 0), (.int .i32 0), (.int .i32 0), (.int .u8 0), (.int .i32 0), (.int .i32 0), (.int .u8 0), (.int .i32 0), (.int .i32 0), (.int .u8 0), (.int .i32 0), (.int .i32 0), (.int .u8 0), (.int .i32 0), (.int .i32 0), (.int .u8 0), (.int .i32 0), (.int .i32 0), (.int .u8 0), (.int .i32 0), (.int .i32 0), (.int .u8 0), (.int .i32 0), (.int .i32 0), (.int .u8 0), (.int .i32 0), (.int .i32 0), (.int .u8 0), (.int .i32 0), (.int .i32 0), (.int .u8 0), (.int .i32 0), (.int .i32 0), (.int .u8 0), (.int .i32 0), (.int .i32 0), (.int .u8 0), (.int .i32 0), (.int .i32 0), (.int .u8 0), (.int .i32 0), (.int .i32 0), (.int .u8 0), (.int .i32 0), (.int .i32 0), (.int .u8 0), (.int .i32 0), (.int .i32 0), (.int .u8 0), (.int .i32 0), (.int .i32 0), (.int .u8 0), (.int .i32 0), (.int .i32 0), (.int .u8 0), (.int .i32 0), (.int .i32 0), (.int .u8 0), (.int .i32 0), (.int .i32 0), (.int .u8 0), (.int .i32 0), (.int .i32 0), (.int .u8 0), (.int .i32 0), (.int .i32 0), (.int .u8 0), (.int .i32 0), (.int .i32 0), (.int .u8 0), (.int .i32 0), (.int .i32 0), (.int .u8 0), (.int .i32 0), (.int .i32 0), (.int .u8 0), (.int .i32 0), (.int .i32 0), (.int .u8 0), (.int .i32 0), (.int .i32 0), (.int .u8 0), (.int .i32 0), (.int .i32 0), (.int .u8 0), (.int .i32 0), (.int .i32 0), (.int .u8 0), (.int .i32 0), (.int .i32 0), (.int .u8 0), (.int .i32 0), (.int .i32 0), (.int .u8 0), (.int .i32 0), (.int .i32 0), (.int .u8 0), (.int .i32 0), (.int .i32 0), (.int .u8 0), (.int .i32 0), (.int .i32 0), (.int .u8 0), (.int .i32 0), (.int .i32 0), (.int .u8 0), (.int .i32 0), (.int .i32 0), (.int .u8 0), (.int .i32 0), (.int .i32 0), (.int .u8 0), (.int .i32 0), (.int .i32 0), (.int .u8 0), (.int .i32 0), (.int .i32 0), (.int .u8 0), (.int .i32 0), (.int .i32 0), (.int .u8 0), (.int .i32 0), (.int .i32 0), (.int .u8 0), (.int .i32 0), (.int .i32 0), (.int .u8 0), (.int .i32 0), (.int .i32 0), (.int .u8 0), (.int .i32 0), (.int .i32 0), (.int .u8 0), (.int .i32 0), (.int .i32 0), (.int .u8 0), (.int .i32 0), (.int .i32 0), (.int .u8 0), (.int .i32 0), (.int .i32 0), (.int .u8 0), (.int .i32 0), (.int .i32 0), (.int .u8 0), (.int .i32 0), (.int .i32 0), (.int .u8 0), (.int .i32 0), (.int .i32 0), (.int .u8 0), (.int .i32 0), (.int .i32 0), (.int .u8 0), (.int .i32 0), (.int .i32 0), (.int .u8 0), (.int .i32 0), (.int .i32 0), (.int .u8 0), (.int .i32 0), (.int .i32 0), (.int .u8 0), (.int .i32 0), (.int .i32 0), (.int .u8 0), (.int .i32 0), (.int .i32 0), (.int .u8 0), (.int .i32 0), (.int .i32 0), (.int .u8 0), (.int .i32 0), (.int .i32 0), (.int .u8 0), (.int .i32 0), (.int .i32 0), (.int .u8 0), (.int .i32 0), (.int .i32 0), (.int .u8 0), (.int .i32 0), (.int .i32 0), (.int .u8 0), (.int .i32 0), (.int .i32 0), (.int .u8 0), (.int .i32 0), (.int .i32 0), (.int .u8 0), (.int .i32 0), (.int .i32 0), (.int .u8 0), (.int .i32 0), (.int .i32 0), (.int .u8 0), (.int .i32 0), (.int .i32 0), (.int .u8 0), (.int .i32 0), (.int .i32 0), (.int .u8 0), (.int .i32 0), (.int .i32 0), (.int .u8 0), (.int .i32 0), (.int .i32 0), (.int .u8 0), (.int .i32 0), (.int .i32 0), (.int .u8 0), (.int .i32 0), (.int .i32 0), (.int .u8 0), (.int .i32 0), (.int .i32 0), (.int .u8 0), (.int .i32 0), (.int .i32 0), (.int .u8 0), (.int .i32 0), (.int .i32 0), (.int .u8 0), (.int .i32 0), (.int .i32 0), (.int .u8 0), (.int .i32 0), (.int .i32 0), (.int .u8 0), (.int .i32 0), (.int .i32 0), (.int .u8 0), (.int .i32 0), (.int .i32 0), (.int .u8 0), (.int .i32 0), (.int .i32 0), (.int .u8 0), (.int .i32 0), (.int .i32 0), (.int .u8 0), (.int .i32 0), (.int .i32 0), (.int .u8 0), (.int .i32 0), (.int .i32 0), (.int .u8 0), (.int .i32 0), (.int .i32 0), (.int .u8 0), (.int .i32 0), (.int .i32 0), (.int .u8 0), (.int .i32 0), (.int .i32 0), (.int .u8 0), (.int .i32 0), (.int .i32 0), (.int .u8 0), (.int .i32 0), (.int .i32 0), (.int .u8 0), (.int .i32 0), (.int .i32 0), (.int .u8 0), (.int .i32 0), (.int .i32 0), (.int .u8 0), (.int .i32 0), (.int .i32 0), (.int .u8 0), (.int .i32 0), (.int .i32 0), (.int .u8 0), (.int .i32 0), (.int .i32 0), (.int .u8 0), (.int .i32 0), (.int .i32 0), (.int .u8 0), (.int .i32 0), (.int .i32 0), (.int .u8 0), (.int .i32 0), (.int .i32 0), (.int .u8 0), (.int .i32 0), (.int .i32 0), (.int .u8 0), (.int .i32 0), (.int .i32 0), (.int .u8 0), (.int .i32 0), (.int .i32 0), (.int .u8 0), (.int .i32 0), (.int .i32 0), (.int .u8 0), (.int .i32 0), (.int .i32 0), (.int .u8 0), (.int .i32 0), (.int .i32 0), (.int .u8 0), (.int .i32 0), (.int .i32 0), (.int .u8 0), (.int .i32 0), (.int .i32 0), (.int .u8 0), (.int .i32 0), (.int .i32 0), (.int .u8 0), (.int .i32 0), (.int .i32 0), (.int .u8 0), (.int .i32 0), (.int .i32 0), (.int .u8 0), (.int .i32 0), (.int .i32 0), (.int .u8 0), (.int .i32 0), (.int .i32 0), (.int .u8 0), (.int .i32 0), (.int .i32 0), (.int .u8 0), (.int .i32 0), (.int .i32 0), (.int .u8 0), (.int .i32 0), (.int .i32 0), (.int .u8 0), (.int .i32 0), (.int .i32 0), (.int .u8 0), (.int .i32 0), (.int .i32 0), (.int .u8 0), (.int .i32 0), (.int .i32 0), (.int .u8 0), (.int .i32 0), (.int .i32 0), (.int .u8 0), (.int .i32 0), (.int .i32 0), (.int .u8 0), (.int .i32 0), (.int .i32 0), (.int .u8 0), (.int .i32 0), (.int .i32 0), (.int .u8 0), (.int .i32 0), (.int .i32 0), (.int .u8 0), (.int .i32 0), (.int .i32 0), (.int .u8 0), (.int .i32 0), (.int .i32 0), (.int .u8 0), (.int .i32 0), (.int .i32 0), (.int .u8 0), (.int .i32 0), (.int .i32 0), (.int .u8 0), (.int .i32 0), (.int .i32 0), (.int .u8 0), (.int .i32 0), (.int .i32 0), (.int .u8 0), (.int .i32 0), (.int .i32 0), (.int .u8 0), (.int .i32 0), (.int .i32 0), (.int .u8 0), (.int .i32 0), (.int .i32 0), (.int .u8 0)] [(0, 3, (.t 1)), (3, 3, (.t 2)), (6, 3, (.t 3)), (9, 3, (.t 4)), (12, 3, (.t 5)), (15, 3, (.t 6)), (18, 3, (.t 7)), (21, 3, (.t 8)), (24, 3, (.t 9)), (27, 3, (.t 10)), (30, 3, (.t 11)), (33, 3, (.t 12)), (36, 3, (.t 13)), (39, 3, (.t 14)), (42, 3, (.t 15)), (45, 3, (.t 16)), (48, 3, (.t 17)), (51, 3, (.t 18)), (54, 3, (.t 19)), (57, 3, (.t 20)), (60, 3, (.t 21)), (63, 3, (.t 22)), (66, 3, (.t 23)), (69, 3, (.t 24)), (72, 3, (.t 25)), (75, 3, (.t 26)), (78, 3, (.t 27)), (81, 3, (.t 28)), (84, 3, (.t 29)), (87, 3, (.t 30)), (90, 3, (.t 31)), (93, 3, (.t 32)), (96, 3, (.t 33)), (99, 3, (.t 34)), (102, 3, (.t 35)), (105, 3, (.t 36)), (108, 3, (.t 37)), (111, 3, (.t 38)), (114, 3, (.t 39)), (117, 3, (.t 40)), (120, 3, (.t 41)), (123, 3, (.t 42)), (126, 3, (.t 43)), (129, 3, (.t 44)), (132, 3, (.t 45)), (135, 3, (.t 46)), (138, 3, (.t 47)), (141, 3, (.t 48)), (144, 3, (.t 49)), (147, 3, (.t 50)), (150, 3, (.t 51)), (153, 3, (.t 52)), (156, 3, (.t 53)), (159, 3, (.t 54)), (162, 3, (.t 55)), (165, 3, (.t 56)), (168, 3, (.t 57)), (171, 3, (.t 58)), (174, 3, (.t 59)), (177, 3, (.t 60)), (180, 3, (.t 61)), (183, 3, (.t 62)), (186, 3, (.t 63)), (189, 3, (.t 64)), (192, 3, (.t 65)), (195, 3, (.t 66)), (198, 3, (.t 67)), (201, 3, (.t 68)), (204, 3, (.t 69)), (207, 3, (.t 70)), (210, 3, (.t 71)), (213, 3, (.t 72)), (216, 3, (.t 73)), (219, 3, (.t 74)), (222, 3, (.t 75)), (225, 3, (.t 76)), (228, 3, (.t 77)), (231, 3, (.t 78)), (234, 3, (.t 79)), (237, 3, (.t 80)), (240, 3, (.t 81)), (243, 3, (.t 82)), (246, 3, (.t 83)), (249, 3, (.t 84)), (252, 3, (.t 85)), (255, 3, (.t 86)), (258, 3, (.t 87)), (261, 3, (.t 88)), (264, 3, (.t 89)), (267, 3, (.t 90)), (270, 3, (.t 91)), (273, 3, (.t 92)), (276, 3, (.t 93)), (279, 3, (.t 94)), (282, 3, (.t 95)), (285, 3, (.t 96)), (288, 3, (.t 97)), (291, 3, (.t 98)), (294, 3, (.t 99)), (297, 3, (.t 100)), (300, 3, (.t 101)), (303, 3, (.t 102)), (306, 3, (.t 103)), (309, 3, (.t 104)), (312, 3, (.t 105)), (315, 3, (.t 106)), (318, 3, (.t 107)), (321, 3, (.t 108)), (324, 3, (.t 109)), (327, 3, (.t 110)), (330, 3, (.t 111)), (333, 3, (.t 112)), (336, 3, (.t 113)), (339, 3, (.t 114)), (342, 3, (.t 115)), (345, 3, (.t 116)), (348, 3, (.t 117)), (351, 3, (.t 118)), (354, 3, (.t 119)), (357, 3, (.t 120)), (360, 3, (.t 121)), (363, 3, (.t 122)), (366, 3, (.t 123)), (369, 3, (.t 124)), (372, 3, (.t 125)), (375, 3, (.t 126)), (378, 3, (.t 127)), (381, 3, (.t 128)), (384, 3, (.t 129)), (387, 3, (.t 130)), (390, 3, (.t 131)), (393, 3, (.t 132)), (396, 3, (.t 133)), (399, 3, (.t 134)), (402, 3, (.t 135)), (405, 3, (.t 136)), (408, 3, (.t 137)), (411, 3, (.t 138)), (414, 3, (.t 139)), (417, 3, (.t 140)), (420, 3, (.t 141)), (423, 3, (.t 142)), (426, 3, (.t 143)), (429, 3, (.t 144)), (432, 3, (.t 145)), (435, 3, (.t 146)), (438, 3, (.t 147)), (441, 3, (.t 148)), (444, 3, (.t 149)), (447, 3, (.t 150)), (450, 3, (.t 151)), (453, 3, (.t 152)), (456, 3, (.t 153)), (459, 3, (.t 154)), (462, 3, (.t 155)), (465, 3, (.t 156)), (468, 3, (.t 157)), (471, 3, (.t 158)), (474, 3, (.t 159)), (477, 3, (.t 160)), (480, 3, (.t 161)), (483, 3, (.t 162)), (486, 3, (.t 163)), (489, 3, (.t 164)), (492, 3, (.t 165)), (495, 3, (.t 166)), (498, 3, (.t 167)), (501, 3, (.t 168)), (504, 3, (.t 169)), (507, 3, (.t 170)), (510, 3, (.t 171)), (513, 3, (.t 172)), (516, 3, (.t 173)), (519, 3, (.t 174)), (522, 3, (.t 175)), (525, 3, (.t 176)), (528, 3, (.t 177)), (531, 3, (.t 178)), (534, 3, (.t 179)), (537, 3, (.t 180)), (540, 3, (.t 181)), (543, 3, (.t 182)), (546, 3, (.t 183)), (549, 3, (.t 184)), (552, 3, (.t 185)), (555, 3, (.t 186)), (558, 3, (.t 187)), (561, 3, (.t 188))]⟩,
  ⟨none, none, .store 564 (.t 0) (.t 189)⟩]) .ret))
def i_class_spans : IFn := ⟨3, 190, [.cell 0 (some 564)], c_class_spans⟩
/-- sort.Search: 2 parameters, 0 captured -/
def sort_Search_b0 : IC := (.seq (.seq (.reg false [⟨(some 9), none, .mv (.t 5)⟩,
  ⟨(some 10), none, .mv (.t 6)⟩,
  ⟨(some 11), none, .bin .lss (.t 9) (.t 10)⟩]) (.cond (.t 11) .skip (.exit 0))) (.block 1 (.seq (.reg false [⟨(some 12), none, .mv (.t 5)⟩,
  ⟨(some 13), none, .mv (.t 6)⟩,
  ⟨(some 14), none, .bin .add (.t 12) (.t 13)⟩,
  ⟨(some 15), none, .conv .u64 (.t 14)⟩,
  ⟨(some 16), none, .bin .shr (.t 15) (.c (.int .u64 1))⟩,
  ⟨(some 17), none, .conv .i64 (.t 16)⟩,
  ⟨(some 7), none, .mv (.t 17)⟩]) (.seq (.reg false [⟨(some 18), none, .mv (.t 1)⟩,
  ⟨(some 19), none, .mv (.t 7)⟩,
  ⟨(some 20), none, .call (.t 18) [(.t 19)]⟩,
  ⟨(some 21), none, .un .not (.t 20)⟩]) (.cond (.t 21) (.reg false [⟨(some 22), none, .mv (.t 7)⟩,
  ⟨(some 23), none, .bin .add (.t 22) (.c (.int .i64 1))⟩,
  ⟨(some 5), none, .mv (.t 23)⟩]) (.reg false [⟨(some 24), none, .mv (.t 7)⟩,
  ⟨(some 6), none, .mv (.t 24)⟩]))))))
def c_sort_Search : IC := (.seq (.reg false [⟨(some 4), none, .mv (.c (.int .i64 0))⟩]) (.seq (.reg false [⟨(some 8), none, .mv (.t 0)⟩,
  ⟨(some 5), none, .mv (.c (.int .i64 0))⟩,
  ⟨(some 6), none, .mv (.t 8)⟩]) (.seq (.block 0 (.loop (lv [1, 5, 6] 26) sort_Search_b0)) (.seq (.reg false [⟨(some 25), none, .mv (.t 5)⟩,
  ⟨(some 4), none, .mv (.t 25)⟩]) .ret))))
def i_sort_Search : IFn := ⟨3, 26, [.tmp 4], c_sort_Search⟩
/-- stickful/class.Of$1: 1 parameters, 2 captured -/
def c_class_Of_1 : IC := (.seq (.reg false [⟨(some 4), none, .mv (.c (.bool false))⟩]) (.seq (.reg true [⟨(some 5), none, .mv (.t 0)⟩,
  ⟨(some 6), none, .iaddra 188 3 (.t 1) (.t 5)⟩,
  ⟨(some 7), none, .faddr 1 (.t 6)⟩,
  ⟨(some 8), none, .load none (.t 7)⟩,
  ⟨(some 9), none, .load none (.t 2)⟩,
  ⟨(some 10), none, .bin .geq (.t 8) (.t 9)⟩,
  ⟨(some 4), none, .mv (.t 10)⟩]) .ret))
def i_class_Of_1 : IFn := ⟨3, 11, [.tmp 4], c_class_Of_1⟩

end Go.Proofs.Ytnekgoanadbmmaa
