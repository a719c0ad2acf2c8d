/-
The program's text in Mini is what the program has.
-/
import Derived.Test.YtnekgoanadbmmaaOk0
import Derived.Test.YtnekgoanadbmmaaOk1
import Derived.Test.YtnekgoanadbmmaaOk2
import Derived.Test.YtnekgoanadbmmaaOk3
namespace Go.Proofs.Ytnekgoanadbmmaa
open Go.Mini

theorem all_ok : AllOk Try.prog pm fns :=
  ⟨ok_law15_FirstLines,
  ok_law15_FirstCells,
  ok_law15_FirstWide,
  ok_law15_FirstSame,
  ok_tabs_Pens,
  ok_trim_Roles,
  ok_trim_Fits,
  ok_trim_Goes,
  ok_law15_great,
  ok_law15_head,
  ok_first_Lines,
  ok_ref15_Lines,
  ok_ref14_Same,
  ok_first_Alike,
  ok_ref15_Alike,
  ok_first_Cells,
  ok_ref15_Cells,
  ok_ref11_Same,
  ok_fill_Lines,
  ok_fill_One,
  ok_unit_Sum,
  ok_tabs_pens,
  ok_trim_Roles_1,
  ok_trim_Roles_2,
  ok_trim_edge,
  ok_trim_from,
  ok_trim_Roles_3,
  ok_tabs_End,
  ok_law15_three,
  ok_law15_lines,
  ok_fill_Ends,
  ok_first_lines,
  ok_ref14_May,
  ok_ref14_One,
  ok_ref14_Lines,
  ok_slices_EqualFunc_api_Cell,
  ok_first_Alike_1,
  ok_slices_Clone_api_Cell,
  ok_fill_One_1,
  ok_fill_reach,
  ok_fill_last,
  ok_unit_fit,
  ok_tabs_pens_1,
  ok_tabs_role,
  ok_tabs_Step,
  ok_trim_from_1,
  ok_fill_may,
  ok_fill_list,
  ok_fill_ends,
  ok_fill_soft,
  ok_fill_emergency,
  ok_first_lines_1,
  ok_ref14_Ends,
  ok_ref14_run,
  ok_ref14_ahead,
  ok_ref14_Last,
  ok_unit_Stop,
  ok_fill_ends_1,
  ok_trim_Blank,
  ok_ref13_Blank,
  ok_ref14_Fits,
  ok_ref13_edge,
  ok_ref13_Role,
  ok_ref13_Fits,
  ok_ref13_just,
  ok_ref13_Roles,
  ok_ref12_End,
  ok_ref12_Pens,
  ok_ref12_fits,
  ok_ref12_Step,
  ok_ref01_Sum,
  ok_ref01_Stop,
  ok_ref01_fits, trivial⟩

theorem prims_ok : ∀ f p, prims f = some p → ∀ (E : Env) args args' v (w : World), Vs E args args' → p args = some v → ∃ r, (callFunc f args'.toArray).run Try.prog w = .ok (.value r) w ∧ V E v r := by
  intro f p hp
  unfold prims at hp
  by_cases e : f = f_bits_Add64
  · subst e
    simp only [Nat.beq_refl, cond_true, Option.some.injEq] at hp
    subst hp
    exact add64_ok Try.func103 (by kernel_rfl) (by kernel_rfl) (by kernel_rfl) (by kernel_rfl)
  · rw [nbeq e] at hp; cases hp

theorem prims_rdr : ∀ f p, prims f = some p → pm (f + 1048576) = false ∧ pm (f + 2097152) = false := by
  intro f p hp
  unfold prims at hp
  by_cases e : f = f_bits_Add64
  · subst e; exact ⟨by kernel_rfl, by kernel_rfl⟩
  · rw [nbeq e] at hp; cases hp

theorem ip_ok : ProgOk Try.prog pm ip := progOk_of (by kernel_rfl) all_ok prims_ok (by kernel_rfl) (by kernel_rfl) prims_rdr (by kernel_rfl)

end Go.Proofs.Ytnekgoanadbmmaa
