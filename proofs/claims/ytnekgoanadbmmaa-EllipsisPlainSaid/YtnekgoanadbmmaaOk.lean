/-
The program's text in Mini is what the program has.
-/
import Derived.Test.YtnekgoanadbmmaaOk0
import Derived.Test.YtnekgoanadbmmaaOk1
import Derived.Test.YtnekgoanadbmmaaOk2
import Derived.Test.YtnekgoanadbmmaaOk3
namespace Go.Proofs.Ytnekgoanadbmmaa
open Go.Mini

theorem all_ok : AllOk Try.prog pm fns :=
  ⟨ok_law26_EllipsisPlain,
  ok_law26_EllipsisFits,
  ok_law26_head,
  ok_ellipsis_Cut,
  ok_tabs_Pens,
  ok_trim_Roles,
  ok_law26_great,
  ok_trim_Fits,
  ok_trim_Goes,
  ok_ellipsis_Whole,
  ok_ellipsis_Places,
  ok_law26_is,
  ok_ellipsis_within,
  ok_ellipsis_first,
  ok_ellipsis_back,
  ok_ellipsis_Cut_1,
  ok_unit_Sum,
  ok_tabs_pens,
  ok_trim_Roles_1,
  ok_trim_Roles_2,
  ok_trim_edge,
  ok_trim_from,
  ok_trim_Roles_3,
  ok_tabs_End,
  ok_class_Mark,
  ok_slices_Collect_int,
  ok_slices_Reverse_int,
  ok_law26_cuts,
  ok_ellipsis_back_1,
  ok_unit_fit,
  ok_tabs_pens_1,
  ok_tabs_role,
  ok_tabs_Step,
  ok_trim_from_1,
  ok_class_Of,
  ok_slices_AppendSeq_int,
  ok_unit_Stop,
  ok_class_spans,
  ok_sort_Search,
  ok_class_Of_1, trivial⟩

theorem prims_ok : ∀ f p, prims f = some p → ∀ (E : Env) args args' v (w : World), Vs E args args' → p args = some v → ∃ r, (callFunc f args'.toArray).run Try.prog w = .ok (.value r) w ∧ V E v r := by
  intro f p hp
  unfold prims at hp
  by_cases e : f = f_bits_Add64
  · subst e
    simp only [Nat.beq_refl, cond_true, Option.some.injEq] at hp
    subst hp
    exact add64_ok Try.func103 (by kernel_rfl) (by kernel_rfl) (by kernel_rfl) (by kernel_rfl)
  · rw [nbeq e] at hp; cases hp

theorem prims_rdr : ∀ f p, prims f = some p → pm (f + 1048576) = false ∧ pm (f + 2097152) = false := by
  intro f p hp
  unfold prims at hp
  by_cases e : f = f_bits_Add64
  · subst e; exact ⟨by kernel_rfl, by kernel_rfl⟩
  · rw [nbeq e] at hp; cases hp

theorem ip_ok : ProgOk Try.prog pm ip := progOk_of (by kernel_rfl) all_ok prims_ok (by kernel_rfl) (by kernel_rfl) prims_rdr (by kernel_rfl)

end Go.Proofs.Ytnekgoanadbmmaa
