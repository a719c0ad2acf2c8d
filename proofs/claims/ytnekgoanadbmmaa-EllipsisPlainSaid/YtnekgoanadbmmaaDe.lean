/-
The row EllipsisPlain, proved.
-/
import Derived.Test.YtnekgoanadbmmaaRows
import Derived.Test.YtnekgoanadbmmaaDa
import Derived.Test.YtnekgoanadbmmaaDc
import Derived.ProofKit
namespace Go.Proofs.Ytnekgoanadbmmaa
open Go.Mini Go.ChangeShapes Go.WideShapes Go.ChangeAt Go.RowKit
set_option maxRecDepth 100000

set_option maxHeartbeats 800000 in
theorem ellipsisPlain_lifted (os : Os) (started : os.Started) (H : Type) (enc : TypeId × Value → H) :
    ReturnsInHanded {} Try.checked os 3 .any (Rows.ellipsisPlainSpec.pre6 enc Try.prog Try.f3 Rows.ellipsisPlainRow.domain false) (Rows.ellipsisPlainSpec.post enc Try.prog Try.f3 false true false false) := by
  refine returnsInHanded_of_change (C := Try.checked) own started (by kernel_rfl) Try.func3
    (ChangeSpec.witness6 (enc := enc) (C := Try.checked) false ⟨#[], #[.slice none 0 0, .agg #[.int .i64 0, .int .i64 0]], []⟩ 8 (by kernel_rfl) (by kernel_rfl) (by kernel_rfl) (by kernel_rfl)) ?_
  intro W base args ds gs before hval0 hW _ _
  have hval : ∀ (j : Nat) t v, Try.f3.params[j]? = some t → args[j]? = some v → Value.okWide Try.prog W .any base t v := hval0
  have hW' := hW
  obtain ⟨p, q, hA0, hV, rfl, _, _⟩ := hW
  have hA : DataW.TrodAll enc Try.prog W 0 (fun _ => true) true Try.f3.params.toList args.toList ds p := hA0
  rw [Try.params3] at hA hval
  obtain ⟨v0, v1, d0, d1, p0, p1, rfl, rfl, rfl, h0, h1⟩ := trodAll_two hA
  obtain ⟨rfl, rfl⟩ := trodVars_none hV
  obtain ⟨l, x, hx, hVx, hok, hlen⟩ := open_cells (hval 0 22 v0 rfl rfl) h0
  obtain ⟨r, rfl, _, hrs⟩ := open_room (hval 1 24 v1 rfl rfl) h1
  clear hA0 hval0
  simp only [List.append_nil] at hW'
  have hlt : ∀ x ∈ p0 ++ p1, x.block < W.heap.size := fun x hx => by simpa using hW'.lt x hx
  have hcalls := law_calls ip_ok (f := f_law26_EllipsisPlain) (args := [x, .agg r.mv]) (w := W) rfl
    (law_EllipsisPlain head26 hx (by unfold maxLen at hlen; omega) hok hrs ⟨rfl, rfl, rfl⟩) (.cons hVx (.cons room_vs .nil))
  refine Calls.mono (f := 3) hcalls fun e W' he => ?_
  obtain ⟨he, hBelow⟩ := he
  subst he
  have harg0 : DataW.Trod enc Try.prog W' 0 (fun b => decide (b < W.heap.size)) true 22 v0 d0 p0 :=
    Below.trod laidOut (by kernel_rfl) (of_decide_eq_true (by kernel_rfl)) h0 hBelow (fun x hx => hlt x (List.mem_append.2 (.inl hx)))
  have harg1 : DataW.Trod enc Try.prog W' 0 (fun b => decide (b < W.heap.size)) true 24 (.agg #[.int .i64 r.width, .int .i64 r.start]) d1 p1 :=
    Below.trod laidOut (by kernel_rfl) (of_decide_eq_true (by kernel_rfl)) h1 hBelow (fun x hx => hlt x (List.mem_append.2 (.inr hx)))
  refine ⟨_, rfl, _, _, _, [], _, [], hW', ?_, trodAll_mk2 harg0 harg1, rfl, hBelow.frame _, fun h => by cases h⟩
  exact trodAll_mk1 (shut_bool Try.underlying4 _)

theorem ellipsisPlain_holds : Rows.EllipsisPlainSaid :=
  OpenClaim.holds_of_wide 3 Try.f3 rfl rfl rfl rfl rfl rfl rfl ⟨rfl, rfl, rfl, rfl, rfl⟩ rfl rfl rfl rfl rfl (by kernel_rfl) Try.func3 (by kernel_rfl)
    (of_decide_eq_true (by kernel_rfl)) (by unfold Func.isWrapper; first | (rw [if_pos (by decide +kernel)]; kernel_rfl) | (rw [if_neg (by decide +kernel)]; exact ⟨rfl, rfl⟩))
    (fun os started H enc _ => ellipsisPlain_lifted os started H enc)

#print axioms ellipsisPlain_holds
end Go.Proofs.Ytnekgoanadbmmaa
