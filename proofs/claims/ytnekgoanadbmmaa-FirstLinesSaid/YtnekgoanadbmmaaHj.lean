/-
The row FirstLines, proved.
-/
import Derived.Test.YtnekgoanadbmmaaRows
import Derived.Test.YtnekgoanadbmmaaGb
import Derived.Test.YtnekgoanadbmmaaHi
import Derived.ProofKit
namespace Go.Proofs.Ytnekgoanadbmmaa
open Go.Mini Go.ChangeShapes Go.WideShapes Go.ChangeAt Go.RowKit
set_option maxRecDepth 100000

set_option maxHeartbeats 800000 in
theorem firstLines_lifted (os : Os) (started : os.Started) (H : Type) (enc : TypeId × Value → H) :
    ReturnsInHanded {} Try.checked os 6 .any (Rows.firstLinesSpec.pre6 enc Try.prog Try.f6 Rows.firstLinesRow.domain false) (Rows.firstLinesSpec.post enc Try.prog Try.f6 false true false false) := by
  refine returnsInHanded_of_change (C := Try.checked) own started (by kernel_rfl) Try.func6
    (ChangeSpec.witness6 (enc := enc) (C := Try.checked) false ⟨#[], #[.agg #[.slice none 0 0, .slice none 0 0, .int .i64 0, .int .i64 0, .int .i64 0, .int .i64 0]], []⟩ 8 (by kernel_rfl) (by kernel_rfl) (by kernel_rfl) (by kernel_rfl)) ?_
  intro W base args ds gs before hval0 hW _ _
  have hval : ∀ (j : Nat) t v, Try.f6.params[j]? = some t → args[j]? = some v → Value.okWide Try.prog W .any base t v := hval0
  have hW' := hW
  obtain ⟨p, q, hA0, hV, rfl, _, _⟩ := hW
  have hA : DataW.TrodAll enc Try.prog W 0 (fun _ => true) true Try.f6.params.toList args.toList ds p := hA0
  rw [Try.params6] at hA hval
  obtain ⟨v0, d0, rfl, rfl, h0⟩ := trodAll_one hA
  obtain ⟨rfl, rfl⟩ := trodVars_none hV
  obtain ⟨f, r, x, y, a, b, hx, hy, hVx, hok1, hok2, hlen1, hlen2, ha, hb⟩ := open_given15 (hval 0 75 v0 rfl rfl) h0
  clear hA0 hval0
  simp only [List.append_nil] at hW'
  have hlt : ∀ x ∈ p, x.block < W.heap.size := fun x hx => by simpa using hW'.lt x hx
  have hcalls := law_calls ip_ok (f := f_law15_FirstLines) (args := [.agg (given15 x y a b)]) (w := W) rfl
    (law_FirstLines hx hy (by unfold maxLen at hlen1; omega) (by unfold maxLen at hlen2; omega) hok1 hok2 ha hb ⟨rfl, rfl, rfl⟩) (.cons hVx .nil)
  refine Calls.mono (f := 6) hcalls fun e W' he => ?_
  obtain ⟨he, hBelow⟩ := he
  subst he
  have harg0 : DataW.Trod enc Try.prog W' 0 (fun b => decide (b < W.heap.size)) true 75 v0 d0 p :=
    Below.trod laidOut (by kernel_rfl) (of_decide_eq_true (by kernel_rfl)) h0 hBelow hlt
  refine ⟨_, rfl, _, _, _, [], _, [], hW', ?_, trodAll_mk1 harg0, rfl, hBelow.frame _, fun h => by cases h⟩
  exact trodAll_mk1 (shut_bool Try.underlying4 _)

theorem firstLines_holds : Rows.FirstLinesSaid :=
  OpenClaim.holds_of_wide 6 Try.f6 rfl rfl rfl rfl rfl rfl rfl ⟨rfl, rfl, rfl, rfl, rfl⟩ rfl rfl rfl rfl rfl (by kernel_rfl) Try.func6 (by kernel_rfl)
    (of_decide_eq_true (by kernel_rfl)) (by unfold Func.isWrapper; first | (rw [if_pos (by decide +kernel)]; kernel_rfl) | (rw [if_neg (by decide +kernel)]; exact ⟨rfl, rfl⟩))
    (fun os started H enc _ => firstLines_lifted os started H enc)

#print axioms firstLines_holds
end Go.Proofs.Ytnekgoanadbmmaa
