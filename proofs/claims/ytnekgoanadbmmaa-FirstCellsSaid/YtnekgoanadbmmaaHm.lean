/-
The row FirstCells, proved.
-/
import Derived.Test.YtnekgoanadbmmaaRows
import Derived.Test.YtnekgoanadbmmaaGb
import Derived.Test.YtnekgoanadbmmaaHl
import Derived.ProofKit
namespace Go.Proofs.Ytnekgoanadbmmaa
open Go.Mini Go.ChangeShapes Go.WideShapes Go.ChangeAt Go.RowKit
set_option maxRecDepth 100000

theorem cells31b : Try.prog.cellsOf 31 = 3 := by kernel_rfl

theorem list3b {α : Type} {l : List α} (h : l.length = 3) : ∃ a b c, l = [a, b, c] := by
  match l, h with
  | [a, b, c], _ => exact ⟨a, b, c, rfl⟩

section
variable {H : Type} {enc : TypeId × Value → H} {w : World} {base : Nat} {held : Bool}

theorem reads_line : Reads enc Try.prog w base held KLine (fun _ => True) 31 := by
  intro n cs x h
  obtain ⟨xs, n', rfl, _, hl, hx, hp⟩ := DataW.trod_struct Try.underlying31 h
  rw [cells31b] at hl
  obtain ⟨a, b, c, rfl⟩ := list3b hl
  have hs : xs.length = 3 := hx
  have g : ∀ i, i < 3 → (xs[i]?).isSome = true := fun i hi => by simp [hs, hi]
  have r0 := hp 0 { name := "From", type := 3, offset := 0, embedded := false, tag := "", pkgPath := "", byteOffset := 0 } rfl
  have r1 := hp 1 { name := "To", type := 3, offset := 1, embedded := false, tag := "", pkgPath := "", byteOffset := 8 } rfl
  have r2 := hp 2 { name := "Forced", type := 4, offset := 2, embedded := false, tag := "", pkgPath := "", byteOffset := 16 } rfl
  dsimp only at r0 r1 r2
  simp only [cells3, cells4, List.drop_succ_cons, List.drop_zero, List.take_succ_cons, List.take_zero] at r0 r1 r2
  obtain ⟨z0, rfl, _⟩ := part_int Try.underlying3 r0 (g 0 (by omega))
  obtain ⟨z1, rfl, _⟩ := part_int Try.underlying3 r1 (g 1 (by omega))
  obtain ⟨z2, rfl⟩ := part_bool Try.underlying4 r2 (g 2 (by omega))
  exact ⟨⟨z0, z1, z2⟩, trivial, .cons .int (.cons .int (.cons .bool .nil)), sc_list rfl⟩

theorem open_lines {v : Value} {d : DataW H} {ps : List MemPlace} (hv : Value.okWide Try.prog w .any base 77 v) (h : DataW.Trod enc Try.prog w 0 (fun _ => true) held 77 v d ps) :
    ∃ (l : List Line) (x : MV), Sl KLine l x ∧ V (envOf w) x v ∧ l.length ≤ maxLen := by
  obtain ⟨a, len, cap, rfl⟩ := okWide_slice Try.underlying77 hv
  obtain ⟨fuel, hf⟩ := h
  obtain ⟨l, x, h1, h2, _, _, h4⟩ := open_sl (K := KLine) (Ok := fun _ => True) Try.underlying77 reads_line cells31b (by decide) (fun a' len' cap' e => by cases e; exact spot_okWide Try.underlying77 hv) hf
  exact ⟨l, x, h1, h2, h4⟩
end

set_option maxHeartbeats 800000 in
theorem firstCells_lifted (os : Os) (started : os.Started) (H : Type) (enc : TypeId × Value → H) :
    ReturnsInHanded {} Try.checked os 7 .any (Rows.firstCellsSpec.pre6 enc Try.prog Try.f7 Rows.firstCellsRow.domain false) (Rows.firstCellsSpec.post enc Try.prog Try.f7 false true false false) := by
  refine returnsInHanded_of_change (C := Try.checked) own started (by kernel_rfl) Try.func7
    (ChangeSpec.witness6 (enc := enc) (C := Try.checked) false ⟨#[], #[.agg #[.slice none 0 0, .slice none 0 0, .int .i64 0, .int .i64 0, .int .i64 0, .int .i64 0], .slice none 0 0], []⟩ 8 (by kernel_rfl) (by kernel_rfl) (by kernel_rfl) (by kernel_rfl)) ?_
  intro W base args ds gs before hval0 hW _ _
  have hval : ∀ (j : Nat) t v, Try.f7.params[j]? = some t → args[j]? = some v → Value.okWide Try.prog W .any base t v := hval0
  have hW' := hW
  obtain ⟨p, q, hA0, hV, rfl, _, _⟩ := hW
  have hA : DataW.TrodAll enc Try.prog W 0 (fun _ => true) true Try.f7.params.toList args.toList ds p := hA0
  rw [Try.params7] at hA hval
  obtain ⟨v0, v1, d0, d1, p0, p1, rfl, rfl, rfl, h0, h1⟩ := trodAll_two hA
  obtain ⟨rfl, rfl⟩ := trodVars_none hV
  obtain ⟨f, r, x, y, a, b, hx, hy, hVx, hok1, hok2, hlen1, hlen2, ha, hb⟩ := open_given15 (hval 0 75 v0 rfl rfl) h0
  obtain ⟨L, z, hz, hVz, hlen3⟩ := open_lines (hval 1 77 v1 rfl rfl) h1
  clear hA0 hval0
  simp only [List.append_nil] at hW'
  have hlt : ∀ x ∈ p0 ++ p1, x.block < W.heap.size := fun x hx => by simpa using hW'.lt x hx
  have hcalls := law_calls ip_ok (f := f_law15_FirstCells) (args := [.agg (given15 x y a b), z]) (w := W) rfl
    (law_FirstCells hx hy hz (by unfold maxLen at hlen1; omega) (by unfold maxLen at hlen2; omega) (by unfold maxLen at hlen3; omega) hok1 hok2 ha hb ⟨rfl, rfl, rfl⟩) (.cons hVx (.cons hVz .nil))
  refine Calls.mono (f := 7) hcalls fun e W' he => ?_
  obtain ⟨he, hBelow⟩ := he
  subst he
  have harg0 : DataW.Trod enc Try.prog W' 0 (fun b => decide (b < W.heap.size)) true 75 v0 d0 p0 :=
    Below.trod laidOut (by kernel_rfl) (of_decide_eq_true (by kernel_rfl)) h0 hBelow (fun x hx => hlt x (List.mem_append.2 (.inl hx)))
  have harg1 : DataW.Trod enc Try.prog W' 0 (fun b => decide (b < W.heap.size)) true 77 v1 d1 p1 :=
    Below.trod laidOut (by kernel_rfl) (of_decide_eq_true (by kernel_rfl)) h1 hBelow (fun x hx => hlt x (List.mem_append.2 (.inr hx)))
  refine ⟨_, rfl, _, _, _, [], _, [], hW', ?_, trodAll_mk2 harg0 harg1, rfl, hBelow.frame _, fun h => by cases h⟩
  exact trodAll_mk1 (shut_bool Try.underlying4 _)

theorem firstCells_holds : Rows.FirstCellsSaid :=
  OpenClaim.holds_of_wide 7 Try.f7 rfl rfl rfl rfl rfl rfl rfl ⟨rfl, rfl, rfl, rfl, rfl⟩ rfl rfl rfl rfl rfl (by kernel_rfl) Try.func7 (by kernel_rfl)
    (of_decide_eq_true (by kernel_rfl)) (by unfold Func.isWrapper; first | (rw [if_pos (by decide +kernel)]; kernel_rfl) | (rw [if_neg (by decide +kernel)]; exact ⟨rfl, rfl⟩))
    (fun os started H enc _ => firstCells_lifted os started H enc)

#print axioms firstCells_holds
end Go.Proofs.Ytnekgoanadbmmaa
