/-
The row EllipsisFits, proved.
-/
import Derived.Test.YtnekgoanadbmmaaRows
import Derived.Test.YtnekgoanadbmmaaDa
import Derived.Test.YtnekgoanadbmmaaDc
import Derived.Test.YtnekgoanadbmmaaEa
import Derived.ProofKit
namespace Go.Proofs.Ytnekgoanadbmmaa
open Go.Mini Go.ChangeShapes Go.WideShapes Go.ChangeAt Go.RowKit
set_option maxRecDepth 100000

theorem cells39 : Try.prog.cellsOf 39 = 6 := by kernel_rfl
theorem cells22 : Try.prog.cellsOf 22 = 1 := by kernel_rfl
theorem cells26 : Try.prog.cellsOf 26 = 1 := by kernel_rfl
theorem cells31 : Try.prog.cellsOf 31 = 3 := by kernel_rfl
theorem types39 : Try.prog.cellTypes Try.prog.depth 39 = some [22, 26, 3, 3, 4, 2] := by kernel_rfl

theorem list3 {α : Type} {l : List α} (h : l.length = 3) : ∃ a b c, l = [a, b, c] := by
  match l, h with
  | [a, b, c], _ => exact ⟨a, b, c, rfl⟩

section
variable {H : Type} {enc : TypeId × Value → H} {w : World} {base : Nat} {held : Bool}

theorem reads_bool : Reads enc Try.prog w base held KBool (fun _ => True) 4 := by
  intro n cs x h
  obtain ⟨b, rfl, _⟩ := DataW.trod_bool Try.underlying4 h
  exact ⟨b, trivial, .cons .bool .nil, sc_list rfl⟩

/-- A slice's cell: its address has no spot. -/
theorem spot_cell {t e : TypeId} {a : Addr} {len cap : Nat} (ht : Try.prog.underlying t = some (.slice e)) (h : Go.Cell.okWide Try.prog w .any base t (.slice (some a) len cap)) : a.spot = none := by
  simp only [Go.Cell.okWide, ht, Go.Cell.ok] at h
  exact h.2.2.2.1

theorem open_given26 {v : Value} {d : DataW H} {ps : List MemPlace} (hv : Value.okWide Try.prog w .any base 39 v) (h : DataW.Trod enc Try.prog w 0 (fun _ => true) held 39 v d ps) :
    ∃ (l : List Cell) (whole : List Bool) (x : Line) (dots : Int) (a b : MV), Sl KCell l a ∧ Sl KBool whole b ∧ V (envOf w) (.agg [a, b, .int .i64 x.fr, .int .i64 x.to, .bool x.forced, .int .i64 dots]) v ∧ (∀ c ∈ l, c.ok) ∧ l.length ≤ maxLen ∧ whole.length ≤ maxLen := by
  unfold Value.okWide at hv
  rw [Try.underlying39] at hv
  obtain ⟨cs, rfl, _, ts, hts, _, hrow⟩ := hv
  rw [types39] at hts
  simp only [Option.some.injEq] at hts
  subst hts
  obtain ⟨fuel, hf⟩ := h
  obtain ⟨xs, n', rfl, _, hl, hx, hp⟩ := DataW.trod_struct Try.underlying39 hf
  rw [cells39] at hl
  obtain ⟨c0, c1, c2, c3, c4, c5, hab2⟩ := list6 hl
  have hab : cs.toList = [c0, c1, c2, c3, c4, c5] := hab2
  have hs : xs.length = 4 := hx
  have g : ∀ i, i < 4 → (xs[i]?).isSome = true := fun i hi => by simp [hs, hi]
  have p0 := hp 0 { name := "L", type := 22, offset := 0, embedded := false, tag := "", pkgPath := "", byteOffset := 0 } rfl
  have p1 := hp 1 { name := "Whole", type := 26, offset := 1, embedded := false, tag := "", pkgPath := "", byteOffset := 24 } rfl
  have p2 := hp 2 { name := "X", type := 31, offset := 2, embedded := false, tag := "", pkgPath := "", byteOffset := 48 } rfl
  have p3 := hp 3 { name := "Dots", type := 2, offset := 5, embedded := false, tag := "", pkgPath := "", byteOffset := 72 } rfl
  rw [hab2] at p0 p1 p2 p3
  dsimp only at p0 p1 p2 p3
  simp only [cells2, cells22, cells26, cells31, List.drop_succ_cons, List.drop_zero, List.take_succ_cons, List.take_zero] at p0 p1 p2 p3
  have o0 := hrow 0 c0 (by rw [← Array.getElem?_toList, hab]; rfl)
  have o1 := hrow 1 c1 (by rw [← Array.getElem?_toList, hab]; rfl)
  obtain ⟨u0, e0, o0⟩ := o0
  obtain ⟨u1, e1, o1⟩ := o1
  simp only [List.length_cons, List.length_nil, Option.some.injEq] at e0 e1
  have e0 : u0 = 22 := by simpa using e0.symm
  have e1 : u1 = 26 := by simpa using e1.symm
  subst e0 e1
  obtain ⟨y0, q0⟩ := Option.isSome_iff_exists.1 (g 0 (by omega))
  obtain ⟨y1, q1⟩ := Option.isSome_iff_exists.1 (g 1 (by omega))
  obtain ⟨y2, q2⟩ := Option.isSome_iff_exists.1 (g 2 (by omega))
  rw [q0] at p0
  rw [q1] at p1
  rw [q2] at p2
  obtain ⟨l, a, h1, h2, h2', h3, h4⟩ := open_sl (K := KCell) (Ok := Cell.ok) Try.underlying22 reads_cell cells91 (by decide) (fun a' len' cap' e => by subst e; exact spot_cell Try.underlying22 o0) p0
  obtain ⟨whole, b, i1, i2, i2', _, i4⟩ := open_sl (K := KBool) (Ok := fun _ => True) Try.underlying26 reads_bool cells4 (by decide) (fun a' len' cap' e => by subst e; exact spot_cell Try.underlying26 o1) p1
  obtain ⟨zs, n2, _, _, hl2, hx2, hp2⟩ := DataW.trod_struct Try.underlying31 p2
  have hs2 : zs.length = 3 := hx2
  have g2 : ∀ i, i < 3 → (zs[i]?).isSome = true := fun i hi => by simp [hs2, hi]
  have r0 := hp2 0 { name := "From", type := 3, offset := 0, embedded := false, tag := "", pkgPath := "", byteOffset := 0 } rfl
  have r1 := hp2 1 { name := "To", type := 3, offset := 1, embedded := false, tag := "", pkgPath := "", byteOffset := 8 } rfl
  have r2 := hp2 2 { name := "Forced", type := 4, offset := 2, embedded := false, tag := "", pkgPath := "", byteOffset := 16 } rfl
  dsimp only at r0 r1 r2
  simp only [cells3, cells4, List.drop_succ_cons, List.drop_zero, List.take_succ_cons, List.take_zero] at r0 r1 r2
  obtain ⟨z0, rfl, _⟩ := part_int Try.underlying3 r0 (g2 0 (by omega))
  obtain ⟨z1, rfl, _⟩ := part_int Try.underlying3 r1 (g2 1 (by omega))
  obtain ⟨z2, rfl⟩ := part_bool Try.underlying4 r2 (g2 2 (by omega))
  obtain ⟨z3, rfl, _⟩ := part_int Try.underlying2 p3 (g 3 (by omega))
  have h6 : cs = #[c0, c1, Value.int .i64 z0, .int .i64 z1, .bool z2, .int .i64 z3] := Array.toList_inj.1 hab
  subst h6
  refine ⟨l, whole, ⟨z0, z1, z2⟩, z3, a, b, h1, i1, ?_, h3, h4, i4⟩
  refine .agg (cs' := [c0, c1, Value.int .i64 z0, .int .i64 z1, .bool z2, .int .i64 z3]) (.cons h2 (.cons i2 (.cons .int (.cons .int (.cons .bool (.cons .int .nil)))))) (sc_list ?_)
  simp only [List.all_cons, h2', i2']
  rfl
end

set_option maxHeartbeats 800000 in
theorem ellipsisFits_lifted (os : Os) (started : os.Started) (H : Type) (enc : TypeId × Value → H) :
    ReturnsInHanded {} Try.checked os 4 .any (Rows.ellipsisFitsSpec.pre6 enc Try.prog Try.f4 Rows.ellipsisFitsRow.domain false) (Rows.ellipsisFitsSpec.post enc Try.prog Try.f4 false true false false) := by
  refine returnsInHanded_of_change (C := Try.checked) own started (by kernel_rfl) Try.func4
    (ChangeSpec.witness6 (enc := enc) (C := Try.checked) false ⟨#[], #[.agg #[.slice none 0 0, .slice none 0 0, .int .i64 0, .int .i64 0, .bool false, .int .i64 0], .agg #[.int .i64 0, .int .i64 0]], []⟩ 8 (by kernel_rfl) (by kernel_rfl) (by kernel_rfl) (by kernel_rfl)) ?_
  intro W base args ds gs before hval0 hW _ _
  have hval : ∀ (j : Nat) t v, Try.f4.params[j]? = some t → args[j]? = some v → Value.okWide Try.prog W .any base t v := hval0
  have hW' := hW
  obtain ⟨p, q, hA0, hV, rfl, _, _⟩ := hW
  have hA : DataW.TrodAll enc Try.prog W 0 (fun _ => true) true Try.f4.params.toList args.toList ds p := hA0
  rw [Try.params4] at hA hval
  obtain ⟨v0, v1, d0, d1, p0, p1, rfl, rfl, rfl, h0, h1⟩ := trodAll_two hA
  obtain ⟨rfl, rfl⟩ := trodVars_none hV
  obtain ⟨l, whole, x, dots, a, b, hx, hy, hVx, hok, hlen, hlen2⟩ := open_given26 (hval 0 39 v0 rfl rfl) h0
  obtain ⟨r, rfl, _, hrs⟩ := open_room (hval 1 24 v1 rfl rfl) h1
  clear hA0 hval0
  simp only [List.append_nil] at hW'
  have hlt : ∀ x ∈ p0 ++ p1, x.block < W.heap.size := fun x hx => by simpa using hW'.lt x hx
  have hcalls := law_calls ip_ok (f := f_law26_EllipsisFits) (args := [.agg [a, b, .int .i64 x.fr, .int .i64 x.to, .bool x.forced, .int .i64 dots], .agg r.mv]) (w := W) rfl
    (law_EllipsisFits head26 hx hy (by unfold maxLen at hlen; omega) (by unfold maxLen at hlen2; omega) hok hrs ⟨rfl, rfl, rfl⟩) (.cons hVx (.cons room_vs .nil))
  refine Calls.mono (f := 4) hcalls fun e W' he => ?_
  obtain ⟨he, hBelow⟩ := he
  subst he
  have harg0 : DataW.Trod enc Try.prog W' 0 (fun b => decide (b < W.heap.size)) true 39 v0 d0 p0 :=
    Below.trod laidOut (by kernel_rfl) (of_decide_eq_true (by kernel_rfl)) h0 hBelow (fun x hx => hlt x (List.mem_append.2 (.inl hx)))
  have harg1 : DataW.Trod enc Try.prog W' 0 (fun b => decide (b < W.heap.size)) true 24 (.agg #[.int .i64 r.width, .int .i64 r.start]) d1 p1 :=
    Below.trod laidOut (by kernel_rfl) (of_decide_eq_true (by kernel_rfl)) h1 hBelow (fun x hx => hlt x (List.mem_append.2 (.inr hx)))
  refine ⟨_, rfl, _, _, _, [], _, [], hW', ?_, trodAll_mk2 harg0 harg1, rfl, hBelow.frame _, fun h => by cases h⟩
  exact trodAll_mk1 (shut_bool Try.underlying4 _)

theorem ellipsisFits_holds : Rows.EllipsisFitsSaid :=
  OpenClaim.holds_of_wide 4 Try.f4 rfl rfl rfl rfl rfl rfl rfl ⟨rfl, rfl, rfl, rfl, rfl⟩ rfl rfl rfl rfl rfl (by kernel_rfl) Try.func4 (by kernel_rfl)
    (of_decide_eq_true (by kernel_rfl)) (by unfold Func.isWrapper; first | (rw [if_pos (by decide +kernel)]; kernel_rfl) | (rw [if_neg (by decide +kernel)]; exact ⟨rfl, rfl⟩))
    (fun os started H enc _ => ellipsisFits_lifted os started H enc)

#print axioms ellipsisFits_holds
end Go.Proofs.Ytnekgoanadbmmaa
