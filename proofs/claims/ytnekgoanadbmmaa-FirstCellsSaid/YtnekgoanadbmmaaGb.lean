/-
What the laws of law15 are given, read as data.
-/
import Derived.Test.YtnekgoanadbmmaaDa
import Derived.Test.YtnekgoanadbmmaaGa
namespace Go.Proofs.Ytnekgoanadbmmaa
open Go.Mini Go.ChangeShapes Go.WideShapes Go.ChangeAt Go.RowKit
set_option maxRecDepth 100000

theorem cells75 : Try.prog.cellsOf 75 = 6 := by kernel_rfl
theorem cells22b : Try.prog.cellsOf 22 = 1 := by kernel_rfl
theorem types75 : Try.prog.cellTypes Try.prog.depth 75 = some [22, 22, 2, 2, 2, 2] := by kernel_rfl

section
variable {H : Type} {enc : TypeId × Value → H} {w : World} {base : Nat} {held : Bool}

/-- A slice's cell: its address has no spot. -/
theorem spot_cell15 {t e : TypeId} {a : Addr} {len cap : Nat} (ht : Try.prog.underlying t = some (.slice e)) (h : Go.Cell.okWide Try.prog w .any base t (.slice (some a) len cap)) : a.spot = none := by
  simp only [Go.Cell.okWide, ht, Go.Cell.ok] at h
  exact h.2.2.2.1

theorem part_room {fuel : Nat} {c d : Value} {o : Option (DataW H × List MemPlace)} (h : DataW.trod enc Try.prog w 0 (fun _ => true) held fuel 24 [c, d] = o) (ho : o.isSome = true) : ∃ r : Room, c = .int .i64 r.width ∧ d = .int .i64 r.start ∧ I64 r.start := by
  obtain ⟨x, rfl⟩ := Option.isSome_iff_exists.1 ho
  obtain ⟨xs, n', _, _, hl, hx, hp⟩ := DataW.trod_struct Try.underlying24 h
  have hs : xs.length = 2 := hx
  have g : ∀ i, i < 2 → (xs[i]?).isSome = true := fun i hi => by simp [hs, hi]
  have p0 := hp 0 { name := "Width", type := 2, offset := 0, embedded := false, tag := "", pkgPath := "", byteOffset := 0 } rfl
  have p1 := hp 1 { name := "Start", type := 2, offset := 1, embedded := false, tag := "", pkgPath := "", byteOffset := 8 } rfl
  dsimp only at p0 p1
  simp only [cells2, List.drop_succ_cons, List.drop_zero, List.take_succ_cons, List.take_zero] at p0 p1
  obtain ⟨z0, rfl, w0⟩ := part_int Try.underlying2 p0 (g 0 (by omega))
  obtain ⟨z1, rfl, w1⟩ := part_int Try.underlying2 p1 (g 1 (by omega))
  exact ⟨⟨z0, z1⟩, rfl, rfl, I64_wf w1⟩

theorem open_given15 {v : Value} {d : DataW H} {ps : List MemPlace} (hv : Value.okWide Try.prog w .any base 75 v) (h : DataW.Trod enc Try.prog w 0 (fun _ => true) held 75 v d ps) :
    ∃ (f r : List Cell) (x y : MV) (a b : Room), Sl KCell f x ∧ Sl KCell r y ∧ V (envOf w) (.agg (given15 x y a b)) v ∧ (∀ c ∈ f, c.ok) ∧ (∀ c ∈ r, c.ok) ∧ f.length ≤ maxLen ∧ r.length ≤ maxLen ∧ I64 a.start ∧ I64 b.start := by
  unfold Value.okWide at hv
  rw [Try.underlying75] at hv
  obtain ⟨cs, rfl, hsz, ts, hts, _, hrow⟩ := hv
  rw [types75] at hts
  simp only [Option.some.injEq] at hts
  subst hts
  obtain ⟨fuel, hf⟩ := h
  obtain ⟨xs, n', rfl, _, hl, hx, hp⟩ := DataW.trod_struct Try.underlying75 hf
  rw [cells75] at hl
  obtain ⟨c0, c1, c2, c3, c4, c5, hab2⟩ := list6 hl
  have hab : cs.toList = [c0, c1, c2, c3, c4, c5] := hab2
  have hs : xs.length = 4 := hx
  have g : ∀ i, i < 4 → (xs[i]?).isSome = true := fun i hi => by simp [hs, hi]
  have p0 := hp 0 { name := "First", type := 22, offset := 0, embedded := false, tag := "", pkgPath := "", byteOffset := 0 } rfl
  have p1 := hp 1 { name := "Rest", type := 22, offset := 1, embedded := false, tag := "", pkgPath := "", byteOffset := 24 } rfl
  have p2 := hp 2 { name := "A", type := 24, offset := 2, embedded := false, tag := "", pkgPath := "", byteOffset := 48 } rfl
  have p3 := hp 3 { name := "B", type := 24, offset := 4, embedded := false, tag := "", pkgPath := "", byteOffset := 64 } rfl
  rw [hab2] at p0 p1 p2 p3
  dsimp only at p0 p1 p2 p3
  simp only [cells24, cells22b, List.drop_succ_cons, List.drop_zero, List.take_succ_cons, List.take_zero] at p0 p1 p2 p3
  obtain ⟨u0, e0, o0⟩ := hrow 0 c0 (by rw [← Array.getElem?_toList, hab]; rfl)
  obtain ⟨u1, e1, o1⟩ := hrow 1 c1 (by rw [← Array.getElem?_toList, hab]; rfl)
  have e0 : u0 = 22 := by simpa using e0.symm
  have e1 : u1 = 22 := by simpa using e1.symm
  subst e0 e1
  obtain ⟨y0, q0⟩ := Option.isSome_iff_exists.1 (g 0 (by omega))
  obtain ⟨y1, q1⟩ := Option.isSome_iff_exists.1 (g 1 (by omega))
  rw [q0] at p0
  rw [q1] at p1
  obtain ⟨f, x, h1, h2, h2', h3, h4⟩ := open_sl (K := KCell) (Ok := Cell.ok) Try.underlying22 reads_cell cells91 (by decide) (fun a' len' cap' e => by subst e; exact spot_cell15 Try.underlying22 o0) p0
  obtain ⟨r, y, i1, i2, i2', i3, i4⟩ := open_sl (K := KCell) (Ok := Cell.ok) Try.underlying22 reads_cell cells91 (by decide) (fun a' len' cap' e => by subst e; exact spot_cell15 Try.underlying22 o1) p1
  obtain ⟨a, rfl, rfl, ha⟩ := part_room p2 (g 2 (by omega))
  obtain ⟨b, rfl, rfl, hb⟩ := part_room p3 (g 3 (by omega))
  have h6 : cs = #[c0, c1, Value.int .i64 a.width, .int .i64 a.start, .int .i64 b.width, .int .i64 b.start] := Array.toList_inj.1 hab
  subst h6
  refine ⟨f, r, x, y, a, b, h1, i1, ?_, h3, i3, h4, i4, ha, hb⟩
  refine .agg (cs' := [c0, c1, Value.int .i64 a.width, .int .i64 a.start, .int .i64 b.width, .int .i64 b.start]) (.cons h2 (.cons i2 (.cons .int (.cons .int (.cons .int (.cons .int .nil)))))) (sc_list ?_)
  simp only [List.all_cons, h2', i2']
  rfl
end
end Go.Proofs.Ytnekgoanadbmmaa
