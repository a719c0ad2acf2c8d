/-
From Mini's word of a law to the model's: cells and room read as data.
-/
import Derived.Test.YtnekgoanadbmmaaCb
import Derived.Test.YtnekgoanadbmmaaMiW
import Derived.Test.YtnekgoanadbmmaaOk
namespace Go.Proofs.Ytnekgoanadbmmaa
open Go.Mini Go.ChangeShapes Go.WideShapes Go.ChangeAt Go.RowKit
set_option maxRecDepth 100000

theorem own : ownKnob Try.prog.godebug = none := by kernel_rfl
theorem laidOut : laidOutB Try.prog = true := by kernel_rfl
theorem cells91 : Try.prog.cellsOf 91 = 6 := by kernel_rfl
theorem cells24 : Try.prog.cellsOf 24 = 2 := by kernel_rfl
theorem cells2 : Try.prog.cellsOf 2 = 1 := by kernel_rfl
theorem cells3 : Try.prog.cellsOf 3 = 1 := by kernel_rfl
theorem cells4 : Try.prog.cellsOf 4 = 1 := by kernel_rfl
theorem cells5 : Try.prog.cellsOf 5 = 1 := by kernel_rfl

theorem I64_wf {n : Int} (h : (Lit.int .i64 n).wf = true) : I64 n := by
  simp only [Lit.wf, Bool.and_eq_true, decide_eq_true_eq] at h
  have h1 : IntKind.i64.min = -9223372036854775808 := rfl
  have h2 : IntKind.i64.max = 9223372036854775807 := rfl
  unfold I64; omega

section
variable {H : Type} {enc : TypeId × Value → H} {w : World} {base : Nat} {held : Bool}

theorem part_int {sp : Nat → Bool} {t n : Nat} {k : IntKind} {v : Value} {o : Option (DataW H × List MemPlace)} (ht : Try.prog.underlying t = some (.int k)) (h : DataW.trod enc Try.prog w base sp held n t [v] = o) (ho : o.isSome = true) : ∃ z, v = .int k z ∧ (Lit.int k z).wf = true := by
  obtain ⟨x, rfl⟩ := Option.isSome_iff_exists.1 ho
  obtain ⟨z, h1, _, h2⟩ := DataW.trod_int ht h
  exact ⟨z, by simpa using h1, h2⟩

theorem part_bool {sp : Nat → Bool} {t n : Nat} {v : Value} {o : Option (DataW H × List MemPlace)} (ht : Try.prog.underlying t = some .bool) (h : DataW.trod enc Try.prog w base sp held n t [v] = o) (ho : o.isSome = true) : ∃ z, v = .bool z := by
  obtain ⟨x, rfl⟩ := Option.isSome_iff_exists.1 ho
  obtain ⟨z, h1, _⟩ := DataW.trod_bool ht h
  exact ⟨z, by simpa using h1⟩

theorem list6 {α : Type} {l : List α} (h : l.length = 6) : ∃ a b c d e f, l = [a, b, c, d, e, f] := by
  match l, h with
  | [a, b, c, d, e, f], _ => exact ⟨a, b, c, d, e, f, rfl⟩
theorem list2 {α : Type} {l : List α} (h : l.length = 2) : ∃ a b, l = [a, b] := by
  match l, h with
  | [a, b], _ => exact ⟨a, b, rfl⟩

theorem sc_list {l : List Value} (h : l.all (fun v => v.oneCell') = true) : Sc l := fun x hx => List.all_eq_true.1 h x hx

theorem reads_cell : Reads enc Try.prog w base held KCell Cell.ok 91 := by
  intro n cs x h
  obtain ⟨xs, n', rfl, _, hl, hx, hp⟩ := DataW.trod_struct Try.underlying91 h
  rw [cells91] at hl
  obtain ⟨a, b, c, d, e, f, rfl⟩ := list6 hl
  have hs : xs.length = 6 := hx
  have g : ∀ i, i < 6 → (xs[i]?).isSome = true := fun i hi => by simp [hs, hi]
  have p0 := hp 0 { name := "Kind", type := 5, offset := 0, embedded := false, tag := "", pkgPath := "", byteOffset := 0 } rfl
  have p1 := hp 1 { name := "Node", type := 3, offset := 1, embedded := false, tag := "", pkgPath := "", byteOffset := 8 } rfl
  have p2 := hp 2 { name := "Char", type := 3, offset := 2, embedded := false, tag := "", pkgPath := "", byteOffset := 16 } rfl
  have p3 := hp 3 { name := "Adv", type := 2, offset := 3, embedded := false, tag := "", pkgPath := "", byteOffset := 24 } rfl
  have p4 := hp 4 { name := "Soft", type := 4, offset := 4, embedded := false, tag := "", pkgPath := "", byteOffset := 32 } rfl
  have p5 := hp 5 { name := "Emerg", type := 4, offset := 5, embedded := false, tag := "", pkgPath := "", byteOffset := 33 } rfl
  dsimp only at p0 p1 p2 p3 p4 p5
  simp only [cells2, cells3, cells4, cells5, List.drop_succ_cons, List.drop_zero, List.take_succ_cons, List.take_zero] at p0 p1 p2 p3 p4 p5
  obtain ⟨z0, rfl, _⟩ := part_int Try.underlying5 p0 (g 0 (by omega))
  obtain ⟨z1, rfl, _⟩ := part_int Try.underlying3 p1 (g 1 (by omega))
  obtain ⟨z2, rfl, _⟩ := part_int Try.underlying3 p2 (g 2 (by omega))
  obtain ⟨z3, rfl, w3⟩ := part_int Try.underlying2 p3 (g 3 (by omega))
  obtain ⟨z4, rfl⟩ := part_bool Try.underlying4 p4 (g 4 (by omega))
  obtain ⟨z5, rfl⟩ := part_bool Try.underlying4 p5 (g 5 (by omega))
  exact ⟨⟨z0, z1, z2, z3, z4, z5⟩, I64_wf w3, .cons .int (.cons .int (.cons .int (.cons .int (.cons .bool (.cons .bool .nil))))), sc_list rfl⟩

theorem open_room {v : Value} {d : DataW H} {ps : List MemPlace} (hv : Value.okWide Try.prog w .any base 24 v) (h : DataW.Trod enc Try.prog w 0 (fun _ => true) held 24 v d ps) :
    ∃ r : Room, v = .agg #[.int .i64 r.width, .int .i64 r.start] ∧ I64 r.width ∧ I64 r.start := by
  unfold Value.okWide at hv
  rw [Try.underlying24] at hv
  obtain ⟨cs, rfl, _, _⟩ := hv
  obtain ⟨fuel, hf⟩ := h
  obtain ⟨xs, n', rfl, _, hl, hx, hp⟩ := DataW.trod_struct Try.underlying24 hf
  rw [cells24] at hl
  obtain ⟨a, b, hab⟩ := list2 hl
  have hs : xs.length = 2 := hx
  have g : ∀ i, i < 2 → (xs[i]?).isSome = true := fun i hi => by simp [hs, hi]
  have p0 := hp 0 { name := "Width", type := 2, offset := 0, embedded := false, tag := "", pkgPath := "", byteOffset := 0 } rfl
  have p1 := hp 1 { name := "Start", type := 2, offset := 1, embedded := false, tag := "", pkgPath := "", byteOffset := 8 } rfl
  rw [hab] at p0 p1
  dsimp only at p0 p1
  simp only [cells2, List.drop_succ_cons, List.drop_zero, List.take_succ_cons, List.take_zero] at p0 p1
  obtain ⟨z0, rfl, w0⟩ := part_int Try.underlying2 p0 (g 0 (by omega))
  obtain ⟨z1, rfl, w1⟩ := part_int Try.underlying2 p1 (g 1 (by omega))
  refine ⟨⟨z0, z1⟩, ?_, I64_wf w0, I64_wf w1⟩
  have : cs.toList = [Value.int .i64 z0, .int .i64 z1] := hab
  have h2 : cs = #[Value.int .i64 z0, .int .i64 z1] := Array.toList_inj.1 this
  rw [h2]

theorem open_cells {v : Value} {d : DataW H} {ps : List MemPlace} (hv : Value.okWide Try.prog w .any base 22 v) (h : DataW.Trod enc Try.prog w 0 (fun _ => true) held 22 v d ps) :
    ∃ (l : List Cell) (x : MV), Sl KCell l x ∧ V (envOf w) x v ∧ (∀ c ∈ l, c.ok) ∧ l.length ≤ maxLen := by
  obtain ⟨a, len, cap, rfl⟩ := okWide_slice Try.underlying22 hv
  obtain ⟨fuel, hf⟩ := h
  obtain ⟨l, x, h1, h2, _, h3, h4⟩ := open_sl (K := KCell) (Ok := Cell.ok) Try.underlying22 reads_cell cells91 (by decide) (fun a' len' cap' e => by cases e; exact spot_okWide Try.underlying22 hv) hf
  exact ⟨l, x, h1, h2, h3, h4⟩

theorem room_vs {r : Room} : V (envOf w) (.agg r.mv) (.agg #[.int .i64 r.width, .int .i64 r.start]) := .agg (cs' := [.int .i64 r.width, .int .i64 r.start]) (.cons .int (.cons .int .nil)) (sc_list rfl)
end
end Go.Proofs.Ytnekgoanadbmmaa
