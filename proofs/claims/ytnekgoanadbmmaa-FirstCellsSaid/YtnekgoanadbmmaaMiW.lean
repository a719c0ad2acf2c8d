/-
Arguments that are data, as Mini's trees; what Mini says of a law, said of the model.
-/
import Derived.Test.YtnekgoanadbmmaaMiV
import Derived.ProofKit
import Derived.Deep.Slices
namespace Go.Mini
open Go.ChangeShapes Go.WideShapes Go.RowKit

/-- All rows that lie in memory. -/
def rowsOf (w : World) (n : Nat) : Option (Array Value) := match w.heap[n]? with | some (.cells C _ _) => some C | _ => none

def envOf (w : World) : Env := { I := rowsOf w, nb := 0, gen := fun _ => 0, pl := fun _ => 0, cap := fun _ => 0, lam := fun _ => none, I0 := rowsOf w }

theorem law_calls {P : Program} {pm : Nat → Bool} {IP : IProg} (h : ProgOk P pm IP) {f : Nat} {args : List MV} {args' : List Value} {w : World} (hf : IP.prim f = none)
    (hc : Wc IP f args [] [] fun v m' ls' => v = .bool true ∧ m' = [] ∧ ls' = []) (hA : Vs (envOf w) args args') :
    Calls P f args'.toArray w fun e w' => e = .returned (.bool true) ∧ Below w.heap.size w w' := by
  obtain ⟨n, v, m', ls', h1, rfl, rfl, rfl⟩ := hc.out
  refine (mach_calls h h1 (I := rowsOf w) (fun n C hn => ?_) hA hf).mono ?_
  · simp only [rowsOf] at hn
    split at hn
    · rename_i C' el fr hC
      simp only [Option.some.injEq] at hn
      subst hn
      exact ⟨el, fr, hC⟩
    · cases hn
  · rintro e w' ⟨r, E', rfl, hV, hb⟩
    exact ⟨by rw [hV.inv_bool], hb⟩

theorem spot_okWide {P : Program} {w : World} {base : Nat} {t e : TypeId} {a : Addr} {len cap : Nat} (ht : P.underlying t = some (.slice e))
    (h : Value.okWide P w .any base t (.slice (some a) len cap)) : a.spot = none := by
  unfold Value.okWide at h
  rw [ht] at h
  simp only [Cell.okWide, ht, Cell.ok] at h
  exact h.2.2.2.1

theorem add_split {a : Addr} {p j : Nat} (h : p ≤ j) : a.add j = (a.add p).add (j - p) := by
  obtain ⟨b, o, s⟩ := a
  by_cases hp : p = 0
  · subst hp; simp [Addr.add]
  · by_cases hj : j - p = 0
    · have : j = p := by omega
      subst this; simp [Addr.add]
    · have hj0 : j ≠ 0 := by omega
      simp only [Addr.add, hp, hj, hj0, if_false]
      congr 1; omega

theorem seg_of_cells {w : World} {n o : Nat} {L : List Value} (hne : L ≠ []) (h : ∀ (j : Nat) v, L[j]? = some v → w.cell? (Addr.add ⟨n, o, none⟩ j) = some v) : Seg (envOf w) n o L := by
  have key : ∀ (j : Nat) v, L[j]? = some v → ∃ C, rowsOf w n = some C ∧ C[o + j]? = some v := by
    intro j v hj
    have := h j v hj
    have e : Addr.add ⟨n, o, none⟩ j = ⟨n, o + j, none⟩ := by unfold Addr.add; split <;> simp_all
    rw [e] at this
    simp only [World.cell?] at this
    split at this
    · rename_i C el fr hC
      refine ⟨C, by simp [rowsOf, hC], by simpa using this⟩
    · cases this
  obtain ⟨x, L', rfl⟩ : ∃ x L', L = x :: L' := by cases L with | nil => exact absurd rfl hne | cons x L' => exact ⟨x, L', rfl⟩
  obtain ⟨C, hC, _⟩ := key 0 x rfl
  have k2 : ∀ (j : Nat) v, (x :: L')[j]? = some v → C.toList[o + j]? = some v := by
    intro j v hj
    obtain ⟨C', hC', h'⟩ := key j v hj
    rw [hC] at hC'; cases hC'
    simpa using h'
  refine ⟨C, C.toList.take o, C.toList.drop (o + (x :: L').length), hC, ?_, ?_⟩
  · apply List.ext_getElem?
    intro i
    have hlast := k2 L'.length (((x :: L'))[L'.length]'(by simp)) (List.getElem?_eq_getElem (by simp))
    have hlen := (List.getElem?_eq_some_iff.1 hlast).1
    by_cases h1 : i < o
    · rw [List.append_assoc, List.getElem?_append_left (by simp only [List.length_take, Array.length_toList] at hlen ⊢; omega), List.getElem?_take, if_pos h1]
    · by_cases h2 : i < o + (x :: L').length
      · have e : (C.toList.take o).length = o := by simp only [List.length_take, Array.length_toList] at hlen ⊢; omega
        rw [List.append_assoc, List.getElem?_append_right (by omega)]
        rw [e, List.getElem?_append_left (by omega)]
        have := k2 (i - o) ((x :: L')[i - o]'(by omega)) (List.getElem?_eq_getElem (by omega))
        rw [show o + (i - o) = i by omega] at this
        rw [this, List.getElem?_eq_getElem (by omega)]
      · rw [List.getElem?_append_right (by simp at hlen h2 ⊢; omega)]
        have e : (C.toList.take o ++ (x :: L')).length = o + (x :: L').length := by simp at hlen ⊢; omega
        rw [e, List.getElem?_drop, show o + (x :: L').length + (i - (o + (x :: L').length)) = i by omega]
  · have hlast := k2 L'.length (((x :: L'))[L'.length]'(by simp)) (List.getElem?_eq_getElem (by simp))
    have hlen := (List.getElem?_eq_some_iff.1 hlast).1
    simp at hlen ⊢; omega

section
variable {H : Type} {enc : TypeId × Value → H} {P : Program} {w : World} {base : Nat} {held : Bool} {α : Type} {K : Enc α} {Ok : α → Prop}

/-- What a type's cells are, read as data. -/
def Reads (enc : TypeId × Value → H) (P : Program) (w : World) (base : Nat) (held : Bool) (K : Enc α) (Ok : α → Prop) (e : TypeId) : Prop :=
  ∀ (n : Nat) (cs : List Value) (x : DataW H × List MemPlace), DataW.trod enc P w base (fun _ => true) held n e cs = some x → ∃ c, Ok c ∧ Vs (envOf w) (K.E c) cs ∧ Sc cs

theorem open_elems {e : TypeId} (hr : Reads enc P w base held K Ok e) (hC : P.cellsOf e = K.sz) {a : Addr} {n : Nat} {elems : List (DataW H × List MemPlace)} : ∀ (k : Nat), (∀ i, i < k → (w.cells? base (a.add (i * P.cellsOf e)) (P.cellsOf e)).bind (DataW.trod enc P w base (fun _ => true) held n e) = elems[i]?) → k ≤ elems.length →
    ∃ (l : List α) (L : List Value), l.length = k ∧ (∀ c ∈ l, Ok c) ∧ Vs (envOf w) (flat K.E l) L ∧ Sc L ∧ ∀ j v, L[j]? = some v → w.cell? (a.add j) = some v
  | 0, _, _ => ⟨[], [], rfl, by simp, .nil, by simp [Sc], by simp⟩
  | k + 1, h, hk => by
    obtain ⟨l, L, h1, h2, h3, h4, h5⟩ := open_elems hr hC k (fun i hi => h i (by omega)) (by omega)
    have hx := h k (by omega)
    rw [List.getElem?_eq_getElem (by omega)] at hx
    obtain ⟨cs, hc, ht⟩ := Option.bind_eq_some_iff.1 hx
    obtain ⟨c, g1, g2, g3⟩ := hr _ _ _ ht
    obtain ⟨_, hcl, hat⟩ := World.cells?_some hc
    have hLl : L.length = k * K.sz := by rw [← h3.length, flat_len, h1]
    refine ⟨l ++ [c], L ++ cs, by simp [h1], ?_, ?_, ?_, ?_⟩
    · intro c' hc'
      rcases List.mem_append.1 hc' with hc' | hc'
      · exact h2 c' hc'
      · simp at hc'; subst hc'; exact g1
    · rw [flat_append]
      refine h3.append ?_
      simpa [flat] using g2
    · intro v hv
      rcases List.mem_append.1 hv with hv | hv
      · exact h4 v hv
      · exact g3 v hv
    · intro j v hj
      by_cases hlt : j < L.length
      · rw [List.getElem?_append_left hlt] at hj
        exact h5 j v hj
      · rw [List.getElem?_append_right (by omega)] at hj
        have hjl := (List.getElem?_eq_some_iff.1 hj).1
        have := hat (j - L.length) (by omega)
        rw [hj] at this
        rw [← this]
        congr 1
        rw [hLl, hC]
        rw [hLl] at hlt
        exact add_split (by omega)

/-- An argument that is a slice. -/
theorem open_sl {t e : TypeId} (ht : P.underlying t = some (.slice e)) (hr : Reads enc P w base held K Ok e) (hC : P.cellsOf e = K.sz) (hpos : 0 < K.sz) {fuel : Nat} {r : Value} {x : DataW H × List MemPlace}
    (hs : ∀ a len cap, r = .slice (some a) len cap → a.spot = none) (h : DataW.trod enc P w base (fun _ => true) held fuel t [r] = some x) : ∃ (l : List α) (v : MV), Sl K l v ∧ V (envOf w) v r ∧ r.oneCell' = true ∧ (∀ c ∈ l, Ok c) ∧ l.length ≤ maxLen := by
  rcases DataW.trod_slice ht h with ⟨hcs, _⟩ | ⟨a, len, cap, elems, rest, n, _, hcs, _, hb, hl, hm, hlen, hel, hsp, hns⟩
  · simp only [List.cons.injEq, and_true] at hcs
    subst hcs
    exact ⟨[], .nils, .nil, .nils, rfl, by simp, by simp⟩
  · simp only [List.cons.injEq, and_true] at hcs
    subst hcs
    obtain ⟨l, L, h1, h2, h3, h4, h5⟩ := open_elems hr hC (elems := elems) len (fun i hi => hel i hi) (by omega)
    have hLl : L.length = len * K.sz := by rw [← h3.length, flat_len, h1]
    have hsp0 := hs _ _ _ rfl
    obtain ⟨n0, o0, sp⟩ := a
    simp only at hsp0
    subst hsp0
    refine ⟨l, .lit (flat K.E l) l.length none, .lit, ?_, rfl, h2, by omega⟩
    rw [h1]
    refine .lit ?_ (flat_deep K l) h3 h4 hl (by simp)
    by_cases hz : len = 0
    · refine .inl ⟨?_, hz⟩
      have : L.length = 0 := by rw [hLl, hz]; simp
      simpa using this
    · refine .inr (seg_of_cells ?_ h5)
      intro hL
      rw [hL] at hLl
      have : 0 < len * K.sz := Nat.mul_pos (by omega) hpos
      simp only [List.length_nil] at hLl
      omega

end
end Go.Mini
