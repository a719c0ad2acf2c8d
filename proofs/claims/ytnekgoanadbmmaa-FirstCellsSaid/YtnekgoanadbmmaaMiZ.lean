/-
Ranges over iterators that have blocks of their own: what the round's body may touch is said by a set W of blocks.
-/
import Derived.Test.YtnekgoanadbmmaaMiY
namespace Go.Mini

section
variable {P : IProg} {nt : Nat} {A : As} {m : Mem} {ls : List LRec}

/-- Behind some steps: what is neither W's nor new is as it was. -/
structure Kept (W W' : Nat → Prop) (m m' : Mem) : Prop where
  lt : ∀ q, W' q → q < m'.length
  le : m.length ≤ m'.length
  new : ∀ q, W' q → W q ∨ m.length ≤ q
  same : ∀ q, q < m.length → ¬ W q → m'[q]? = m[q]?

theorem Kept.get {W W' : Nat → Prop} {m m' : Mem} (h : Kept W W' m m') {q : Nat} {k : Blk} (hq : ¬ W q) (hk : m[q]? = some k) : m'[q]? = some k := by
  rw [h.same q (get_lt hk) hq]; exact hk

/-- The function goes over xs. -/
def IterP (P : IProg) (g : Nat) (a b : List MV) (xs : List (List MV)) : Prop :=
  ∀ (J : Nat → (Nat → Prop) → Mem → List LRec → Prop) (S : Mem → List LRec → Prop) (j : Nat) (W : Nat → Prop) (m : Mem) (ls : List LRec), J 0 W m ls → (∀ q, W q → q < m.length) →
    (∀ i W m ls m', J i W m ls → m.length ≤ m'.length → (∀ q, W q → m'[q]? = m[q]?) → J i W m' ls) →
    (∀ i x W m ls, xs[i]? = some x → J i W m ls → (∀ q, W q → q < m.length) → Wy P j x m ls fun v m' ls' => (v = .bool true ∧ ∃ W', J (i + 1) W' m' ls' ∧ Kept W W' m m') ∨ (v = .bool false ∧ S m' ls')) →
    Wc P g (a ++ [.yld j] ++ b) m ls fun _ m' ls' => (∃ W', J xs.length W' m' ls') ∨ S m' ls'

/-- A range over such a one. -/
theorem wx_overP {f : Opd} {ps : List Nat} {asg body : IC} {g : Nat} {a b : List MV} {xs : List (List MV)} {Q : Ex → As → Mem → List LRec → Prop} (K : Nat → (Nat → Prop) → Mem → Prop) (E : Ex → Mem → Prop) (W : Nat → Prop) (hf : lk A f = some (.fn g a b)) (hit : IterP P g a b xs) (hp : ps.all (fun p => Nat.blt p nt) = true)
    (hlen : ∀ x ∈ xs, x.length = ps.length) (h0 : K 0 W m) (hW : ∀ q, W q → q < m.length)
    (hK : ∀ i W m m', K i W m → m.length ≤ m'.length → (∀ q, W q → m'[q]? = m[q]?) → K i W m')
    (hbody : ∀ i x W m ls, xs[i]? = some x → K i W m → (∀ q, W q → q < m.length) → Wx P nt asg (setA A ps x) m ls fun ex A' m' ls' => ex = .normal ∧ ls' = ls ∧ Body P nt body A' m' fun e m'' => match e with | .normal => ∃ W', K (i + 1) W' m'' ∧ Kept W W' m m'' | e => E e m'')
    (hend : ∀ W m junk, K xs.length W m → Q .normal A m (ls ++ junk)) (hstop : ∀ e m junk, e ≠ .normal → E e m → Q e A m (ls ++ junk)) : Wx P nt (.rangeF f ps asg body) A m ls Q := by
  refine wx_range hf fun T hT hA => ?_
  refine (hit (fun i W m' ls' => K i W m' ∧ LsK ls T ps asg body 0 none ls') (fun m' ls' => ∃ e, e ≠ .normal ∧ LsK ls T ps asg body 2 (some e) ls' ∧ E e m') ls.length W m _ ⟨h0, [], rfl⟩ hW (fun i W m ls m' h h1 h2 => ⟨hK i W m m' h.1 h1 h2, h.2⟩) ?_).mono ?_
  · rintro i x W1 m1 ls1 hx ⟨hK1, hls⟩ hW1
    refine (wy_body hls rfl (hlen x (List.mem_of_getElem? hx)) hT hp hA (hbody i x W1 m1 · hx hK1 hW1)).mono ?_
    rintro v m2 ls2 (⟨rfl, h1, W', h2, h3⟩ | ⟨rfl, e, h1, h2, h3⟩)
    · exact .inl ⟨rfl, W', ⟨h2, h1⟩, h3⟩
    · refine .inr ⟨rfl, e, h1, h2, ?_⟩
      cases e with
      | normal => exact absurd rfl h1
      | exit id => exact h3
      | ret => exact h3
  · rintro v m2 ls2 (⟨W', hK, junk, rfl⟩ | ⟨e, h1, ⟨junk, rfl⟩, h2⟩)
    · refine ⟨_, lsK_at ⟨junk, rfl⟩, .inl rfl, ?_⟩
      rw [set_mid]
      exact hend _ _ _ hK
    · refine ⟨_, lsK_at ⟨junk, rfl⟩, .inr rfl, ?_⟩
      rw [set_mid]
      exact hstop e _ _ h1 h2

/-- The block that a slice looks into. -/
def slB : MV → Nat → Prop
  | .sl b _ _ _ _ _, q => q = b
  | _, _ => False

variable {α : Type} {K : Enc α}

theorem Hold.lt {N : Nat} {xs : List α} {v : MV} (h : Hold K N xs m v) {q : Nat} (hq : slB v q) : N ≤ q ∧ q < m.length := by
  rcases h with ⟨rfl, rfl⟩ | ⟨b, g, h1, rfl, h3⟩
  · cases hq
  · have e : q = b := hq
    subst e
    exact ⟨h1, get_lt h3⟩

/-- What hangs on the slice's block alone. -/
theorem Hold.keep {N : Nat} {xs : List α} {v : MV} (h : Hold K N xs m v) {m' : Mem} (hm : ∀ q, slB v q → m'[q]? = m[q]?) : Hold K N xs m' v := by
  rcases h with h | ⟨b, g, h1, rfl, h3⟩
  · exact .inl h
  · exact .inr ⟨b, g, h1, rfl, by rw [hm b rfl]; exact h3⟩

/-- An append of one: what it touches. -/
theorem Hold.add1' {N bytes sz : Nat} {xs : List α} {y : α} {v : MV} {cs : List MV} {kc : Option Nat} (h : Hold K N xs m v) (hN : N ≤ m.length) (hr : (xs.length + 1) * bytes ≤ 35184372088832) (hz : K.sz = sz) (hc : cs = K.E y) :
    ∃ v' m', appM m sz bytes v (.lit cs 1 kc) = some (v', m') ∧ Hold K N (xs ++ [y]) m' v' ∧ m.length ≤ m'.length ∧ (∀ q, q < m.length → ¬ slB v q → m'[q]? = m[q]?) ∧ (∀ q, slB v' q → slB v q ∨ q = m.length) := by
  subst hz hc
  have hroom : roomy (xs.length + 1) bytes = true := by simp [roomy, hr]
  have e2 : lenM (.lit (K.E y) 1 kc) = some 1 := rfl
  have e3 : srcCells m K.sz (.lit (K.E y) 1 kc) = some (K.E y, true) := by
    have := src_lit (m := m) (K := K) (xs := [y]) (kc := kc)
    simpa [flat] using this
  have e4 : ∀ xs, flat K.E (xs ++ [y]) = flat K.E xs ++ K.E y := fun xs => by rw [flat_append]; simp [flat]
  rcases h with ⟨rfl, rfl⟩ | ⟨b, g, h1, rfl, h3⟩
  · refine ⟨.sl m.length 1 0 1 K.sz none, m ++ [⟨K.E y, 1, true⟩], ?_, .inr ⟨m.length, 1, hN, rfl, by simp [flat]⟩, by simp, fun q hq _ => by rw [List.getElem?_append_left hq], fun q hq => .inr hq⟩
    have hroom' : roomy 1 bytes = true := by simpa using hroom
    have e : lenM .nils = some 0 := rfl
    unfold appM
    rw [e2, e3, e]
    simp [hroom']
  · refine ⟨.sl b (g + 1) 0 (xs.length + 1) K.sz none, m.set b ⟨flat K.E xs ++ K.E y, g + 1, true⟩, ?_, .inr ⟨b, g + 1, h1, by simp, ?_⟩, by simp, fun q hq hn => ?_, fun q hq => .inl hq⟩
    · have e : lenM (.sl b g 0 xs.length K.sz none) = some xs.length := rfl
      unfold appM
      rw [e2, e3, e]
      simp only [hroom, if_true, blk_of h3 rfl, take_all (flat_len K xs), fullK]
      simp
    · rw [List.getElem?_set_self (List.getElem?_eq_some_iff.1 h3).1, e4]
    · have : b ≠ q := fun e => hn e.symm
      rw [List.getElem?_set_ne this]

/-! ### Stores that are found again -/

theorem get_push2 {m : Mem} {b : Nat} {k : Blk} (h : m[b]? = some k) (x y : Blk) : (m ++ [x] ++ [y])[b]? = some k := get_app (get_app h x) y
theorem wo_loadA {n : Option Nat} {a : Opd} {k x : Blk} {g off : Nat} {v : MV} {d : Option Nat} {l : List IOper} {Q : As → Mem → List LRec → Prop} (ha : lk A a = some (.ptr m.length g off)) (hg : k.gen = g) (hv : loadFrom k.cells off n = some v) (hd : okD nt d = true)
    (hk : Wo P nt l (putA A d v) (m ++ [k] ++ [x]) ls Q) : Wo P nt (⟨d, none, .load n a⟩ :: l) A (m ++ [k] ++ [x]) ls Q :=
  wo_load ha (get_app (get_last m k) x) hg hv hd hk

end
end Go.Mini
