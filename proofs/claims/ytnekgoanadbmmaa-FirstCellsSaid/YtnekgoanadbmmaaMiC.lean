/-
What a value, and a state, of Mini says of a value and a world of the model: V, Sim. How both are carried over when more is known (EnvLe).
-/
import Derived.Test.YtnekgoanadbmmaaMiB
import Derived.RangeFuncLeaves
import Derived.RangeFuncIn
import Derived.LoopNIn
import Derived.OrdersIn
import Derived.Below
import Derived.WalkKit
namespace Go.Mini
open Go.RowKit

structure Env where
  I : Nat → Option (Array Value)
  nb : Nat
  gen : Nat → Nat
  pl : Nat → Nat
  cap : Nat → Nat
  lam : Nat → Option Nat
  I0 : Nat → Option (Array Value)

/-- The cells L lie in block n from o on, and nobody writes there any more. -/
def Seg (E : Env) (n o : Nat) (L : List Value) : Prop :=
  ∃ C pre post, E.I n = some C ∧ C.toList = pre ++ L ++ post ∧ pre.length = o

/-- Each is one cell's value. -/
def Sc (L : List Value) : Prop := ∀ x ∈ L, x.oneCell' = true

mutual
inductive V (E : Env) : MV → Value → Prop
  | undef {r : Value} : V E .undef r
  | bool {b : Bool} : V E (.bool b) (.bool b)
  | int {k : IntKind} {n : Int} : V E (.int k n) (.int k n)
  | str {s : ByteArray} : V E (.str s) (.string s)
  | nilp : V E .nilp (.pointer none)
  | ptr {b g off : Nat} {a : Addr} (hb : b < E.nb) (hg : g ≤ E.gen b) (h : g = E.gen b → a = ⟨E.pl b, off, none⟩) : V E (.ptr b g off) (.pointer (some a))
  | pimm {cs : List MV} {off n o : Nat} {L : List Value} (hs : Seg E n o L) (hd : deepVs cs = true) (h : Vs E cs L) (h1 : Sc L) : V E (.pimm cs off) (.pointer (some ⟨n, o + off, none⟩))
  | nils : V E .nils (.slice none 0 0)
  | sl {b g off len sz cap : Nat} {kc : Option Nat} {a : Addr} (hb : b < E.nb) (hg : g ≤ E.gen b) (hl : len ≤ cap) (hk : ∀ c, kc = some c → cap = c)
      (h : g = E.gen b → a = ⟨E.pl b, off, none⟩ ∧ off + cap * sz ≤ E.cap b) : V E (.sl b g off len sz kc) (.slice (some a) len cap)
  | lit {cs : List MV} {len cap n o : Nat} {kc : Option Nat} {L : List Value} (hs : (L = [] ∧ len = 0) ∨ Seg E n o L) (hd : deepVs cs = true) (h : Vs E cs L) (h1 : Sc L) (hl : len ≤ cap) (hk : ∀ c, kc = some c → cap = c) :
      V E (.lit cs len kc) (.slice (some ⟨n, o, none⟩) len cap)
  | nilf : V E .nilf .nilFunc
  | fn {f : Nat} {a b : List MV} {a' b' : List Value} (ha : Vs E a a') (hb : Vs E b b') : V E (.fn f a b) (.func (.func f) a'.toArray b'.toArray)
  | yld {j l : Nat} (h : E.lam j = some l) : V E (.yld j) (.func (.yield l) #[] #[])
  | agg {cs : List MV} {cs' : List Value} (h : Vs E cs cs') (h1 : Sc cs') : V E (.agg cs) (.agg cs'.toArray)
  | tup {cs : List MV} {cs' : List Value} (h : Vs E cs cs') : V E (.tup cs) (.tuple cs'.toArray)
inductive Vs (E : Env) : List MV → List Value → Prop
  | nil : Vs E [] []
  | cons {v : MV} {r : Value} {vs : List MV} {rs : List Value} (h : V E v r) (hs : Vs E vs rs) : Vs E (v :: vs) (r :: rs)
end

/-! ### Lists -/
section lists
variable {E : Env}

theorem Vs.length {vs : List MV} {rs : List Value} (h : Vs E vs rs) : vs.length = rs.length := by
  induction vs generalizing rs with
  | nil => cases h; rfl
  | cons v vs ih => cases h with | cons h hs => simp [ih hs]

theorem Vs.get {vs : List MV} {rs : List Value} (h : Vs E vs rs) : ∀ {i : Nat} {v : MV}, vs[i]? = some v → ∃ r, rs[i]? = some r ∧ V E v r := by
  induction vs generalizing rs with
  | nil => intro i v hv; simp at hv
  | cons x vs ih =>
    cases h with
    | cons h hs =>
      intro i v hv
      cases i with
      | zero => simp at hv; subst hv; exact ⟨_, by simp, h⟩
      | succ i => simp at hv; obtain ⟨r, h1, h2⟩ := ih hs hv; exact ⟨r, by simpa using h1, h2⟩

theorem Vs.append {a b : List MV} {a' b' : List Value} (h : Vs E a a') (k : Vs E b b') : Vs E (a ++ b) (a' ++ b') := by
  induction a generalizing a' with
  | nil => cases h; exact k
  | cons v a ih => cases h with | cons h hs => exact .cons h (ih hs)

theorem Vs.take {vs : List MV} {rs : List Value} (h : Vs E vs rs) : ∀ n, Vs E (vs.take n) (rs.take n) := by
  induction vs generalizing rs with
  | nil => cases h; intro n; simp; exact .nil
  | cons v vs ih =>
    cases h with
    | cons h hs =>
      intro n
      cases n with
      | zero => simp; exact .nil
      | succ n => simp; exact .cons h (ih hs n)

theorem Vs.drop {vs : List MV} {rs : List Value} (h : Vs E vs rs) : ∀ n, Vs E (vs.drop n) (rs.drop n) := by
  induction vs generalizing rs with
  | nil => cases h; intro n; simp; exact .nil
  | cons v vs ih =>
    cases h with
    | cons h hs =>
      intro n
      cases n with
      | zero => exact .cons h hs
      | succ n => simpa using ih hs n

theorem Vs.set {vs : List MV} {rs : List Value} (h : Vs E vs rs) {v : MV} {r : Value} (hv : V E v r) : ∀ n, Vs E (vs.set n v) (rs.set n r) := by
  induction vs generalizing rs with
  | nil => cases h; intro n; simp; exact .nil
  | cons x vs ih =>
    cases h with
    | cons h hs =>
      intro n
      cases n with
      | zero => exact .cons hv hs
      | succ n => exact .cons h (ih hs n)

theorem Vs.replicate {v : MV} {r : Value} (h : V E v r) (n : Nat) : Vs E (List.replicate n v) (List.replicate n r) := by
  induction n with
  | zero => exact .nil
  | succ n ih => exact .cons h ih

theorem Vs.split {a b : List MV} {rs : List Value} (h : Vs E (a ++ b) rs) : ∃ a' b', rs = a' ++ b' ∧ Vs E a a' ∧ Vs E b b' := by
  induction a generalizing rs with
  | nil => exact ⟨[], rs, rfl, .nil, h⟩
  | cons v a ih =>
    cases h with
    | cons h hs => obtain ⟨a', b', e, h1, h2⟩ := ih hs; exact ⟨_ :: a', b', by simp [e], .cons h h1, h2⟩

theorem Vs.getD {vs : List MV} {rs : List Value} (h : Vs E vs rs) (i : Nat) : V E (vs.getD i (.tup [])) (rs.getD i undef) := by
  by_cases hi : i < vs.length
  · have hv : vs[i]? = some vs[i] := List.getElem?_eq_getElem hi
    obtain ⟨r, h1, h2⟩ := h.get hv
    simpa [List.getD, hv, h1] using h2
  · have h1 : vs[i]? = none := List.getElem?_eq_none (by omega)
    have h2 : rs[i]? = none := List.getElem?_eq_none (by have := h.length; omega)
    simp only [List.getD, h1, h2, Option.getD_none]
    exact .tup .nil

theorem deepVs_iff {vs : List MV} : deepVs vs = true ↔ ∀ v ∈ vs, deepV v = true := by
  induction vs with
  | nil => simp [deepVs]
  | cons v vs ih => simp [deepVs, ih]

theorem deepVs_append {a b : List MV} : deepVs (a ++ b) = (deepVs a && deepVs b) := by
  rw [Bool.eq_iff_iff]; simp [deepVs_iff, or_imp, forall_and]

theorem deepVs_take {vs : List MV} (h : deepVs vs = true) (n : Nat) : deepVs (vs.take n) = true :=
  deepVs_iff.2 fun v hv => deepVs_iff.1 h v (List.mem_of_mem_take hv)

theorem deepVs_drop {vs : List MV} (h : deepVs vs = true) (n : Nat) : deepVs (vs.drop n) = true :=
  deepVs_iff.2 fun v hv => deepVs_iff.1 h v (List.mem_of_mem_drop hv)

theorem deepVs_get {vs : List MV} (h : deepVs vs = true) {i : Nat} {v : MV} (hv : vs[i]? = some v) : deepV v = true :=
  deepVs_iff.1 h v (List.mem_of_getElem? hv)

theorem deepVs_set {vs : List MV} {v : MV} (h : deepVs vs = true) (hv : deepV v = true) (n : Nat) : deepVs (vs.set n v) = true :=
  deepVs_iff.2 fun x hx => by
    rcases List.mem_or_eq_of_mem_set hx with h' | h'
    · exact deepVs_iff.1 h x h'
    · exact h' ▸ hv
end lists

theorem Sc.append {a b : List Value} (h : Sc a) (k : Sc b) : Sc (a ++ b) := fun x hx => (List.mem_append.1 hx).elim (h x) (k x)
theorem Sc.left {a b : List Value} (h : Sc (a ++ b)) : Sc a := fun x hx => h x (List.mem_append_left _ hx)
theorem Sc.right {a b : List Value} (h : Sc (a ++ b)) : Sc b := fun x hx => h x (List.mem_append_right _ hx)
theorem Sc.take {a : List Value} (h : Sc a) (n : Nat) : Sc (a.take n) := fun x hx => h x (List.mem_of_mem_take hx)
theorem Sc.drop {a : List Value} (h : Sc a) (n : Nat) : Sc (a.drop n) := fun x hx => h x (List.mem_of_mem_drop hx)
theorem Sc.set {a : List Value} (h : Sc a) {v : Value} (hv : v.oneCell' = true) (n : Nat) : Sc (a.set n v) := fun x hx => by
  rcases List.mem_or_eq_of_mem_set hx with h' | h'
  · exact h x h'
  · exact h' ▸ hv
theorem Sc.nil : Sc [] := fun _ h => by simp at h
theorem Sc.cons {v : Value} {a : List Value} (hv : v.oneCell' = true) (h : Sc a) : Sc (v :: a) := fun x hx => by
  rcases List.mem_cons.1 hx with rfl | h'
  · exact hv
  · exact h x h'

/-! ### More is known -/

structure EnvLe (E E' : Env) : Prop where
  I : ∀ n C, E.I n = some C → E'.I n = some C
  nb : E.nb ≤ E'.nb
  gen : ∀ b, b < E.nb → E.gen b ≤ E'.gen b
  pl : ∀ b, b < E.nb → E.gen b = E'.gen b → E'.pl b = E.pl b ∧ E'.cap b = E.cap b
  lam : ∀ j l, E.lam j = some l → E'.lam j = some l
  I0 : E'.I0 = E.I0

theorem EnvLe.refl (E : Env) : EnvLe E E := ⟨fun _ _ h => h, Nat.le_refl _, fun _ _ => Nat.le_refl _, fun _ _ _ => ⟨rfl, rfl⟩, fun _ _ h => h, rfl⟩

theorem EnvLe.trans {A B C : Env} (h : EnvLe A B) (k : EnvLe B C) : EnvLe A C where
  I n c hc := k.I n c (h.I n c hc)
  nb := Nat.le_trans h.nb k.nb
  gen b hb := Nat.le_trans (h.gen b hb) (k.gen b (Nat.lt_of_lt_of_le hb h.nb))
  pl b hb he := by
    have h1 := h.gen b hb
    have h2 := k.gen b (Nat.lt_of_lt_of_le hb h.nb)
    have e1 : A.gen b = B.gen b := by omega
    have e2 : B.gen b = C.gen b := by omega
    obtain ⟨p1, c1⟩ := h.pl b hb e1
    obtain ⟨p2, c2⟩ := k.pl b (Nat.lt_of_lt_of_le hb h.nb) e2
    exact ⟨p2.trans p1, c2.trans c1⟩
  lam j l hl := k.lam j l (h.lam j l hl)
  I0 := k.I0.trans h.I0

theorem Seg.mono {E E' : Env} (hI : ∀ n C, E.I n = some C → E'.I n = some C) {n o : Nat} {L : List Value} (h : Seg E n o L) : Seg E' n o L := by
  obtain ⟨C, pre, post, h1, h2, h3⟩ := h
  exact ⟨C, pre, post, hI _ _ h1, h2, h3⟩

mutual
theorem V.mono {E E' : Env} (hE : EnvLe E E') : ∀ {v : MV} {r : Value}, V E v r → V E' v r
  | _, _, .undef => .undef
  | _, _, .bool => .bool
  | _, _, .int => .int
  | _, _, .str => .str
  | _, _, .nilp => .nilp
  | _, _, @V.ptr _ b _ _ _ hb hg h => .ptr (Nat.lt_of_lt_of_le hb hE.nb) (Nat.le_trans hg (hE.gen _ hb)) (fun e => by
      have h1 := hE.gen b hb
      have e1 : E.gen b = E'.gen b := by omega
      rw [(hE.pl b hb e1).1]; exact h (by omega))
  | _, _, .pimm hs hd h h1 => .pimm (hs.mono hE.I) hd (h.mono hE) h1
  | _, _, .nils => .nils
  | _, _, @V.sl _ b _ _ _ _ _ _ _ hb hg hl hk h => .sl (Nat.lt_of_lt_of_le hb hE.nb) (Nat.le_trans hg (hE.gen _ hb)) hl hk (fun e => by
      have h1 := hE.gen b hb
      have e1 : E.gen b = E'.gen b := by omega
      rw [(hE.pl b hb e1).1, (hE.pl b hb e1).2]; exact h (by omega))
  | _, _, .lit hs hd h h1 hl hk => .lit (hs.imp id fun hs => hs.mono hE.I) hd (h.mono hE) h1 hl hk
  | _, _, .nilf => .nilf
  | _, _, .fn ha hb => .fn (ha.mono hE) (hb.mono hE)
  | _, _, .yld h => .yld (hE.lam _ _ h)
  | _, _, .agg h h1 => .agg (h.mono hE) h1
  | _, _, .tup h => .tup (h.mono hE)
theorem Vs.mono {E E' : Env} (hE : EnvLe E E') : ∀ {vs : List MV} {rs : List Value}, Vs E vs rs → Vs E' vs rs
  | _, _, .nil => .nil
  | _, _, .cons h hs => .cons (h.mono hE) (hs.mono hE)
end

mutual
/-- A tree says the same in every memory. -/
theorem V.deep {E E' : Env} (hI : ∀ n C, E.I n = some C → E'.I n = some C) : ∀ {v : MV} {r : Value}, V E v r → deepV v = true → V E' v r
  | _, _, .undef, _ => .undef
  | _, _, .bool, _ => .bool
  | _, _, .int, _ => .int
  | _, _, .str, _ => .str
  | _, _, .nilp, _ => .nilp
  | _, _, .ptr .., hd => by simp [deepV] at hd
  | _, _, .pimm hs hd h h1, _ => .pimm (hs.mono hI) hd (h.deep hI hd) h1
  | _, _, .nils, _ => .nils
  | _, _, .sl .., hd => by simp [deepV] at hd
  | _, _, .lit hs hd h h1 hl hk, _ => .lit (hs.imp id fun hs => hs.mono hI) hd (h.deep hI hd) h1 hl hk
  | _, _, .nilf, _ => .nilf
  | _, _, .fn ha hb, hd => by
    simp only [deepV, Bool.and_eq_true] at hd
    exact .fn (ha.deep hI hd.1) (hb.deep hI hd.2)
  | _, _, .yld _, hd => by simp [deepV] at hd
  | _, _, .agg h h1, hd => .agg (h.deep hI (by simpa [deepV] using hd)) h1
  | _, _, .tup h, hd => .tup (h.deep hI (by simpa [deepV] using hd))
theorem Vs.deep {E E' : Env} (hI : ∀ n C, E.I n = some C → E'.I n = some C) : ∀ {vs : List MV} {rs : List Value}, Vs E vs rs → deepVs vs = true → Vs E' vs rs
  | _, _, .nil, _ => .nil
  | _, _, .cons h hs, hd => by
    simp only [deepVs, Bool.and_eq_true] at hd
    exact .cons (h.deep hI hd.1) (hs.deep hI hd.2)
end

/-! ### The text of code in Mini -/

inductive Tr (P : Program) (pm : Nat → Bool) : Code → IC → Prop
  | skip : Tr P pm .skip .skip
  | reg {id : Nat} {ops : Array Oper} {dr : Bool} {l : List IOper} (h : trOpers P ops.toList ops.toList = some (stripL l)) (ho : dr = true → wellOrd pm ops.toList l = true) : Tr P pm (.region id ops dr) (.reg dr l)
  | seq {a b : Code} {a' b' : IC} (ha : Tr P pm a a') (hb : Tr P pm b b') : Tr P pm (.seq a b) (.seq a' b')
  | cond {c : Operand} {c' : Opd} {a b : Code} {a' b' : IC} (hc : trOpd c = some c') (ha : Tr P pm a a') (hb : Tr P pm b b') : Tr P pm (.cond c a b) (.cond c' a' b')
  | block {id : Nat} {a : Code} {a' : IC} (ha : Tr P pm a a') : Tr P pm (.block id a) (.block id a')
  | loop {a : Code} {a' : IC} {live : List Bool} (ha : Tr P pm a a') : Tr P pm (.loop a) (.loop live a')
  | rangeF {f : Operand} {f' : Opd} {ps : Array Tmp} {a b : Code} {a' b' : IC} (hf : trOpd f = some f') (ha : Tr P pm a a') (hb : Tr P pm b b') : Tr P pm (.rangeFunc f ps a b) (.rangeF f' ps.toList a' b')
  | exit {id : Nat} : Tr P pm (.exit id) (.exit id)
  | ret : Tr P pm .ret .ret
  | mask {live : List Bool} {c : Code} {b : IC} (h : Tr P pm c b) : Tr P pm c (.seq (.mask live) b)
  | stuck {c : Code} {a : IC} : Tr P pm c (.stuck a)

theorem tr_of {P : Program} {pm : Nat → Bool} : ∀ (ir : IC) (c : Code), trC P c = some (strip ir) → ordC pm ir c = true → Tr P pm c ir := by
  intro ir
  induction ir with
  | skip =>
    intro c h _
    cases c <;> simp only [trC, strip] at h <;> first | exact .skip | (exfalso; revert h; (repeat' split) <;> simp)
  | reg dr l =>
    intro c h ho
    cases c <;> simp only [trC, strip] at h
    case region id ops dr' =>
      cases hl : trOpers P ops.toList ops.toList with
      | none => simp [hl] at h
      | some l' =>
        simp only [hl, Option.some.injEq, IC.reg.injEq] at h
        obtain ⟨rfl, rfl⟩ := h
        refine .reg hl fun e => ?_
        subst e
        exact ho
    all_goals (exfalso; revert h; (repeat' split) <;> simp)
  | seq a b iha ihb =>
    intro c h ho
    by_cases hm : ∃ live, a = .mask live
    · obtain ⟨live, rfl⟩ := hm
      simp only [strip] at h
      simp only [ordC] at ho
      exact .mask (ihb c h ho)
    · have hs : strip (.seq a b) = .seq (strip a) (strip b) := by
        cases a <;> first | rfl | exact absurd ⟨_, rfl⟩ hm
      rw [hs] at h
      cases c <;> simp only [trC] at h
      case seq x y =>
        have ho' : ordC pm a x = true ∧ ordC pm b y = true := by
          have : ordC pm (.seq a b) (.seq x y) = (ordC pm a x && ordC pm b y) := by
            cases a <;> first | rfl | exact absurd ⟨_, rfl⟩ hm
          rw [this] at ho
          simpa using ho
        cases hx : trC P x with
        | none => simp [hx] at h
        | some x' =>
          cases hy : trC P y with
          | none => simp [hx, hy] at h
          | some y' =>
            simp only [hx, hy, Option.some.injEq, IC.seq.injEq] at h
            obtain ⟨rfl, rfl⟩ := h
            exact .seq (iha _ hx ho'.1) (ihb _ hy ho'.2)
      all_goals (exfalso; revert h; (repeat' split) <;> simp)
  | cond c' a b iha ihb =>
    intro c h ho
    cases c <;> simp only [trC, strip] at h
    case cond c x y =>
      simp only [ordC, Bool.and_eq_true] at ho
      cases hc : trOpd c with
      | none => simp [hc] at h
      | some c'' =>
        cases hx : trC P x with
        | none => simp [hc, hx] at h
        | some x' =>
          cases hy : trC P y with
          | none => simp [hc, hx, hy] at h
          | some y' =>
            simp only [hc, hx, hy, Option.some.injEq, IC.cond.injEq] at h
            obtain ⟨rfl, rfl, rfl⟩ := h
            exact .cond hc (iha _ hx ho.1) (ihb _ hy ho.2)
    all_goals (exfalso; revert h; (repeat' split) <;> simp)
  | block id a iha =>
    intro c h ho
    cases c <;> simp only [trC, strip] at h
    case block id' x =>
      simp only [ordC] at ho
      cases hx : trC P x with
      | none => simp [hx] at h
      | some x' =>
        simp only [hx, Option.map_some, Option.some.injEq, IC.block.injEq] at h
        obtain ⟨rfl, rfl⟩ := h
        exact .block (iha _ hx ho)
    all_goals (exfalso; revert h; (repeat' split) <;> simp)
  | loop live a iha =>
    intro c h ho
    cases c <;> simp only [trC, strip] at h
    case loop x =>
      simp only [ordC] at ho
      cases hx : trC P x with
      | none => simp [hx] at h
      | some x' =>
        simp only [hx, Option.map_some, Option.some.injEq, IC.loop.injEq] at h
        obtain ⟨_, rfl⟩ := h
        exact .loop (iha _ hx ho)
    all_goals (exfalso; revert h; (repeat' split) <;> simp)
  | rangeF f ps a b iha ihb =>
    intro c h ho
    cases c <;> simp only [trC, strip] at h
    case rangeFunc f' ps' x y =>
      simp only [ordC, Bool.and_eq_true] at ho
      cases hc : trOpd f' with
      | none => simp [hc] at h
      | some c'' =>
        cases hx : trC P x with
        | none => simp [hc, hx] at h
        | some x' =>
          cases hy : trC P y with
          | none => simp [hc, hx, hy] at h
          | some y' =>
            simp only [hc, hx, hy, Option.some.injEq, IC.rangeF.injEq] at h
            obtain ⟨rfl, rfl, rfl, rfl⟩ := h
            exact .rangeF hc (iha _ hx ho.1) (ihb _ hy ho.2)
    all_goals (exfalso; revert h; (repeat' split) <;> simp)
  | exit id =>
    intro c h _
    cases c <;> simp only [trC, strip] at h
    case exit id' =>
      simp only [Option.some.injEq, IC.exit.injEq] at h
      subst h
      exact .exit
    all_goals (exfalso; revert h; (repeat' split) <;> simp)
  | ret =>
    intro c h _
    cases c <;> simp only [trC, strip] at h
    case ret => exact .ret
    all_goals (exfalso; revert h; (repeat' split) <;> simp)
  | stuck a _ => intro c _ _; exact .stuck
  | mask live =>
    intro c h _
    cases c <;> simp only [trC, strip] at h <;> (exfalso; revert h; (repeat' split) <;> simp)

end Go.Mini
