/-
Calls: with the caller's memory, or with a memory of their own; rounds; the machine.
-/
import Derived.Test.YtnekgoanadbmmaaMiP
namespace Go.Mini
open Go.RowKit
set_option linter.unusedSimpArgs false

/-- What the caller knows when a callee with a memory of its own has ended: the callee's blocks are read no more. -/
def Env.own (E : Env) (n0 : Nat) (H : Array Obj) (skip : Option Nat) : Env :=
  { E with I := fun n => if n < n0 then E.I n else if skip = some n then none else match H[n]? with | some (.cells C _ _) => some C | _ => none }

theorem Env.own_lt {E : Env} {n0 : Nat} {H : Array Obj} {skip : Option Nat} {n : Nat} (h : n < n0) : (E.own n0 H skip).I n = E.I n := by simp [Env.own, h]
theorem Env.own_ge {E : Env} {n0 : Nat} {H : Array Obj} {skip : Option Nat} {n : Nat} (h : ¬ n < n0) (hs : skip ≠ some n) {C : Array Value} {el : TypeId} {fr : Nat × Nat} (hH : H[n]? = some (.cells C el fr)) : (E.own n0 H skip).I n = some C := by simp [Env.own, h, hs, hH]

/-- The callee's environment: all that is known is known; no block, no loop. -/
def Env.call (E : Env) : Env := { I := E.I, nb := 0, gen := fun _ => 0, pl := fun _ => 0, cap := fun _ => 0, lam := fun _ => none, I0 := E.I }

section own
variable {P : Program} {pm : Nat → Bool}

theorem Sim.call {E : Env} {m : Mem} {ls : List LRec} {base : Nat} {H : Array Obj} (h : Sim P pm E m ls base H) : Sim P pm E.call [] [] H.size H where
  nb := rfl
  bas := Nat.le_refl _
  blk i k hi := by simp at hi
  inj i j hi := by simp at hi
  imm n C hn := ⟨(h.imm n C hn).1, fun i hi => by simp at hi⟩
  lrec j r hj := by simp at hj
  lam j l hj := by simp [Env.call] at hj
  lamInj i j l hi := by simp [Env.call] at hi
  old n C _ hn := hn

theorem Sim.I_lt {E : Env} {m : Mem} {ls : List LRec} {base : Nat} {H : Array Obj} (h : Sim P pm E m ls base H) {n : Nat} {C : Array Value} (hn : E.I n = some C) : n < H.size := by
  obtain ⟨⟨el, fr, h1⟩, _⟩ := h.imm n C hn
  exact (Array.getElem?_eq_some_iff.1 h1).1

theorem Env.le_own {E : Env} {m : Mem} {ls : List LRec} {base : Nat} {H H' : Array Obj} (h : Sim P pm E m ls base H) (skip : Option Nat) : EnvLe E (E.own H.size H' skip) where
  I n C hn := by rw [Env.own_lt (h.I_lt hn)]; exact hn
  nb := Nat.le_refl _
  gen _ _ := Nat.le_refl _
  pl _ _ _ := ⟨rfl, rfl⟩
  lam _ _ h := h
  I0 := rfl

theorem Sim.own {E : Env} {m : Mem} {ls : List LRec} {base : Nat} {w w' : World} (h : Sim P pm E m ls base w.heap) (hst : Stp w.heap.size w w') (skip : Option Nat) : Sim P pm (E.own w.heap.size w'.heap skip) m ls base w'.heap := by
  have hle : EnvLe E (E.own w.heap.size w'.heap skip) := Env.le_own h skip
  exact
    { nb := h.nb
      bas := Nat.le_trans h.bas hst.below.size
      blk := fun i k hi => by
        have hk := h.blk i k hi
        obtain ⟨C, el, L, post, h1, h2, h3, h4⟩ := hk.mem
        exact ⟨hk.gen, hk.pl, ⟨C, el, L, post, by rw [show (E.own w.heap.size w'.heap skip).pl = E.pl from rfl, hst.below.block _ (h.lt hi)]; exact h1, h2, h3, h4.1.mono hle, h4.2⟩, hk.deep⟩
      inj := h.inj
      imm := fun n C hn => by
        by_cases hlt : n < w.heap.size
        · rw [Env.own_lt hlt] at hn
          obtain ⟨⟨el, fr, h1⟩, h2⟩ := h.imm n C hn
          exact ⟨⟨el, fr, by rw [hst.below.block _ hlt]; exact h1⟩, h2⟩
        · simp only [Env.own, if_neg hlt] at hn
          split at hn
          · simp at hn
          · split at hn
            · rename_i C' el fr hC
              simp only [Option.some.injEq] at hn
              subst hn
              refine ⟨⟨el, fr, hC⟩, fun i hi => ?_⟩
              have := h.lt (List.getElem?_eq_getElem hi)
              show E.pl i ≠ n
              omega
            · simp at hn
      lrec := fun j r hj => by
        obtain ⟨l, q, h1, h2, h3, h4⟩ := h.lrec j r hj
        exact ⟨l, q, h1, h2, by rw [hst.below.block _ (Array.getElem?_eq_some_iff.1 h3).1]; exact h3, h4.mono hle⟩
      lam := h.lam, lamInj := h.lamInj
      old := fun n C hlt hn => by
        have hb := h.bas
        rw [Env.own_lt (by omega)] at hn
        exact h.old n C hlt hn }

/-- What the callee took for a tree is one to the caller. -/
theorem own_I {E E1 : Env} {m : Mem} {ls : List LRec} {n0 : Nat} {H : Array Obj} (hE : EnvLe E.call E1) (h : Sim P pm E1 m ls n0 H) {skip : Option Nat} (hs : ∀ n, skip = some n → ∃ i, i < m.length ∧ E1.pl i = n) : ∀ n C, E1.I n = some C → (E.own n0 H skip).I n = some C := by
  intro n C hn
  by_cases hlt : n < n0
  · rw [Env.own_lt hlt]
    have := h.old n C hlt hn
    rw [hE.I0] at this
    exact this
  · obtain ⟨⟨el, fr, h1⟩, h2⟩ := h.imm n C hn
    refine Env.own_ge hlt (fun e => ?_) h1
    obtain ⟨i, hi, e1⟩ := hs n e
    exact h2 i hi e1

/-! ### Freezing -/

theorem takeAt_some {cs : List MV} {off n : Nat} {xs : List MV} (h : takeAt cs off n = some xs) : off + n ≤ cs.length ∧ xs = (cs.drop off).take n := by
  unfold takeAt at h
  split at h
  · rename_i hle; simp at h; exact ⟨hle, h.symm⟩
  · simp at h

theorem frz_ok {E1 E2 : Env} {m : Mem} {ls : List LRec} {n0 : Nat} {H : Array Obj} (hS : Sim P pm E1 m ls n0 H) (hI : ∀ n C, E1.I n = some C → E2.I n = some C)
    (hB : ∀ i C el fr, i < m.length → H[E1.pl i]? = some (Obj.cells C el fr) → E2.I (E1.pl i) = some C) :
    ∀ (n : Nat), (∀ {v : MV} {r : Value} {v' : MV}, V E1 v r → frz m n v = some v' → V E2 v' r ∧ deepV v' = true) ∧ (∀ {vs : List MV} {rs : List Value} {vs' : List MV}, Vs E1 vs rs → frzs m n vs = some vs' → Vs E2 vs' rs ∧ deepVs vs' = true)
  | 0 => ⟨fun _ h => by simp [frz] at h, fun _ h => by simp [frzs] at h⟩
  | n + 1 => by
    obtain ⟨ih1, ih2⟩ := frz_ok hS hI hB n
    have cellsOk : ∀ {cs : List MV} {L : List Value} {d : Bool} {cs' : List MV}, (d = true → deepVs cs = true) → Vs E1 cs L → (if d = true then some cs else frzs m n cs) = some cs' → Vs E2 cs' L ∧ deepVs cs' = true := by
      intro cs L d cs' hd hV h
      split at h
      · rename_i e
        simp only [Option.some.injEq] at h
        subst h
        exact ⟨hV.deep hI (hd e), hd e⟩
      · exact ih2 hV h
    refine ⟨fun {v r v'} hV h => ?_, fun {vs rs vs'} hV h => ?_⟩
    · unfold frz at h
      split at h
      · rename_i hdp
        simp only [Option.some.injEq] at h
        subst h
        exact ⟨hV.deep hI hdp, hdp⟩
      split at h
      · rename_i b g off _
        split at h
        case h_2 => simp at h
        rename_i k hk
        split at h
        case h_2 => simp at h
        rename_i cs hcs
        simp only [Option.some.injEq] at h
        subst h
        cases hV with
        | @ptr _ _ _ a hb hg ha =>
        obtain ⟨hmb, hgen⟩ := blk?_some hk
        have hB0 := hS.blk b k hmb
        obtain ⟨C, el, L, post, c1, c2, c3, c4, c5⟩ := hB0.mem
        obtain ⟨q1, q2⟩ := cellsOk hB0.deep c4 hcs
        have e := ha (by rw [hB0.gen, hgen])
        rw [e]
        refine ⟨?_, rfl⟩
        have := V.pimm (E := E2) (off := off) (n := E1.pl b) (o := 0) (L := L) ⟨C, [], post, hB _ _ _ _ (List.getElem?_eq_some_iff.1 hmb).1 c1, by simpa using c3, rfl⟩ q2 q1 c5
        simpa using this
      · rename_i b g off len sz kc _
        split at h
        case h_2 => simp at h
        rename_i k hk
        split at h
        case h_2 => simp at h
        rename_i cs0 hcs0
        split at h
        case h_2 => simp at h
        rename_i cs hcs
        simp only [Option.some.injEq] at h
        subst h
        obtain ⟨hle, rfl⟩ := takeAt_some hcs0
        cases hV with
        | @sl _ _ _ _ _ cap _ a hb hg hl hkc ha =>
        obtain ⟨hmb, hgen⟩ := blk?_some hk
        have hB0 := hS.blk b k hmb
        obtain ⟨C, el, L, post, c1, c2, c3, c4, c5⟩ := hB0.mem
        have c4' := (c4.drop off).take (len * sz)
        obtain ⟨q1, q2⟩ := cellsOk (fun e => deepVs_take (deepVs_drop (hB0.deep e) _) _) c4' hcs
        have e := (ha (by rw [hB0.gen, hgen])).1
        rw [e]
        refine ⟨.lit (n := E1.pl b) (o := off) (L := (L.drop off).take (len * sz)) (.inr ⟨C, L.take off, L.drop (off + len * sz) ++ post, hB _ _ _ _ (List.getElem?_eq_some_iff.1 hmb).1 c1, ?_, ?_⟩) q2 q1 ((c5.drop _).take _) hl hkc, rfl⟩
        · have e1 : L = L.take off ++ (L.drop off).take (len * sz) ++ L.drop (off + len * sz) := by
            have h1 := List.take_append_drop off L
            have h2 := List.take_append_drop (len * sz) (L.drop off)
            rw [List.drop_drop] at h2
            rw [List.append_assoc, h2, h1]
          rw [c3]
          conv => lhs; rw [e1]
          simp
        · have := c4.length
          simp; omega
      · split at h
        case h_2 => simp at h
        rename_i cs hcs
        simp only [Option.some.injEq] at h
        subst h
        cases hV with
        | agg hc h1 =>
        obtain ⟨q1, q2⟩ := ih2 hc hcs
        exact ⟨.agg q1 h1, by simpa [deepV] using q2⟩
      · split at h
        case h_2 => simp at h
        rename_i cs hcs
        simp only [Option.some.injEq] at h
        subst h
        cases hV with
        | tup hc =>
        obtain ⟨q1, q2⟩ := ih2 hc hcs
        exact ⟨.tup q1, by simpa [deepV] using q2⟩
      · split at h
        case h_2 => simp at h
        rename_i a' ha'
        split at h
        case h_2 => simp at h
        rename_i b' hb'
        simp only [Option.some.injEq] at h
        subst h
        cases hV with
        | fn ha hb =>
        obtain ⟨q1, q2⟩ := ih2 ha ha'
        obtain ⟨q3, q4⟩ := ih2 hb hb'
        exact ⟨.fn q1 q3, by simp [deepV, q2, q4]⟩
      · cases h
    · unfold frzs at h
      split at h
      · rename_i hdp
        simp only [Option.some.injEq] at h
        subst h
        exact ⟨Vs.deep hI hV hdp, hdp⟩
      split at h
      · simp only [Option.some.injEq] at h
        subst h
        cases hV with
        | nil => exact ⟨.nil, rfl⟩
      · cases hV with
        | cons hv hvs =>
        split at h
        case h_2 => simp at h
        rename_i v' hv'
        split at h
        case h_2 => simp at h
        rename_i vs' hvs'
        simp only [Option.some.injEq] at h
        subst h
        obtain ⟨q1, q2⟩ := ih1 hv hv'
        obtain ⟨q3, q4⟩ := ih2 hvs hvs'
        exact ⟨.cons q1 q3, by simp [deepVs, q2, q4]⟩

/-! ### What says all itself -/

mutual
theorem cln_V {E E' : Env} {v : MV} {r : Value} (h : V E v r) (hc : cln v = true) : V E' v r := by
  cases v with
  | undef => exact .undef
  | bool b => cases h; exact .bool
  | int k n => cases h; exact .int
  | str s => cases h; exact .str
  | nilp => cases h; exact .nilp
  | nils => cases h; exact .nils
  | nilf => cases h; exact .nilf
  | ptr _ _ _ => simp [cln] at hc
  | pimm _ _ => simp [cln] at hc
  | sl _ _ _ _ _ _ => simp [cln] at hc
  | lit _ _ _ => simp [cln] at hc
  | yld _ => simp [cln] at hc
  | fn f a b =>
    simp only [cln, Bool.and_eq_true] at hc
    cases h with
    | fn ha hb => exact .fn (clns_V ha hc.1) (clns_V hb hc.2)
  | agg cs =>
    simp only [cln] at hc
    cases h with
    | agg h h1 => exact .agg (clns_V h hc) h1
  | tup cs =>
    simp only [cln] at hc
    cases h with
    | tup h => exact .tup (clns_V h hc)
theorem clns_V {E E' : Env} {vs : List MV} {rs : List Value} (h : Vs E vs rs) (hc : clns vs = true) : Vs E' vs rs := by
  cases vs with
  | nil => cases h; exact .nil
  | cons v vs =>
    simp only [clns, Bool.and_eq_true] at hc
    cases h with
    | cons h hs => exact .cons (cln_V h hc.1) (clns_V hs hc.2)
end

mutual
theorem cln_deep : ∀ {v : MV}, cln v = true → deepV v = true
  | .fn _ a b, h => by simp only [cln, Bool.and_eq_true] at h; simp [deepV, clns_deep h.1, clns_deep h.2]
  | .agg a, h => by simp only [cln] at h; simp [deepV, clns_deep h]
  | .tup a, h => by simp only [cln] at h; simp [deepV, clns_deep h]
  | .undef, _ | .bool _, _ | .int _ _, _ | .str _, _ | .nilp, _ | .nils, _ | .nilf, _ => by simp [deepV]
  | .ptr _ _ _, h | .sl _ _ _ _ _ _, h | .yld _, h | .pimm _ _, h | .lit _ _ _, h => by simp [cln] at h
theorem clns_deep : ∀ {vs : List MV}, clns vs = true → deepVs vs = true
  | [], _ => by simp [deepVs]
  | v :: vs, h => by simp only [clns, Bool.and_eq_true] at h; simp [deepVs, cln_deep h.1, clns_deep h.2]
end

theorem frzc_ok {E1 E2 : Env} {m : Mem} {ls : List LRec} {n0 : Nat} {H : Array Obj} (hS : Sim P pm E1 m ls n0 H)
    (hB : ∀ i C el fr, i < m.length → H[E1.pl i]? = some (Obj.cells C el fr) → E2.I (E1.pl i) = some C) :
    ∀ (n : Nat), (∀ {v : MV} {r : Value} {v' : MV}, V E1 v r → frzc m n v = some v' → V E2 v' r ∧ deepV v' = true) ∧ (∀ {vs : List MV} {rs : List Value} {vs' : List MV}, Vs E1 vs rs → frzcs m n vs = some vs' → Vs E2 vs' rs ∧ deepVs vs' = true)
  | 0 => ⟨fun _ h => by simp [frzc] at h, fun _ h => by simp [frzcs] at h⟩
  | n + 1 => by
    obtain ⟨ih1, ih2⟩ := frzc_ok hS hB n
    refine ⟨fun {v r v'} hV h => ?_, fun {vs rs vs'} hV h => ?_⟩
    · unfold frzc at h
      split at h
      · rename_i hc
        simp only [Option.some.injEq] at h
        subst h
        exact ⟨cln_V hV hc, cln_deep hc⟩
      split at h
      · rename_i b g off _
        split at h
        case h_2 => simp at h
        rename_i k hk
        split at h
        case h_2 => simp at h
        rename_i cs hcs
        simp only [Option.some.injEq] at h
        subst h
        cases hV with
        | @ptr _ _ _ a hb hg ha =>
        obtain ⟨hmb, hgen⟩ := blk?_some hk
        have hB0 := hS.blk b k hmb
        obtain ⟨C, el, L, post, c1, c2, c3, c4, c5⟩ := hB0.mem
        obtain ⟨q1, q2⟩ := ih2 c4 hcs
        have e := ha (by rw [hB0.gen, hgen])
        rw [e]
        refine ⟨?_, rfl⟩
        have := V.pimm (E := E2) (off := off) (n := E1.pl b) (o := 0) (L := L) ⟨C, [], post, hB _ _ _ _ (List.getElem?_eq_some_iff.1 hmb).1 c1, by simpa using c3, rfl⟩ q2 q1 c5
        simpa using this
      · rename_i b g off len sz kc _
        split at h
        case h_2 => simp at h
        rename_i k hk
        split at h
        case h_2 => simp at h
        rename_i cs0 hcs0
        split at h
        case h_2 => simp at h
        rename_i cs hcs
        simp only [Option.some.injEq] at h
        subst h
        obtain ⟨hle, rfl⟩ := takeAt_some hcs0
        cases hV with
        | @sl _ _ _ _ _ cap _ a hb hg hl hkc ha =>
        obtain ⟨hmb, hgen⟩ := blk?_some hk
        have hB0 := hS.blk b k hmb
        obtain ⟨C, el, L, post, c1, c2, c3, c4, c5⟩ := hB0.mem
        have c4' := (c4.drop off).take (len * sz)
        obtain ⟨q1, q2⟩ := ih2 c4' hcs
        have e := (ha (by rw [hB0.gen, hgen])).1
        rw [e]
        refine ⟨.lit (n := E1.pl b) (o := off) (L := (L.drop off).take (len * sz)) (.inr ⟨C, L.take off, L.drop (off + len * sz) ++ post, hB _ _ _ _ (List.getElem?_eq_some_iff.1 hmb).1 c1, ?_, ?_⟩) q2 q1 ((c5.drop _).take _) hl hkc, rfl⟩
        · have e1 : L = L.take off ++ (L.drop off).take (len * sz) ++ L.drop (off + len * sz) := by
            have h1 := List.take_append_drop off L
            have h2 := List.take_append_drop (len * sz) (L.drop off)
            rw [List.drop_drop] at h2
            rw [List.append_assoc, h2, h1]
          rw [c3]
          conv => lhs; rw [e1]
          simp
        · have := c4.length
          simp; omega
      · split at h
        case h_2 => simp at h
        rename_i cs hcs
        simp only [Option.some.injEq] at h
        subst h
        cases hV with
        | agg hc h1 =>
        obtain ⟨q1, q2⟩ := ih2 hc hcs
        exact ⟨.agg q1 h1, by simpa [deepV] using q2⟩
      · split at h
        case h_2 => simp at h
        rename_i cs hcs
        simp only [Option.some.injEq] at h
        subst h
        cases hV with
        | tup hc =>
        obtain ⟨q1, q2⟩ := ih2 hc hcs
        exact ⟨.tup q1, by simpa [deepV] using q2⟩
      · cases h
    · unfold frzcs at h
      split at h
      · rename_i hc
        simp only [Option.some.injEq] at h
        subst h
        exact ⟨clns_V hV hc, clns_deep hc⟩
      split at h
      · simp only [Option.some.injEq] at h
        subst h
        cases hV with
        | nil => exact ⟨.nil, rfl⟩
      · cases hV with
        | cons hv hvs =>
        split at h
        case h_2 => simp at h
        rename_i v' hv'
        split at h
        case h_2 => simp at h
        rename_i vs' hvs'
        simp only [Option.some.injEq] at h
        subst h
        obtain ⟨q1, q2⟩ := ih1 hv hv'
        obtain ⟨q3, q4⟩ := ih2 hvs hvs'
        exact ⟨.cons q1 q3, by simp [deepVs, q2, q4]⟩

/-- All that lies in memory is known, as long as nobody writes it. -/
def Env.call3 (H : Array Obj) : Env :=
  { I := fun n => match H[n]? with | some (.cells C _ _) => some C | _ => none, nb := 0, gen := fun _ => 0, pl := fun _ => 0, cap := fun _ => 0, lam := fun _ => none, I0 := fun n => match H[n]? with | some (.cells C _ _) => some C | _ => none }

theorem Sim.call3 (w : World) : Sim P pm (Env.call3 w.heap) [] [] w.heap.size w.heap where
  nb := rfl
  bas := Nat.le_refl _
  blk i k hi := by simp at hi
  inj i j hi := by simp at hi
  imm n C hn := by
    refine ⟨?_, fun i hi => by simp at hi⟩
    simp only [Env.call3] at hn
    split at hn
    · rename_i C' el fr hC
      simp only [Option.some.injEq] at hn
      subst hn
      exact ⟨el, fr, hC⟩
    · cases hn
  lrec j r hj := by simp at hj
  lam j l hj := by simp [Env.call3] at hj
  lamInj i j l hi := by simp [Env.call3] at hi
  old n C _ hn := hn

theorem args_3 {E : Env} {m : Mem} {ls : List LRec} {base : Nat} {w : World} (hS : Sim P pm E m ls base w.heap) {args args2 : List MV} {args' : List Value} (hA : Vs E args args') (hf : frzs m frzFuel args = some args2) : Vs (Env.call3 w.heap) args2 args' ∧ deepVs args2 = true := by
  refine (frz_ok hS (E2 := Env.call3 w.heap) (fun n C hn => ?_) (fun i C el fr hi hC => ?_) frzFuel).2 hA hf
  · obtain ⟨⟨el, fr, h1⟩, _⟩ := hS.imm n C hn
    simp only [Env.call3, h1]
  · simp only [Env.call3, hC]

theorem own_3 {E : Env} {m : Mem} {ls : List LRec} {base : Nat} {w w' : World} (hS : Sim P pm E m ls base w.heap) {v v' : MV} {s : St} {r : Value} (h : Aft P pm (Env.call3 w.heap) w.heap.size w v s.m s.ls r w') (hf : frzc s.m frzFuel v = some v') : Aft P pm E base w v' m ls r w' := by
  obtain ⟨E1, hE1, hS1, hV, hst⟩ := h
  have hB : ∀ i C el fr, i < s.m.length → w'.heap[E1.pl i]? = some (Obj.cells C el fr) → (E.own w.heap.size w'.heap none).I (E1.pl i) = some C := fun i C el fr hi hC => by
    have := (hS1.blk i _ (List.getElem?_eq_getElem hi)).pl
    exact Env.own_ge (by omega) (by simp) hC
  exact ⟨E.own w.heap.size w'.heap none, Env.le_own hS none, hS.own hst none, ((frzc_ok hS1 hB frzFuel).1 hV hf).1, hst.mono hS.bas⟩

/-- A block of the callee's that the caller takes over. -/
theorem Sim.adopt {E : Env} {m : Mem} {ls : List LRec} {base : Nat} {H : Array Obj} (h : Sim P pm E m ls base H) {p : Nat} (hpl : ∀ i, i < m.length → E.pl i ≠ p) (hpI : E.I p = none) (hpb : base ≤ p) {C : Array Value} {el : TypeId} (hC : H[p]? = some (.cells C el (0, 0)))
    {k : Blk} {L post : List Value} (hCL : C.toList = L ++ post) (hL : Vs E k.cells L) (hsc : Sc L) (hd : k.deep = true → deepVs k.cells = true) : Sim P pm (E.addB p C.size k.gen) (m ++ [k]) ls base H := by
  have hle := Env.le_addB E p C.size k.gen
  have hnb := h.nb
  exact
    { nb := by simp [Env.addB, hnb]
      bas := h.bas
      blk := fun i k' hi => by
        by_cases e : i < m.length
        · rw [List.getElem?_append_left e] at hi
          have hk := h.blk i k' hi
          obtain ⟨C', el', L', post', h1, h2, h3, h4⟩ := hk.mem
          have hne : i ≠ E.nb := by omega
          refine ⟨by simp only [Env.addB, if_neg hne]; exact hk.gen, by simp only [Env.addB, if_neg hne]; exact hk.pl, ⟨C', el', L', post', ?_, ?_, h3, h4.1.mono hle, h4.2⟩, hk.deep⟩
          · simp only [Env.addB, if_neg hne]; exact h1
          · simp only [Env.addB, if_neg hne]; exact h2
        · have hi' := (List.getElem?_eq_some_iff.1 hi).1
          have e' : i = m.length := by simp at hi'; omega
          subst e'
          simp at hi
          subst hi
          refine ⟨by simp [Env.addB, hnb], by simp only [Env.addB, hnb, if_true]; exact hpb, ⟨C, el, L, post, ?_, ?_, hCL, hL.mono hle, hsc⟩, hd⟩
          · simp only [Env.addB, hnb, if_true]; exact hC
          · simp [Env.addB, hnb]
      inj := fun i j hi hj e => by
        simp only [List.length_append, List.length_singleton] at hi hj
        simp only [Env.addB, hnb] at e
        by_cases ei : i = m.length
        · by_cases ej : j = m.length
          · omega
          · rw [if_pos ei, if_neg ej] at e
            exact absurd e.symm (hpl j (by omega))
        · by_cases ej : j = m.length
          · rw [if_neg ei, if_pos ej] at e
            exact absurd e (hpl i (by omega))
          · rw [if_neg ei, if_neg ej] at e
            exact h.inj i j (by omega) (by omega) e
      imm := fun n C' hn => by
        obtain ⟨h1, h2⟩ := h.imm n C' hn
        refine ⟨h1, fun i hi => ?_⟩
        simp only [List.length_append, List.length_singleton] at hi
        simp only [Env.addB, hnb]
        by_cases ei : i = m.length
        · rw [if_pos ei]
          intro e
          subst e
          have hn' : E.I p = some C' := hn
          rw [hpI] at hn'
          cases hn'
        · rw [if_neg ei]; exact h2 i (by omega)
      lrec := fun j r hj => by
        obtain ⟨l, q, h1, h2, h3, h4⟩ := h.lrec j r hj
        exact ⟨l, q, h1, h2, h3, h4.mono hle⟩
      lam := h.lam, lamInj := h.lamInj, old := h.old }

theorem own_1 {E : Env} {m : Mem} {ls : List LRec} {base : Nat} {w w' : World} (hS : Sim P pm E m ls base w.heap) {v v' : MV} {s : St} {r : Value} (h : Aft P pm E.call w.heap.size w v s.m s.ls r w') (hf : frz s.m frzFuel v = some v') : Aft P pm E base w v' m ls r w' := by
  obtain ⟨E1, hE1, hS1, hV, hst⟩ := h
  have hI := own_I (skip := none) hE1 hS1 (fun n e => by cases e)
  have hB : ∀ i C el fr, i < s.m.length → w'.heap[E1.pl i]? = some (Obj.cells C el fr) → (E.own w.heap.size w'.heap none).I (E1.pl i) = some C := fun i C el fr hi hC => by
    have := (hS1.blk i _ (List.getElem?_eq_getElem hi)).pl
    exact Env.own_ge (by omega) (by simp) hC
  exact ⟨E.own w.heap.size w'.heap none, Env.le_own hS none, hS.own hst none, ((frz_ok hS1 hI hB frzFuel).1 hV hf).1, hst.mono hS.bas⟩

theorem own_2 {E : Env} {m m2 : Mem} {ls : List LRec} {base : Nat} {w w' : World} (hS : Sim P pm E m ls base w.heap) {v v' : MV} {s : St} {r : Value} (h : Aft P pm E.call w.heap.size w v s.m s.ls r w') (hf : thaw m s v = some (v', m2)) : Aft P pm E base w v' m2 ls r w' := by
  obtain ⟨E1, hE1, hS1, hV, hst⟩ := h
  unfold thaw at hf
  split at hf
  case h_2 =>
    split at hf
    case isFalse => cases hf
    rename_i hcl
    simp only [Option.some.injEq, Prod.mk.injEq] at hf
    obtain ⟨rfl, rfl⟩ := hf
    exact ⟨E.own w.heap.size w'.heap none, Env.le_own hS none, hS.own hst none, cln_V hV hcl, hst.mono hS.bas⟩
  rename_i b g off len sz kc
  split at hf
  case h_2 => simp at hf
  rename_i k hk
  split at hf
  case isFalse => simp at hf
  rename_i hc
  obtain ⟨rfl, hdeep, hlen⟩ := hc
  simp only [Option.some.injEq, Prod.mk.injEq] at hf
  obtain ⟨rfl, rfl⟩ := hf
  obtain ⟨hmb, hgen⟩ := blk?_some hk
  have hbl := (List.getElem?_eq_some_iff.1 hmb).1
  have hB0 := hS1.blk b k hmb
  obtain ⟨C, el, L, post, c1, c2, c3, c4, c5⟩ := hB0.mem
  have hpl := hB0.pl
  cases hV with
  | @sl _ _ _ _ _ cap _ a hb hg hl hkc ha =>
    obtain ⟨ea, hcap⟩ := ha (by rw [hB0.gen, hgen])
    have hI := own_I (skip := some (E1.pl b)) hE1 hS1 (fun n e => by simp at e; exact ⟨b, hbl, e⟩)
    have hS2 := hS.own hst (some (E1.pl b))
    have hS3 := hS2.adopt (p := E1.pl b) (k := ⟨k.cells, len, true⟩) (fun i hi e => by
        have := hS.lt (List.getElem?_eq_getElem hi)
        have e' : E.pl i = E1.pl b := e
        omega) (by simp [Env.own]; omega) (Nat.le_trans hS.bas hpl) c1 c3 (c4.deep hI (hB0.deep hdeep)) c5 (fun _ => hB0.deep hdeep)
    refine ⟨_, (Env.le_own hS _).trans (Env.le_addB _ _ _ _), hS3, ?_, hst.mono hS.bas⟩
    have hnb := hS2.nb
    have hnb' : (E.own w.heap.size w'.heap (some (E1.pl b))).nb = m.length := hnb
    refine .sl (by simp [Env.addB, hnb']) (by simp [Env.addB, hnb']) hl (by simp) fun _ => ?_
    simp only [Env.addB, hnb', if_true]
    exact ⟨ea, by rw [c2]; exact hcap⟩
end own

/-! ### The machine -/

/-- The program and its text in Mini. -/
structure ProgOk (P : Program) (pm : Nat → Bool) (IP : IProg) : Prop where
  mixed : P.follows .mixedOrders = true
  fn : ∀ f F, IP.prim f = none → IP.fn f = some F → ∃ (fn : Func) (c : Code), P.funcs[f]? = some fn ∧ fn.body = some c ∧ fn.ntmps = F.nt ∧ trRes P fn.results.toList = some F.res ∧ Tr P pm c F.body ∧ ∀ args w, (callFunc f args).run P w = .ok (.enter f args) w
  prim : ∀ f p, IP.prim f = some p → ∀ (E : Env) args args' v (w : World), Vs E args args' → p args = some v → ∃ r, (callFunc f args'.toArray).run P w = .ok (.value r) w ∧ V E v r
  pure : ∀ f, pm f = true → IP.prim f = none → ∀ F, IP.fn f = some F → F.mode = 1
  rdr : ∀ f, pm (f + 1048576) = true → IP.prim f = none ∧ ∀ F, IP.fn f = some F → F.mode = 0 ∧ roC pm F.body = true
  rd1 : ∀ f, pm (f + 2097152) = true → IP.prim f = none ∧ ∀ F, IP.fn f = some F → F.mode = 3

section mach
variable {P : Program} {pm : Nat → Bool} {IP : IProg}

theorem ro_oper {cb : Cb} (hp : PureCb pm cb) {o : IOper} (ho : (!Nat.beq (cls pm o.op) 2) = true) {T : List MV} {m : Mem} {ls : List LRec} {s' : St} (h : evOper cb o ⟨T, m, ls⟩ = some s') :
    (∃ xs, s'.m = m ++ xs) ∧ s'.ls = ls := by
  have ho' : cls pm o.op ≠ 2 := fun e => by rw [e] at ho; cases ho
  rw [evOper_eq] at h
  cases hr : evRes cb o ⟨T, m, ls⟩ with
  | none => simp [hr] at h
  | some r =>
    obtain ⟨v, m1, ls1⟩ := r
    simp only [hr, Option.map_some, Option.some.injEq] at h
    subst h
    rcases cls_le (pm := pm) o.op with hc | hc | hc | hc
    · obtain ⟨rfl, rfl, h2⟩ := evRes_pure hp hc hr
      exact ⟨⟨[], by simp⟩, rfl⟩
    · obtain ⟨rfl, rfl, h2⟩ := evRes_read hp hc hr
      exact ⟨⟨[], by simp⟩, rfl⟩
    · exact absurd hc ho'
    · obtain ⟨⟨xs, rfl⟩, rfl⟩ := evRes_new hp hc hr
      exact ⟨⟨xs, rfl⟩, rfl⟩

theorem ro_ops {cb : Cb} (hp : PureCb pm cb) : ∀ {l : List IOper}, l.all (fun o => !Nat.beq (cls pm o.op) 2) = true → ∀ {T : List MV} {m : Mem} {ls : List LRec} {s' : St}, evOps cb l ⟨T, m, ls⟩ = some s' →
    (∃ xs, s'.m = m ++ xs) ∧ s'.ls = ls
  | [], _, T, m, ls, s', h => by
    simp only [evOps, Option.some.injEq] at h
    subst h
    exact ⟨⟨[], by simp⟩, rfl⟩
  | o :: os, ho, T, m, ls, s', h => by
    simp only [List.all_cons, Bool.and_eq_true] at ho
    simp only [evOps] at h
    cases h1 : evOper cb o ⟨T, m, ls⟩ with
    | none => simp [h1] at h
    | some s1 =>
      obtain ⟨T1, m1, ls1⟩ := s1
      simp only [h1] at h
      obtain ⟨⟨xs, e1⟩, e2⟩ := ro_oper hp ho.1 h1
      simp only at e1 e2
      subst e1; subst e2
      obtain ⟨⟨ys, g1⟩, g2⟩ := ro_ops hp ho.2 h
      exact ⟨⟨xs ++ ys, by rw [g1]; simp⟩, g2⟩

theorem ro_C {cb : Cb} (hp : PureCb pm cb) (n : Nat) : ∀ {c : IC}, roC pm c = true → ∀ {T : List MV} {m : Mem} {ls : List LRec} {ex : Ex} {s' : St}, evC cb n c ⟨T, m, ls⟩ = some (ex, s') →
    (∃ xs, s'.m = m ++ xs) ∧ s'.ls = ls := by
  intro c
  induction c with
  | skip => intro _ T m ls ex s' h; simp only [evC, Option.some.injEq, Prod.mk.injEq] at h; obtain ⟨rfl, rfl⟩ := h; exact ⟨⟨[], by simp⟩, rfl⟩
  | exit id => intro _ T m ls ex s' h; simp only [evC, Option.some.injEq, Prod.mk.injEq] at h; obtain ⟨rfl, rfl⟩ := h; exact ⟨⟨[], by simp⟩, rfl⟩
  | ret => intro _ T m ls ex s' h; simp only [evC, Option.some.injEq, Prod.mk.injEq] at h; obtain ⟨rfl, rfl⟩ := h; exact ⟨⟨[], by simp⟩, rfl⟩
  | mask live => intro _ T m ls ex s' h; simp only [evC, Option.some.injEq, Prod.mk.injEq] at h; obtain ⟨rfl, rfl⟩ := h; exact ⟨⟨[], by simp⟩, rfl⟩
  | stuck _ => intro _ T m ls ex s' h; simp [evC] at h
  | rangeF _ _ _ _ => intro h; simp [roC] at h
  | reg d l =>
    intro hr T m ls ex s' h
    simp only [roC] at hr
    simp only [evC] at h
    cases h1 : evOps cb l ⟨T, m, ls⟩ with
    | none => simp [h1] at h
    | some s1 =>
      simp only [h1, Option.some.injEq, Prod.mk.injEq] at h
      obtain ⟨rfl, rfl⟩ := h
      exact ro_ops hp hr h1
  | seq a b iha ihb =>
    intro hr T m ls ex s' h
    simp only [roC, Bool.and_eq_true] at hr
    simp only [evC] at h
    cases h1 : evC cb n a ⟨T, m, ls⟩ with
    | none => simp [h1] at h
    | some r =>
      obtain ⟨e1, T1, m1, ls1⟩ := r
      rw [h1] at h
      obtain ⟨⟨xs, g1⟩, g2⟩ := iha hr.1 h1
      simp only at g1 g2
      subst g1; subst g2
      cases e1 with
      | normal =>
        obtain ⟨⟨ys, k1⟩, k2⟩ := ihb hr.2 h
        exact ⟨⟨xs ++ ys, by rw [k1]; simp⟩, k2⟩
      | exit id => simp only [Option.some.injEq, Prod.mk.injEq] at h; obtain ⟨rfl, rfl⟩ := h; exact ⟨⟨xs, rfl⟩, rfl⟩
      | ret => simp only [Option.some.injEq, Prod.mk.injEq] at h; obtain ⟨rfl, rfl⟩ := h; exact ⟨⟨xs, rfl⟩, rfl⟩
  | cond c a b iha ihb =>
    intro hr T m ls ex s' h
    simp only [roC, Bool.and_eq_true] at hr
    simp only [evC] at h
    cases hcv : getO T c <;> simp only [hcv] at h <;> try (simp at h; done)
    rename_i b'
    cases b' with
    | true => exact iha hr.1 h
    | false => exact ihb hr.2 h
  | block id a ih =>
    intro hr T m ls ex s' h
    simp only [roC] at hr
    simp only [evC] at h
    cases h1 : evC cb n a ⟨T, m, ls⟩ with
    | none => simp [h1] at h
    | some r =>
      obtain ⟨e1, T1, m1, ls1⟩ := r
      rw [h1] at h
      obtain ⟨⟨xs, g1⟩, g2⟩ := ih hr h1
      simp only at g1 g2
      subst g1; subst g2
      cases e1 with
      | normal => simp only [Option.some.injEq, Prod.mk.injEq] at h; obtain ⟨rfl, rfl⟩ := h; exact ⟨⟨xs, rfl⟩, rfl⟩
      | ret => simp only [Option.some.injEq, Prod.mk.injEq] at h; obtain ⟨rfl, rfl⟩ := h; exact ⟨⟨xs, rfl⟩, rfl⟩
      | exit i =>
        simp only at h
        split at h <;> simp only [Option.some.injEq, Prod.mk.injEq] at h <;> obtain ⟨rfl, rfl⟩ := h <;> exact ⟨⟨xs, rfl⟩, rfl⟩
  | loop live a ih =>
    intro hr T m ls ex s' h
    simp only [roC] at hr
    simp only [evC] at h
    have key : ∀ k {T : List MV} {m : Mem} {ls : List LRec} {ex : Ex} {s' : St}, iter (evC cb n a) live k ⟨T, m, ls⟩ = some (ex, s') → (∃ xs, s'.m = m ++ xs) ∧ s'.ls = ls := by
      intro k
      induction k with
      | zero => intro T m ls ex s' h; simp [iter] at h
      | succ k ihk =>
        intro T m ls ex s' h
        simp only [iter] at h
        cases h1 : evC cb n a ⟨maskT live T, m, ls⟩ with
        | none => simp [h1] at h
        | some r =>
          obtain ⟨e1, T1, m1, ls1⟩ := r
          rw [h1] at h
          obtain ⟨⟨xs, g1⟩, g2⟩ := ih hr h1
          simp only at g1 g2
          subst g1; subst g2
          cases e1 with
          | normal =>
            obtain ⟨⟨ys, k1⟩, k2⟩ := ihk h
            exact ⟨⟨xs ++ ys, by rw [k1]; simp⟩, k2⟩
          | exit id => simp only [Option.some.injEq, Prod.mk.injEq] at h; obtain ⟨rfl, rfl⟩ := h; exact ⟨⟨xs, rfl⟩, rfl⟩
          | ret => simp only [Option.some.injEq, Prod.mk.injEq] at h; obtain ⟨rfl, rfl⟩ := h; exact ⟨⟨xs, rfl⟩, rfl⟩
    exact key n h

theorem ro_bodyRun {cb : Cb} (hp : PureCb pm cb) (n : Nat) {F : IFn} (hr : roC pm F.body = true) {args : List MV} {m : Mem} {ls : List LRec} {v : MV} {s : St} (h : bodyRun cb n F args m ls = some (v, s)) :
    (∃ xs, s.m = m ++ xs) ∧ s.ls = ls := by
  unfold bodyRun at h
  split at h
  · rename_i s1 he
    split at h
    · simp only [Option.some.injEq, Prod.mk.injEq] at h
      obtain ⟨_, rfl⟩ := h
      exact ro_C hp n hr he
    · cases h
  · rename_i s1 he
    split at h
    · simp only [Option.some.injEq, Prod.mk.injEq] at h
      obtain ⟨_, rfl⟩ := h
      exact ro_C hp n hr he
    · cases h
  · cases h

theorem mach_pure1 (h : ProgOk P pm IP) (n : Nat) : ∀ f, pm f = true → ∀ args m ls v m' ls', (mach IP n).call f args m ls = some (v, m', ls') → m' = m ∧ ls' = ls ∧ ∀ m2 ls2, (mach IP n).call f args m2 ls2 = some (v, m2, ls2) := by
  intro f hf args m ls v m' ls' hc
  cases n with
  | zero => simp [mach] at hc
  | succ n =>
    simp only [mach, callP] at hc ⊢
    cases hp : IP.prim f with
    | some p =>
      simp only [hp] at hc ⊢
      split at hc
      case isFalse => simp at hc
      rename_i hd
      split at hc
      case h_2 => simp at hc
      rename_i v' hv
      simp only [Option.some.injEq, Prod.mk.injEq] at hc
      obtain ⟨rfl, rfl, rfl⟩ := hc
      exact ⟨rfl, rfl, fun _ _ => by rw [if_pos hd]⟩
    | none =>
      simp only [hp] at hc ⊢
      cases hF : IP.fn f with
      | none => simp [hF] at hc
      | some F =>
        have hmode := h.pure f hf hp F hF
        simp only [hF, callF, hmode] at hc ⊢
        rw [if_neg (by omega), if_neg (by omega)] at hc
        split at hc
        case isFalse => simp at hc
        rename_i hd
        split at hc
        case h_2 => simp at hc
        rename_i v0 s hb
        rw [if_pos trivial] at hc
        split at hc
        case h_2 => simp at hc
        rename_i v1 hv
        simp only [Option.some.injEq, Prod.mk.injEq] at hc
        obtain ⟨rfl, rfl, rfl⟩ := hc
        refine ⟨rfl, rfl, fun _ _ => ?_⟩
        rw [if_neg (by omega), if_neg (by omega), if_pos hd, if_pos trivial]

theorem frz_app (x : Blk) {m : Mem} : ∀ (n : Nat), (∀ {v v' : MV}, frz m n v = some v' → frz (m ++ [x]) n v = some v') ∧ (∀ {vs vs' : List MV}, frzs m n vs = some vs' → frzs (m ++ [x]) n vs = some vs')
  | 0 => ⟨fun h => by simp [frz] at h, fun h => by simp [frzs] at h⟩
  | n + 1 => by
    obtain ⟨ih1, ih2⟩ := frz_app x (m := m) n
    have cellsOk : ∀ {cs cs' : List MV} {d : Bool}, (if d = true then some cs else frzs m n cs) = some cs' → (if d = true then some cs else frzs (m ++ [x]) n cs) = some cs' := by
      intro cs cs' d h
      split at h
      · rename_i e; rw [if_pos e]; exact h
      · rename_i e; rw [if_neg e]; exact ih2 h
    refine ⟨fun {v v'} h => ?_, fun {vs vs'} h => ?_⟩
    · unfold frz at h ⊢
      split at h
      · rename_i e; rw [if_pos e]; exact h
      rename_i e0
      rw [if_neg e0]
      split at h
      · split at h
        case h_2 => cases h
        rename_i k hk
        split at h
        case h_2 => cases h
        rename_i cs hcs
        simp only [blk_app hk x, cellsOk hcs]
        exact h
      · split at h
        case h_2 => cases h
        rename_i k hk
        split at h
        case h_2 => cases h
        rename_i cs0 hcs0
        split at h
        case h_2 => cases h
        rename_i cs hcs
        simp only [blk_app hk x, hcs0, cellsOk hcs]
        exact h
      · split at h
        case h_2 => cases h
        rename_i cs hcs
        simp only [ih2 hcs]
        exact h
      · split at h
        case h_2 => cases h
        rename_i cs hcs
        simp only [ih2 hcs]
        exact h
      · split at h
        case h_2 => cases h
        rename_i a' ha'
        split at h
        case h_2 => cases h
        rename_i b' hb'
        simp only [ih2 ha', ih2 hb']
        exact h
      · cases h
    · unfold frzs at h ⊢
      split at h
      · rename_i e; rw [if_pos e]; exact h
      rename_i e0
      rw [if_neg e0]
      split at h
      · exact h
      · split at h
        case h_2 => cases h
        rename_i v' hv'
        split at h
        case h_2 => cases h
        rename_i vs' hvs'
        simp only [ih1 hv', ih2 hvs']
        exact h

theorem mach_rd1 (h : ProgOk P pm IP) (n : Nat) : ∀ f, pm (f + 2097152) = true → ∀ args m ls v m' ls', (mach IP n).call f args m ls = some (v, m', ls') → m' = m ∧ ls' = ls ∧ ∀ x, (mach IP n).call f args (m ++ [x]) ls = some (v, m ++ [x], ls) := by
  intro f hf args m ls v m' ls' hc
  cases n with
  | zero => simp [mach] at hc
  | succ n =>
    obtain ⟨hp, hF⟩ := h.rd1 f hf
    simp only [mach, callP, hp] at hc ⊢
    cases hfn : IP.fn f with
    | none => simp [hfn] at hc
    | some F =>
      have hm := hF F hfn
      simp only [hfn, callF, hm] at hc ⊢
      rw [if_neg (by omega), if_pos trivial] at hc
      split at hc
      case h_2 => cases hc
      rename_i args2 ha
      split at hc
      case h_2 => cases hc
      rename_i v0 s hb
      split at hc
      case h_2 => cases hc
      rename_i v1 hv
      simp only [Option.some.injEq, Prod.mk.injEq] at hc
      obtain ⟨rfl, rfl, rfl⟩ := hc
      refine ⟨rfl, rfl, fun x => ?_⟩
      rw [if_neg (by omega), if_pos trivial, (frz_app x frzFuel).2 ha]
      simp only [hb, hv]

theorem mach_pure (h : ProgOk P pm IP) : ∀ n, PureCb pm (mach IP n)
  | 0 => ⟨mach_pure1 h 0, fun f hf args m ls v m' ls' hc => by simp [mach] at hc, mach_rd1 h 0⟩
  | n + 1 => ⟨mach_pure1 h (n + 1), fun f hf args m ls v m' ls' hc => by
    have ih := mach_pure h n
    obtain ⟨hp, hF⟩ := h.rdr f hf
    simp only [mach, callP, hp] at hc
    cases hfn : IP.fn f with
    | none => simp [hfn] at hc
    | some F =>
      obtain ⟨hm, hro⟩ := hF F hfn
      simp only [hfn, callF, hm, if_true] at hc
      split at hc
      case h_2 => cases hc
      rename_i v0 s hb
      simp only [Option.some.injEq, Prod.mk.injEq] at hc
      obtain ⟨rfl, rfl, rfl⟩ := hc
      exact ro_bodyRun ih n hro hb, mach_rd1 h (n + 1)⟩

theorem fold_V {E : Env} : ∀ {ps : List Nat} {args : List MV} {args' : List Value} {T : List MV} {tmps : Array Value}, Vs E T tmps.toList → Vs E args args' → args.length = ps.length → Vs E (setPs T ps args) (((ps.zip args').foldl (fun (t : Array Value) (p : Nat × Value) => t.setIfInBounds p.1 p.2) tmps)).toList
  | [], _, _, T, tmps, hT, _, _ => by simpa [setPs] using hT
  | p :: ps, _, _, T, tmps, hT, .cons h hs, hl => by
    simp only [setPs, List.zip_cons_cons, List.foldl_cons]
    refine fold_V ?_ hs (by simpa using hl)
    simpa using hT.set h p
  | p :: ps, _, _, T, tmps, hT, .nil, hl => by simp at hl

theorem fold_arr (ps : Array Nat) (as : Array Value) (tmps : Array Value) : ((ps.zip as).foldl (fun tmps (t, a) => tmps.setIfInBounds t a) tmps) = ((ps.toList.zip as.toList).foldl (fun (t : Array Value) (p : Nat × Value) => t.setIfInBounds p.1 p.2) tmps) := by
  rw [← Array.toList_zip, Array.foldl_toList]

theorem yld_W {cb : Cb} (hcb : CbOk P pm cb) (hp : PureCb pm cb) (hm : P.follows .mixedOrders = true) (n : Nat) {j : Nat} {args : List MV} {m : Mem} {ls : List LRec} {v : MV} {m' : Mem} {ls' : List LRec} (hy : yldF cb n j args m ls = some (v, m', ls'))
    {E : Env} {base : Nat} {w : World} {args' : List Value} {l : Nat} (hS : Sim P pm E m ls base w.heap) (hA : Vs E args args') (hl : E.lam j = some l) (k : Nat) :
    ∃ fn tmps asg body, (Instr.yield l args'.toArray).run P w = .ok (.round l fn tmps asg body) w ∧ RoundIn Fence.wide k P l fn tmps asg body w fun e w' => ∃ r, e = .returned r ∧ Aft P pm E base w v m' ls' r w' := by
  unfold yldF at hy
  split at hy
  case h_2 => simp at hy
  rename_i r hr
  split at hy
  case isFalse => simp at hy
  rename_i hst
  obtain ⟨hst, hlen⟩ := hst
  split at hy
  case h_2 => simp at hy
  rename_i s1 hasg
  split at hy
  case h_2 => simp at hy
  rename_i r' hr'
  split at hy
  case isFalse => simp at hy
  rename_i hst'
  obtain ⟨l0, q, l1, l2, l3, l4⟩ := hS.lrec _ _ hr
  rw [hl] at l1
  simp at l1
  subst l1
  obtain ⟨q1, q2, q3, q4, q5⟩ := l4.live (by omega)
  have hlenA := hA.length
  refine ⟨q.fn, _, q.assign, q.body, run_yield l3 (by have := congrArg List.length q3; simp at this ⊢; omega), roundIn_of_wpIn (F := Fence.wide) trivial ?_⟩
  have hT1 : Vs E (setPs r.T r.ps args) ((q.params.zip args'.toArray).foldl (fun tmps (t, a) => tmps.setIfInBounds t a) q.tmps).toList := by
    rw [fold_arr, q3]
    exact fold_V q2 hA hlen
  refine code_W hcb hp hm n q4 (ro := some l) (E0 := E) (w0 := w) (base := base) hasg ⟨[], ⟨E, .refl E, hS, hT1, .refl _ _, rfl⟩, by simp, by simp⟩ (fun l' e => by cases e; exact ⟨j, hl⟩) ?_
  rintro a1 w1 ⟨rs, ⟨E1, hE1, hS1, hT, hst1, hd1⟩, hn, hrs⟩
  have hl1 : E1.lam j = some l := hE1.lam _ _ hl
  obtain ⟨l0, q', l1', l2', l3', l4'⟩ := hS1.lrec _ _ hr'
  rw [hl1] at l1'
  simp at l1'
  subst l1'
  have hready : q'.state = .ready := by rw [l4'.st, hst']; rfl
  refine ⟨_, run_beginRound l3' hready, ?_⟩
  obtain ⟨p1, p2, p3, p4, p5⟩ := l4'.live (by omega)
  have hset : setL s1.ls j 1 r'.pend = s1.ls.set j ⟨r'.T, r'.ps, r'.asg, r'.body, 1, r'.pend⟩ := by simp [setL, hr']
  have hS2 : Sim P pm E1 s1.m (setL s1.ls j 1 r'.pend) base (w1.putObj l (.loop { q' with state := .busy })).heap := by
    rw [hset]
    exact hS1.putLoop hl1 l3' ⟨rfl, fun _ => ⟨p1, p2, p3, p4, p5⟩⟩
  have hst2 : Stp base w1 (w1.putObj l (.loop { q' with state := .busy })) := .putObj l3' (fun _ h => by cases h) l2'
  split at hy
  case h_2 => simp at hy
  rename_i e s2 hbody
  have fin : ∀ (a2 : Act) (w2 : World), COk P pm E base w s2 a2 w2 → ∃ x w', (Instr.endRound l (codeOf e)).run P w2 = .ok x w' ∧ ∃ r, (Ending.returned x) = .returned r ∧ Aft P pm E base w v m' ls' r w' := by
    rintro a2 w2 ⟨rs2, ⟨E2, hE2, hS3, hT2, hst3, hd2⟩, hn2, hrs2⟩
    have hl2 : E2.lam j = some l := hE2.lam _ _ hl
    unfold endY at hy
    split at hy
    case h_2 => simp at hy
    rename_i r2 hr2
    split at hy
    case isFalse => simp at hy
    rename_i hst4
    obtain ⟨l0, q2', m1, m2, m3, m4⟩ := hS3.lrec j r2 hr2
    rw [hl2] at m1
    simp at m1
    subst m1
    obtain ⟨p1, p2, p3, p4, p5⟩ := m4.live (by omega)
    have key : ∀ st pe, pe.bind codeOf = codeOf e → stOf st = (if (codeOf e).isNone then LoopState.ready else .done) → st < 3 →
        Sim P pm E2 s2.m (setL s2.ls j st pe) base (w2.putObj l (.loop { q2' with state := if (codeOf e).isNone then .ready else .done, pending := codeOf e })).heap := by
      intro st pe h1 h2 h3
      have hset2 : setL s2.ls j st pe = s2.ls.set j ⟨r2.T, r2.ps, r2.asg, r2.body, st, pe⟩ := by simp [setL, hr2]
      rw [hset2]
      exact hS3.putLoop hl2 m3 ⟨h2.symm, fun _ => ⟨h1.symm, p2, p3, p4, p5⟩⟩
    refine ⟨_, _, run_endRound _ m3, _, rfl, E2, hE2, ?_, ?_, hst3.trans (.putObj m3 (fun _ h => by cases h) m2)⟩
    · cases e <;> simp only [Option.some.injEq, Prod.mk.injEq] at hy <;> obtain ⟨rfl, rfl, rfl⟩ := hy
      · exact key 0 none rfl rfl (by omega)
      · exact key 2 _ rfl rfl (by omega)
      · exact key 2 _ rfl rfl (by omega)
    · cases e <;> simp only [Option.some.injEq, Prod.mk.injEq] at hy <;> obtain ⟨rfl, rfl, rfl⟩ := hy <;> exact .bool
  refine code_W hcb hp hm n q5 (ro := some l) (E0 := E) (w0 := w) (base := base) hbody ⟨rs, ⟨E1, hE1, hS2, hT, hst1.trans hst2, hd1⟩, hn, fun r hr => ⟨(hrs r hr).1, hst2.dfr _ _ (hrs r hr).2⟩⟩ (fun l' e => by cases e; exact ⟨j, hl⟩) ?_
  intro a2 w2 hc2
  have := fin a2 w2 hc2
  cases e <;> exact this

theorem callF_W {cb : Cb} (hcb : CbOk P pm cb) (h : ProgOk P pm IP) (hp : PureCb pm cb) (n : Nat) {f : Nat} {F F0 : IFn} (hpr : IP.prim f = none) (hF0 : IP.fn f = some F0) (hnt : F.nt = F0.nt) (hrs : F.res = F0.res) (hbd : F.body = F0.body) {args : List MV} {m : Mem} {ls : List LRec} {v : MV} {m' : Mem} {ls' : List LRec} (hc : callF cb n F args m ls = some (v, m', ls'))
    {E : Env} {base : Nat} {w : World} {args' : List Value} (hS : Sim P pm E m ls base w.heap) (hA : Vs E args args') : Enters P f args'.toArray w (Aft P pm E base w v m' ls') := by
  obtain ⟨fn, c, e1, e2, e3, e4, e5, e6⟩ := h.fn f F0 hpr hF0
  rw [← hnt] at e3
  rw [← hrs] at e4
  rw [← hbd] at e5
  refine ⟨e6 _ _, ?_⟩
  unfold callF at hc
  split at hc
  · split at hc
    case h_2 => simp at hc
    rename_i v0 s hb
    simp only [Option.some.injEq, Prod.mk.injEq] at hc
    obtain ⟨rfl, rfl, rfl⟩ := hc
    exact body_W hcb hp h.mixed e1 e2 e3 e4 e5 hS hA hb
  split at hc
  · split at hc
    case h_2 => simp at hc
    rename_i args2 hargs
    split at hc
    case h_2 => simp at hc
    rename_i v0 s hb
    split at hc
    case h_2 => simp at hc
    rename_i v1 hv
    simp only [Option.some.injEq, Prod.mk.injEq] at hc
    obtain ⟨rfl, rfl, rfl⟩ := hc
    have hA' := (args_3 hS hA hargs).1
    refine (body_W hcb hp h.mixed e1 e2 e3 e4 e5 (Sim.call3 w) hA' hb).mono ?_
    rintro e w' ⟨r, rfl, haft⟩
    exact ⟨r, rfl, own_3 hS haft hv⟩
  · split at hc
    case isFalse => simp at hc
    rename_i hd
    split at hc
    case h_2 => simp at hc
    rename_i v0 s hb
    have hA' : Vs E.call args args' := Vs.deep (E' := E.call) (fun n C (h : E.I n = some C) => h) hA hd
    have hbody := body_W hcb hp h.mixed e1 e2 e3 e4 e5 hS.call hA' hb
    refine hbody.mono ?_
    rintro e w' ⟨r, rfl, haft⟩
    refine ⟨r, rfl, ?_⟩
    split at hc
    · split at hc
      case h_2 => simp at hc
      rename_i v1 hv
      simp only [Option.some.injEq, Prod.mk.injEq] at hc
      obtain ⟨rfl, rfl, rfl⟩ := hc
      exact own_1 hS haft hv
    · split at hc
      case h_2 => simp at hc
      rename_i v1 m1 hv
      simp only [Option.some.injEq, Prod.mk.injEq] at hc
      obtain ⟨rfl, rfl, rfl⟩ := hc
      exact own_2 hS haft hv

theorem call_W {cb : Cb} (hcb : CbOk P pm cb) (h : ProgOk P pm IP) (hp : PureCb pm cb) (n : Nat) {f : Nat} {args : List MV} {m : Mem} {ls : List LRec} {v : MV} {m' : Mem} {ls' : List LRec} (hc : callP IP cb n f args m ls = some (v, m', ls'))
    {E : Env} {base : Nat} {w : World} {args' : List Value} (hS : Sim P pm E m ls base w.heap) (hA : Vs E args args') :
    Ent P f args'.toArray w (Aft P pm E base w v m' ls') ∧ (deepVs args = false → Enters P f args'.toArray w (Aft P pm E base w v m' ls')) := by
  unfold callP at hc
  cases hpr : IP.prim f with
  | some p =>
    simp only [hpr] at hc
    split at hc
    case isFalse => simp at hc
    rename_i hd
    split at hc
    case h_2 => simp at hc
    rename_i v' hv
    simp only [Option.some.injEq, Prod.mk.injEq] at hc
    obtain ⟨rfl, rfl, rfl⟩ := hc
    obtain ⟨r, h1, h2⟩ := h.prim f p hpr E args args' v' w hA hv
    exact ⟨.inr ⟨r, h1, E, .refl E, hS, h2, .refl _ _⟩, fun hf => by rw [hd] at hf; cases hf⟩
  | none =>
    simp only [hpr] at hc
    cases hF : IP.fn f with
    | none => simp [hF] at hc
    | some F =>
      simp only [hF] at hc
      have key := callF_W hcb h hp n hpr hF rfl rfl rfl hc hS hA
      exact ⟨.inl key, fun _ => key⟩

theorem thw_W {cb : Cb} (hcb : CbOk P pm cb) (h : ProgOk P pm IP) (hp : PureCb pm cb) (n : Nat) {f : Nat} {args : List MV} {m : Mem} {ls : List LRec} {v : MV} {m' : Mem} {ls' : List LRec} (hc : thwP IP cb n f args m ls = some (v, m', ls'))
    {E : Env} {base : Nat} {w : World} {args' : List Value} (hS : Sim P pm E m ls base w.heap) (hA : Vs E args args') : Ent P f args'.toArray w (Aft P pm E base w v m' ls') := by
  unfold thwP at hc
  cases hpr : IP.prim f with
  | some p => simp [hpr] at hc
  | none =>
    simp only [hpr] at hc
    cases hF : IP.fn f with
    | none => simp [hF] at hc
    | some F =>
      simp only [hF] at hc
      exact .inl (callF_W hcb h hp n (F := ⟨2, F.nt, F.res, F.body⟩) hpr hF rfl rfl rfl hc hS hA)

theorem mach_ok (h : ProgOk P pm IP) : ∀ n, CbOk P pm (mach IP n)
  | 0 => ⟨fun hc => by simp [mach] at hc, fun hc => by simp [mach] at hc, fun hc => by simp [mach] at hc⟩
  | n + 1 =>
    have ih := mach_ok h n
    ⟨fun hc _ _ _ _ hS hA => call_W ih h (mach_pure h n) n hc hS hA, fun hc _ _ _ _ _ hS hA hl k => yld_W ih (mach_pure h n) h.mixed n hc hS hA hl k, fun hc _ _ _ _ hS hA => thw_W ih h (mach_pure h n) n hc hS hA⟩

/-- What Mini says of a call of a function of trees, the model does. -/
theorem mach_calls (h : ProgOk P pm IP) {n f : Nat} {args : List MV} {v : MV} {m : Mem} {ls : List LRec} (hc : (mach IP n).call f args [] [] = some (v, m, ls)) {I : Nat → Option (Array Value)} {w : World} (hI : ∀ n C, I n = some C → ∃ el fr, w.heap[n]? = some (Obj.cells C el fr))
    {args' : List Value} (hA : Vs { I, nb := 0, gen := fun _ => 0, pl := fun _ => 0, cap := fun _ => 0, lam := fun _ => none, I0 := I } args args') (hf : IP.prim f = none) :
    Calls P f args'.toArray w fun e w' => ∃ r E', e = .returned r ∧ V E' v r ∧ Below w.heap.size w w' := by
  have hS : Sim P pm { I, nb := 0, gen := fun _ => 0, pl := fun _ => 0, cap := fun _ => 0, lam := fun _ => none, I0 := I } [] [] w.heap.size w.heap :=
    { nb := rfl, bas := Nat.le_refl _, blk := fun i k hi => by simp at hi, inj := fun i j hi => by simp at hi
      imm := fun n C hn => ⟨hI n C hn, fun i hi => by simp at hi⟩
      lrec := fun j r hj => by simp at hj
      lam := fun j l hj => by simp at hj
      lamInj := fun i j l hi => by simp at hi
      old := fun n C _ hn => hn }
  rcases ((mach_ok h n).call hc hS hA).1 with ⟨h1, h2⟩ | ⟨r, h1, h2⟩
  · refine h2.mono ?_
    rintro e w' ⟨r, rfl, E', _, _, hV, hst⟩
    exact ⟨r, E', rfl, hV, hst.below⟩
  · exfalso
    cases n with
    | zero => simp [mach] at hc
    | succ n =>
      simp only [mach, callP, hf] at hc
      cases hF : IP.fn f with
      | none => simp [hF] at hc
      | some F =>
        obtain ⟨fn, c, e1, e2, e3, e4, e5, e6⟩ := h.fn f F hf hF
        rw [e6] at h1
        simp at h1

end mach
end Go.Mini
