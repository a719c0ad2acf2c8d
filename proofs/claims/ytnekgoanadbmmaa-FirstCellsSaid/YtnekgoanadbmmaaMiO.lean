/-
Code: loops, ranges over functions; what a frame leaves behind.
-/
import Derived.Test.YtnekgoanadbmmaaMiN
import Derived.RangeFuncRecord
namespace Go.Mini
open Go.RowKit
set_option linter.unusedSimpArgs false

section put
variable {P : Program} {pm : Nat → Bool} {E : Env} {m : Mem} {ls : List LRec} {base : Nat}

/-- Blocks that are neither Mini's cells nor its loops may be any. -/
theorem Sim.same {H H' : Array Obj} (h : Sim P pm E m ls base H) (hsz : base ≤ H'.size) (hc : ∀ (n : Nat) C el fr, H[n]? = some (Obj.cells C el fr) → H'[n]? = some (Obj.cells C el fr)) (hl : ∀ (n : Nat) q, H[n]? = some (Obj.loop q) → H'[n]? = some (Obj.loop q)) : Sim P pm E m ls base H' where
  nb := h.nb
  bas := hsz
  blk i k hi := by
    have hk := h.blk i k hi
    obtain ⟨C, el, L, post, h1, h2⟩ := hk.mem
    exact ⟨hk.gen, hk.pl, ⟨C, el, L, post, hc _ _ _ _ h1, h2⟩, hk.deep⟩
  inj := h.inj
  imm n C hn := by
    obtain ⟨⟨el, fr, h1⟩, h2⟩ := h.imm n C hn
    exact ⟨⟨el, fr, hc _ _ _ _ h1⟩, h2⟩
  lrec j r hj := by
    obtain ⟨l, q, h1, h2, h3, h4⟩ := h.lrec j r hj
    exact ⟨l, q, h1, h2, hl _ _ h3, h4⟩
  lam := h.lam
  lamInj := h.lamInj
  old := h.old

theorem Sim.putDef {w : World} (h : Sim P pm E m ls base w.heap) {r : Nat} {x : Option (List Deferred)} (hr : w.heap[r]? = some (.deferred x)) (o : Obj) : Sim P pm E m ls base (w.putObj r o).heap :=
  h.same (by simpa using h.bas) (fun n C el fr hn => by rw [World.putObj_heap_other (fun e => by subst e; rw [hr] at hn; cases hn)]; exact hn)
    (fun n q hn => by rw [World.putObj_heap_other (fun e => by subst e; rw [hr] at hn; cases hn)]; exact hn)

/-- A loop's record is written. -/
theorem Sim.putLoop {w : World} (h : Sim P pm E m ls base w.heap) {j l : Nat} {q q' : Loop} {r' : LRec} (hl : E.lam j = some l) (hq : w.heap[l]? = some (.loop q)) (hok : LOk P pm E r' q') : Sim P pm E m (ls.set j r') base (w.putObj l (.loop q')).heap where
  nb := h.nb
  bas := by simpa using h.bas
  blk i k hi := by
    have hk := h.blk i k hi
    obtain ⟨C, el, L, post, h1, h2⟩ := hk.mem
    exact ⟨hk.gen, hk.pl, ⟨C, el, L, post, by rw [World.putObj_heap_other (fun e => by rw [e, hq] at h1; cases h1)]; exact h1, h2⟩, hk.deep⟩
  inj := h.inj
  imm n C hn := by
    obtain ⟨⟨el, fr, h1⟩, h2⟩ := h.imm n C hn
    exact ⟨⟨el, fr, by rw [World.putObj_heap_other (fun e => by rw [e, hq] at h1; cases h1)]; exact h1⟩, h2⟩
  lrec i r hi := by
    have hjl := h.lam j l hl
    by_cases e : i = j
    · subst e
      rw [List.getElem?_set_self hjl] at hi
      simp at hi
      subst hi
      obtain ⟨l', q0, h1, h2, h3, h4⟩ := h.lrec i ls[i] (by simp [hjl])
      rw [hl] at h1
      simp at h1
      subst h1
      exact ⟨l, q', hl, h2, World.putObj_heap_same (Array.getElem?_eq_some_iff.1 hq).1, hok⟩
    · rw [List.getElem?_set_ne (Ne.symm e)] at hi
      obtain ⟨l', q0, h1, h2, h3, h4⟩ := h.lrec i r hi
      exact ⟨l', q0, h1, h2, by rw [World.putObj_heap_other (fun e' => by subst e'; exact e (h.lamInj _ _ _ h1 hl))]; exact h3, h4⟩
  lam i l' hi := by simpa using h.lam i l' hi
  lamInj := h.lamInj
  old := h.old

/-- The environment with one loop more. -/
def Env.addL (E : Env) (j l : Nat) : Env := { E with lam := fun i => if i = j then some l else E.lam i }

theorem Sim.le_addL {H : Array Obj} (h : Sim P pm E m ls base H) (l : Nat) : EnvLe E (E.addL ls.length l) where
  I _ _ h := h
  nb := Nat.le_refl _
  gen _ _ := Nat.le_refl _
  pl _ _ _ := ⟨rfl, rfl⟩
  lam j l' hj := by
    have := h.lam j l' hj
    have hne : j ≠ ls.length := by omega
    simp [Env.addL, hne, hj]
  I0 := rfl

theorem Sim.pushL {H : Array Obj} (h : Sim P pm E m ls base H) {q : Loop} {r : LRec} (hok : LOk P pm E r q) : Sim P pm (E.addL ls.length H.size) m (ls ++ [r]) base (H.push (.loop q)) := by
  have hp := h.push (.loop q)
  have hle := h.le_addL H.size
  have hlt : ∀ i l, E.lam i = some l → l < H.size := fun i l hi => by
    have hil := h.lam i l hi
    obtain ⟨l', q0, h1, h2, h3, h4⟩ := h.lrec i ls[i] (by simp [hil])
    rw [hi] at h1
    simp at h1
    subst h1
    exact (Array.getElem?_eq_some_iff.1 h3).1
  exact
    { nb := hp.nb, bas := hp.bas
      blk := fun i k hi => by
        have hk := hp.blk i k hi
        obtain ⟨C', el', L, post, h1, h2, h3, h4⟩ := hk.mem
        exact ⟨hk.gen, hk.pl, ⟨C', el', L, post, h1, h2, h3, h4.1.mono hle, h4.2⟩, hk.deep⟩
      inj := hp.inj
      imm := hp.imm
      lrec := fun j r' hj => by
        by_cases e : j < ls.length
        · rw [List.getElem?_append_left e] at hj
          obtain ⟨l, q0, h1, h2, h3, h4⟩ := hp.lrec j r' hj
          exact ⟨l, q0, hle.lam _ _ h1, h2, h3, h4.mono hle⟩
        · have hj' := (List.getElem?_eq_some_iff.1 hj).1
          have e' : j = ls.length := by simp at hj'; omega
          subst e'
          simp at hj
          subst hj
          exact ⟨H.size, q, by simp [Env.addL], h.bas, by simp, hok.mono hle⟩
      lam := fun j l hj => by
        simp only [Env.addL] at hj
        by_cases e : j = ls.length
        · simp [e]
        · rw [if_neg e] at hj
          have := h.lam j l hj
          simp; omega
      lamInj := fun i j l hi hj => by
        simp only [Env.addL] at hi hj
        by_cases ei : i = ls.length
        · by_cases ej : j = ls.length
          · omega
          · rw [if_pos ei] at hi
            rw [if_neg ej] at hj
            simp at hi
            have := hlt j l hj
            omega
        · by_cases ej : j = ls.length
          · rw [if_pos ej] at hj
            rw [if_neg ei] at hi
            simp at hj
            have := hlt i l hi
            omega
          · rw [if_neg ei] at hi
            rw [if_neg ej] at hj
            exact h.lamInj i j l hi hj
      old := hp.old }

theorem Stp.putObj {w : World} {l : Nat} {o o' : Obj} (hl : w.heap[l]? = some o) (ho : ∀ x, o ≠ .deferred x) (hb : base ≤ l) : Stp base w (w.putObj l o') :=
  ⟨⟨rfl, rfl, rfl, by simp, fun k hk => World.putObj_heap_other (by omega)⟩, fun n x hx => by
    rw [World.putObj_heap_other (fun e => by subst e; rw [hl] at hx; simp at hx; exact ho _ hx)]; exact hx⟩

theorem Stp.putNew {w0 w : World} (h : Stp base w0 w) {r : Nat} {o' : Obj} (hr : w0.heap.size ≤ r) (hb : base ≤ w0.heap.size) : Stp base w0 (w.putObj r o') :=
  ⟨⟨h.below.os, h.below.tape, h.below.output, by simpa using h.below.size, fun k hk => by rw [World.putObj_heap_other (by omega)]; exact h.below.block k hk⟩, fun n x hx => by
    have := (Array.getElem?_eq_some_iff.1 hx).1
    rw [World.putObj_heap_other (by omega)]; exact h.dfr n x hx⟩
end put

def mark (r : Nat) : Deferred := { target := .collected r, args := #[] }

def toExit : Ex → Exit
  | .normal => .normal
  | .exit id => .exit id
  | .ret => .ret

/-- What is known of a frame, and of the blocks that its marks name. -/
def COk (P : Program) (pm : Nat → Bool) (E0 : Env) (base : Nat) (w0 : World) (s : St) (a : Act) (w : World) : Prop :=
  ∃ rs : List Nat, FOk P pm E0 base w0 (rs.map mark) s a w ∧ rs.Nodup ∧ ∀ r ∈ rs, w0.heap.size ≤ r ∧ w.heap[r]? = some (.deferred (some []))

theorem Vs.mask {E : Env} : ∀ {T : List MV} {L : List Value} (live : List Bool), Vs E T L → Vs E (maskT live T) L
  | [], _, _, h => by simpa [maskT] using h
  | v :: T, _, [], .cons h hs => by simp only [maskT]; exact .cons .undef (Vs.mask [] hs)
  | v :: T, _, b :: live, .cons h hs => by
    simp only [maskT]
    refine .cons ?_ (Vs.mask live hs)
    cases b
    · exact .undef
    · exact h

theorem COk.mask {P : Program} {pm : Nat → Bool} {E0 : Env} {base : Nat} {w0 w : World} {s : St} {a : Act} (h : COk P pm E0 base w0 s a w) (live : List Bool) : COk P pm E0 base w0 ⟨maskT live s.T, s.m, s.ls⟩ a w := by
  obtain ⟨rs, ⟨E, h1, h2, h3, h4, h5⟩, h6⟩ := h
  exact ⟨rs, ⟨E, h1, h2, h3.mask live, h4, h5⟩, h6⟩

section code
variable {P : Program} {pm : Nat → Bool} {cb : Cb} (hcb : CbOk P pm cb) (hp : PureCb pm cb) (hm : P.follows .mixedOrders = true)

theorem run_enterLoop_in (fn : FuncId) (tmps : Array Value) (ps : Array Tmp) (assign body : Code) {l0 : Nat} {q : Loop} {w : World} (h : w.heap[l0]? = some (.loop q)) :
    (Instr.enterLoop fn tmps ps assign body (some l0)).run P w =
      .ok (w.heap.size, []) (w.alloc (.loop { state := .ready, pending := none, fn, tmps, params := ps, assign, body, defers := q.defers })) := by
  unfold Instr.enterLoop
  simp only [Sem.run_bind, run_getLoop h, run_newObj_alloc, Result.andThen, Sem.run_pure, World.size_alloc]

/-- A loop is entered, in an activation or in a loop's round. -/
theorem enter_W {E : Env} {base : Nat} {w : World} {m : Mem} {ls : List LRec} (hs : Sim P pm E m ls base w.heap) (ro : Option Nat) (hro : ∀ l, ro = some l → ∃ j, E.lam j = some l) (fn : FuncId) (tmps : Array Value) (ps : Array Tmp) (assign body : Code) :
    ∃ (W0 : World) (rs : List Nat) (D : Nat), (Instr.enterLoop fn tmps ps assign body ro).run P w = .ok (W0.heap.size, rs.map mark) (W0.alloc (.loop { state := .ready, pending := none, fn, tmps, params := ps, assign, body, defers := D })) ∧
      Sim P pm E m ls base W0.heap ∧ Stp base w W0 ∧ rs.Nodup ∧ ∀ r ∈ rs, w.heap.size ≤ r ∧ W0.heap[r]? = some (.deferred (some [])) := by
  cases ro with
  | none =>
    refine ⟨w.alloc (.deferred (some [])), [w.heap.size], w.heap.size, ?_, hs.push _, .alloc hs.bas _, by simp, ?_⟩
    · rw [run_enterLoop_outer]; simp [mark]
    · intro r hr
      simp at hr
      subst hr
      exact ⟨Nat.le_refl _, World.alloc_heap_new w _⟩
  | some l0 =>
    obtain ⟨j, hj⟩ := hro l0 rfl
    have hjl := hs.lam j l0 hj
    obtain ⟨l', q, h1, h2, h3, h4⟩ := hs.lrec j ls[j] (by simp [hjl])
    rw [hj] at h1
    simp at h1
    subst h1
    exact ⟨w, [], q.defers, by rw [run_enterLoop_in _ _ _ _ _ h3]; simp, hs, .refl _ _, by simp, by simp⟩

theorem iter_W {n : Nat} {c : Code} {ir : IC} {live : List Bool} {ro : Option Nat} {E0 : Env} {base : Nat} {w0 : World} {k : Nat}
    (ih : ∀ {s : St} {ex : Ex} {s' : St} {a : Act} {w : World} {Q : Exit → Act → World → Prop}, evC cb n ir s = some (ex, s') → COk P pm E0 base w0 s a w → (∀ a' w', COk P pm E0 base w0 s' a' w' → Q (toExit ex) a' w') → c.wpIn (Fr ro) k P Q a w) :
    ∀ (j : Nat) {s : St} {ex : Ex} {s' : St} {a : Act} {w : World} {Q : Exit → Act → World → Prop}, iter (evC cb n ir) live j s = some (ex, s') → COk P pm E0 base w0 s a w → (∀ a' w', COk P pm E0 base w0 s' a' w' → Q (toExit ex) a' w') →
      Code.roundsIn (Fr ro) k P c Q j a w
  | 0, _, _, _, _, _, _, h, _, _ => by simp [iter] at h
  | j + 1, s, ex, s', a, w, Q, h, hc, hQ => by
    rw [roundsIn_succ]
    simp only [iter] at h
    cases h1 : evC cb n ir ⟨maskT live s.T, s.m, s.ls⟩ with
    | none => simp [h1] at h
    | some p =>
      obtain ⟨e1, s1⟩ := p
      refine ih h1 (hc.mask live) fun a' w' hc' => ?_
      cases e1 with
      | normal =>
        simp only [h1] at h
        exact iter_W ih j h hc' hQ
      | exit id =>
        simp only [h1, Option.some.injEq, Prod.mk.injEq] at h
        obtain ⟨rfl, rfl⟩ := h
        exact hQ a' w' hc'
      | ret =>
        simp only [h1, Option.some.injEq, Prod.mk.injEq] at h
        obtain ⟨rfl, rfl⟩ := h
        exact hQ a' w' hc'

include hcb hp hm in
theorem code_W (n : Nat) {c : Code} {ir : IC} (htr : Tr P pm c ir) : ∀ {ro : Option Nat} {E0 : Env} {base : Nat} {w0 : World} {s : St} {ex : Ex} {s' : St} {a : Act} {w : World} {Q : Exit → Act → World → Prop} {k : Nat},
    evC cb n ir s = some (ex, s') → COk P pm E0 base w0 s a w → (∀ l, ro = some l → ∃ j, E0.lam j = some l) → (∀ a' w', COk P pm E0 base w0 s' a' w' → Q (toExit ex) a' w') → c.wpIn (Fr ro) k P Q a w := by
  induction htr with
  | skip =>
    intro ro E0 base w0 s ex s' a w Q k hev hc hro hQ
    simp only [evC, Option.some.injEq, Prod.mk.injEq] at hev
    obtain ⟨rfl, rfl⟩ := hev
    exact wpIn_skip (hQ a w hc)
  | exit =>
    intro ro E0 base w0 s ex s' a w Q k hev hc hro hQ
    simp only [evC, Option.some.injEq, Prod.mk.injEq] at hev
    obtain ⟨rfl, rfl⟩ := hev
    exact wpIn_exit (hQ a w hc)
  | ret =>
    intro ro E0 base w0 s ex s' a w Q k hev hc hro hQ
    simp only [evC, Option.some.injEq, Prod.mk.injEq] at hev
    obtain ⟨rfl, rfl⟩ := hev
    exact wpIn_ret (hQ a w hc)
  | reg h ho =>
    intro ro E0 base w0 s ex s' a w Q k hev hc hro hQ
    simp only [evC] at hev
    split at hev
    case h_2 => simp at hev
    rename_i s1 he
    simp only [Option.some.injEq, Prod.mk.injEq] at hev
    obtain ⟨rfl, rfl⟩ := hev
    obtain ⟨rs, ⟨E, hE, hS, hT, hst, hd⟩, hn, hr⟩ := hc
    refine region_W hcb hp hm h ho (E0 := E) (w0 := w) (ds := rs.map mark) ⟨E, .refl E, hS, hT, .refl _ _, hd⟩ he ?_
    rintro a' w' ⟨E', hE', hS', hT', hst', hd'⟩
    exact hQ a' w' ⟨rs, ⟨E', hE.trans hE', hS', hT', hst.trans hst', hd'⟩, hn, fun r hr' => ⟨(hr r hr').1, hst'.dfr _ _ (hr r hr').2⟩⟩
  | seq ha hb iha ihb =>
    intro ro E0 base w0 s ex s' a w Q k hev hc hro hQ
    simp only [evC] at hev
    refine wpIn_seq ?_
    split at hev
    · rename_i s1 he
      exact iha he hc hro fun a' w' hc' => ihb hev hc' hro hQ
    · rename_i hne
      refine iha hev hc hro fun a' w' hc' => ?_
      cases ex with
      | normal => exact absurd hev (hne _)
      | exit id => exact hQ a' w' hc'
      | ret => exact hQ a' w' hc'
  | @cond c0 c' x y x' y' h ha hb iha ihb =>
    intro ro E0 base w0 s ex s' a w Q k hev hc hro hQ
    simp only [evC] at hev
    have hT : ∃ E, Vs E s.T a.tmps.toList := by
      obtain ⟨rs, ⟨E, hE, hS, hT, _⟩, _⟩ := hc
      exact ⟨E, hT⟩
    obtain ⟨E, hT⟩ := hT
    have hV := getO_V hT h
    split at hev
    · rename_i hb'
      rw [hb'] at hV
      exact wpIn_cond_true hV.inv_bool (iha hev hc hro hQ)
    · rename_i hb'
      rw [hb'] at hV
      exact wpIn_cond_false hV.inv_bool (ihb hev hc hro hQ)
    · simp at hev
  | block ha iha =>
    intro ro E0 base w0 s ex s' a w Q k hev hc hro hQ
    simp only [evC] at hev
    refine wpIn_block ?_
    split at hev
    · rename_i i s1 he
      refine iha he hc hro fun a' w' hc' => ?_
      simp only [toExit, Exit.inBlock]
      split at hev
      · rename_i hi
        simp only [Option.some.injEq, Prod.mk.injEq] at hev
        obtain ⟨rfl, rfl⟩ := hev
        rw [if_pos hi]
        exact hQ a' w' hc'
      · rename_i hi
        simp only [Option.some.injEq, Prod.mk.injEq] at hev
        obtain ⟨rfl, rfl⟩ := hev
        rw [if_neg hi]
        exact hQ a' w' hc'
    · rename_i hne
      refine iha hev hc hro fun a' w' hc' => ?_
      cases ex with
      | normal => exact hQ a' w' hc'
      | exit id => exact absurd hev (hne _ _)
      | ret => exact hQ a' w' hc'
  | loop ha iha =>
    intro ro E0 base w0 s ex s' a w Q k hev hc hro hQ
    simp only [evC] at hev
    exact wpIn_loop_rounds n (iter_W (fun h1 h2 h3 => iha h1 h2 hro h3) n hev hc hQ)
  | stuck =>
    intro ro E0 base w0 s ex s' a w Q k hev hc hro hQ
    simp [evC] at hev
  | @mask live c0 b h ih =>
    intro ro E0 base w0 s ex s' a w Q k hev hc hro hQ
    simp only [evC] at hev
    exact ih hev (hc.mask live) hro hQ
  | @rangeF f f' ps x y x' y' hf ha hb iha ihb =>
    intro ro E0 base w0 s ex s' a w Q k hev hc hro hQ
    obtain ⟨rs, ⟨E, hE, hS, hT, hst, hd⟩, hn, hr⟩ := hc
    have hF := getO_V hT hf
    simp only [evC] at hev
    split at hev
    case h_2 => simp at hev
    rename_i g u v hg
    rw [hg] at hF
    obtain ⟨u', v', e1, hu, hv⟩ := hF.inv_fn
    split at hev
    case h_2 => simp at hev
    rename_i rv m' ls' hcall
    split at hev
    case h_2 => simp at hev
    rename_i r hr'
    split at hev
    case isFalse => simp at hev
    rename_i hst2
    refine wpIn_rangeFunc ?_
    intro fn _
    obtain ⟨W0, rs', D, hrun, hS0, hst0, hn', hrs'⟩ := enter_W (P := P) hS ro (fun l hl => by
      obtain ⟨j, hj⟩ := hro l hl
      exact ⟨j, hE.lam _ _ hj⟩) fn a.tmps ps x y
    obtain ⟨q, hq⟩ : ∃ q : Loop, q = { state := .ready, pending := none, fn, tmps := a.tmps, params := ps, assign := x, body := y, defers := D } := ⟨_, rfl⟩
    rw [← hq] at hrun
    have hle := hS0.le_addL W0.heap.size
    have hS1 : Sim P pm (E.addL s.ls.length W0.heap.size) s.m (s.ls ++ [⟨s.T, ps.toList, x', y', 0, none⟩]) base (W0.alloc (.loop q)).heap :=
      hS0.pushL (q := q) (r := ⟨s.T, ps.toList, x', y', 0, none⟩) ⟨by rw [hq]; rfl, fun _ => ⟨by rw [hq]; rfl, by rw [hq]; exact hT, by rw [hq], by rw [hq]; exact ha, by rw [hq]; exact hb⟩⟩
    have hst1 : Stp base W0 (W0.alloc (.loop q)) := .alloc hS0.bas _
    have hA : Vs (E.addL s.ls.length W0.heap.size) (u ++ [.yld s.ls.length] ++ v) (u' ++ [.func (.yield W0.heap.size) #[] #[]] ++ v') :=
      ((hu.mono hle).append (.cons (.yld (by simp [Env.addL])) .nil)).append (hv.mono hle)
    obtain ⟨c1, c2⟩ := (hcb.call hcall hS1 hA).2 (by simp [deepVs_append, deepVs, deepV])
    refine ⟨W0.heap.size, rs'.map mark, W0.alloc (.loop q), { target := .fn (.func g) v'.toArray, args := u'.toArray ++ #[.func (.yield W0.heap.size) #[] #[]] }, W0.alloc (.loop q), g, _, W0.alloc (.loop q), hrun, ?_, fun _ _ => trivial, ?_, fnone, callsIn_fr (c2.mono ?_)⟩
    · simp only [resolve, e1, Deferred.ofValue, Sem.run_bind, Sem.run_pure, Result.andThen_ok]
      simp [Act.eval]
    · simp only [invoke]
      rw [← c1]
      simp
    · rintro e W3 ⟨r3, rfl, E', hE', hS', hV', hst'⟩
      obtain ⟨l', q', l1, l2, l3, l4⟩ := hS'.lrec _ _ hr'
      have hlam : E'.lam s.ls.length = some W0.heap.size := hE'.lam _ _ (by simp [Env.addL])
      rw [hlam] at l1
      simp at l1
      subst l1
      have hlive := l4.live (by omega)
      have hbusy : q'.state ≠ .busy := by
        rw [l4.st]
        rcases hst2 with h0 | h0 <;> rw [h0] <;> simp [stOf]
      refine ⟨q'.pending, _, run_endLoop l3 hbusy, ?_⟩
      have hfin : COk P pm E0 base w0 ⟨s.T, m', ls'.set s.ls.length deadL⟩ { a with defers := rs'.map mark ++ a.defers } (W3.putObj W0.heap.size (.loop { q' with state := .exhausted })) := by
        have st1 : Stp base w (W3.putObj W0.heap.size (.loop { q' with state := .exhausted })) :=
          ((hst0.trans hst1).trans hst').trans (.putObj l3 (fun _ h => by cases h) l2)
        have st2 : Stp base W0 (W3.putObj W0.heap.size (.loop { q' with state := .exhausted })) :=
          (hst1.trans hst').trans (.putObj l3 (fun _ h => by cases h) l2)
        refine ⟨rs' ++ rs, ⟨E', (hE.trans hle).trans hE', hS'.putLoop hlam l3 ⟨rfl, fun h => by simp [deadL] at h⟩, (hT.mono hle).mono hE', hst.trans st1, by simp [hd]⟩, ?_, ?_⟩
        · refine List.nodup_append.2 ⟨hn', hn, fun p hp' o ho e => ?_⟩
          subst e
          have := (hrs' p hp').1
          have := (Array.getElem?_eq_some_iff.1 (hr p ho).2).1
          omega
        · intro p hp'
          rcases List.mem_append.1 hp' with h | h
          · exact ⟨Nat.le_trans hst.below.size (hrs' p h).1, st2.dfr _ _ (hrs' p h).2⟩
          · exact ⟨(hr p h).1, st1.dfr _ _ (hr p h).2⟩
      generalize W3.putObj W0.heap.size (.loop { q' with state := .exhausted }) = Wf at hfin ⊢
      rw [hlive.1]
      split at hev
      · rename_i hpe
        simp only [Option.some.injEq, Prod.mk.injEq] at hev
        obtain ⟨rfl, rfl⟩ := hev
        rw [hpe]
        exact hQ _ _ hfin
      · rename_i e hpe
        simp only [Option.some.injEq, Prod.mk.injEq] at hev
        obtain ⟨rfl, rfl⟩ := hev
        rw [hpe]
        cases e with
        | normal => exact hQ _ _ hfin
        | exit id => exact wpIn_exit (hQ _ _ hfin)
        | ret => exact wpIn_ret (hQ _ _ hfin)

end code
end Go.Mini
