/-
A state of Mini and a heap of the model (Sim); what a step of either does to it: a new block, a turned block, a draw.
-/
import Derived.Test.YtnekgoanadbmmaaMiC
import Derived.Laws.Append
import Derived.Laws.AppendOwn
import Derived.Laws.Tables
import Derived.Laws.CopyRow
import Derived.Laws.MakeOwn
import Derived.Laws.Slices
import Derived.Laws.StructEq
namespace Go.Mini
open Go.RowKit

/-- What is pending in a loop's record. -/
def codeOf : Ex → Option Code
  | .normal => none
  | .exit id => some (.exit id)
  | .ret => some .ret

def stOf : Nat → LoopState
  | 0 => .ready
  | 1 => .busy
  | 2 => .done
  | _ => .exhausted

structure LOk (P : Program) (pm : Nat → Bool) (E : Env) (r : LRec) (q : Loop) : Prop where
  st : q.state = stOf r.st
  live : r.st < 3 → q.pending = r.pend.bind codeOf ∧ Vs E r.T q.tmps.toList ∧ q.params.toList = r.ps ∧ Tr P pm q.assign r.asg ∧ Tr P pm q.body r.body

structure BOk (E : Env) (H : Array Obj) (base i : Nat) (k : Blk) : Prop where
  gen : E.gen i = k.gen
  pl : base ≤ E.pl i
  mem : ∃ C el L post, H[E.pl i]? = some (.cells C el (0, 0)) ∧ C.size = E.cap i ∧ C.toList = L ++ post ∧ Vs E k.cells L ∧ Sc L
  deep : k.deep = true → deepVs k.cells = true

structure Sim (P : Program) (pm : Nat → Bool) (E : Env) (m : Mem) (ls : List LRec) (base : Nat) (H : Array Obj) : Prop where
  nb : E.nb = m.length
  bas : base ≤ H.size
  blk : ∀ i k, m[i]? = some k → BOk E H base i k
  inj : ∀ i j, i < m.length → j < m.length → E.pl i = E.pl j → i = j
  imm : ∀ n C, E.I n = some C → (∃ el fr, H[n]? = some (.cells C el fr)) ∧ ∀ i, i < m.length → E.pl i ≠ n
  lrec : ∀ j r, ls[j]? = some r → ∃ l q, E.lam j = some l ∧ base ≤ l ∧ H[l]? = some (.loop q) ∧ LOk P pm E r q
  lam : ∀ j l, E.lam j = some l → j < ls.length
  lamInj : ∀ i j l, E.lam i = some l → E.lam j = some l → i = j
  old : ∀ n C, n < base → E.I n = some C → E.I0 n = some C

/-- Nothing that lay below 'base' has turned, and no block of deferred calls. -/
structure Stp (base : Nat) (w w' : World) : Prop where
  below : Below base w w'
  dfr : ∀ (n : Nat) (x : Option (List Deferred)), w.heap[n]? = some (Obj.deferred x) → w'.heap[n]? = some (Obj.deferred x)

theorem Stp.refl (base : Nat) (w : World) : Stp base w w := ⟨.refl _ _, fun _ _ h => h⟩
theorem Stp.trans {base : Nat} {a b c : World} (h : Stp base a b) (k : Stp base b c) : Stp base a c := ⟨h.below.trans k.below, fun n x hx => k.dfr n x (h.dfr n x hx)⟩
theorem Stp.mono {base base' : Nat} {a b : World} (h : Stp base a b) (hb : base' ≤ base) : Stp base' a b := ⟨h.below.mono hb, h.dfr⟩
theorem Stp.drew (base : Nat) (w : World) : Stp base w w.drew := ⟨(Below.refl _ _).drew, fun _ _ h => h⟩
theorem Stp.alloc {base : Nat} {w : World} (h : base ≤ w.heap.size) (o : Obj) : Stp base w (w.alloc o) :=
  ⟨(Below.refl _ _).alloc h o, fun n x hx => by rw [Below.heap_alloc _ _ _ (Array.getElem?_eq_some_iff.1 hx).1]; exact hx⟩
theorem Stp.setRow {base : Nat} {w : World} {g : Nat} (hg : base ≤ g) (cur : Array Value) (C : Array Value) (el : TypeId) (hh : w.heap[g]? = some (.cells C el (0, 0))) : Stp base w (w.setRow g cur) :=
  ⟨⟨rfl, rfl, rfl, by simp [World.setRow], fun k hk => setRow_other w g k cur (by omega)⟩, fun n x hx => by
    rw [setRow_other w g n cur (fun e => by subst e; rw [hh] at hx; cases hx)]; exact hx⟩

section sim
variable {P : Program} {pm : Nat → Bool} {E : Env} {m : Mem} {ls : List LRec} {base : Nat} {H : Array Obj}

theorem LOk.mono {E E' : Env} (hE : EnvLe E E') {r : LRec} {q : Loop} (h : LOk P pm E r q) : LOk P pm E' r q :=
  ⟨h.st, fun hl => let ⟨a, b, c⟩ := h.live hl; ⟨a, b.mono hE, c⟩⟩

theorem Sim.lt (h : Sim P pm E m ls base H) {i : Nat} {k : Blk} (hi : m[i]? = some k) : E.pl i < H.size := by
  obtain ⟨C, el, L, post, h1, _⟩ := (h.blk i k hi).mem
  exact (Array.getElem?_eq_some_iff.1 h1).1

/-- The environment with one block more. -/
def Env.addB (E : Env) (n c g : Nat) : Env :=
  { E with nb := E.nb + 1, gen := fun i => if i = E.nb then g else E.gen i, pl := fun i => if i = E.nb then n else E.pl i, cap := fun i => if i = E.nb then c else E.cap i }

theorem Env.le_addB (E : Env) (n c g : Nat) : EnvLe E (E.addB n c g) where
  I _ _ h := h
  nb := Nat.le_succ _
  gen b hb := by simp [Env.addB, Nat.ne_of_lt hb]
  pl b hb _ := by simp [Env.addB, Nat.ne_of_lt hb]
  lam _ _ h := h
  I0 := rfl

/-- The environment with one immutable block more. -/
def Env.addI (E : Env) (n : Nat) (C : Array Value) : Env := { E with I := fun i => if i = n then some C else E.I i }

theorem Env.le_addI {E : Env} {n : Nat} (C : Array Value) (h : E.I n = none) : EnvLe E (E.addI n C) where
  I i c hc := by
    have : i ≠ n := fun e => by subst e; rw [h] at hc; cases hc
    simp [Env.addI, this, hc]
  nb := Nat.le_refl _
  gen _ _ := Nat.le_refl _
  pl _ _ _ := ⟨rfl, rfl⟩
  lam _ _ h := h
  I0 := rfl

theorem Sim.fresh (h : Sim P pm E m ls base H) : E.I H.size = none := by
  cases hI : E.I H.size with
  | none => rfl
  | some C =>
    obtain ⟨⟨el, fr, h1⟩, _⟩ := h.imm _ _ hI
    have := (Array.getElem?_eq_some_iff.1 h1).1
    omega

theorem push_old {H : Array Obj} {o : Obj} {n : Nat} (h : n < H.size) : (H.push o)[n]? = H[n]? := by
  rw [Array.getElem?_push, if_neg (by omega)]

/-- A new block, of whatever kind, that Mini doesn't count. -/
theorem Sim.push (h : Sim P pm E m ls base H) (o : Obj) : Sim P pm E m ls base (H.push o) where
  nb := h.nb
  bas := by have := h.bas; simp; omega
  blk i k hi := by
    have hk := h.blk i k hi
    obtain ⟨C, el, L, post, h1, h2⟩ := hk.mem
    exact ⟨hk.gen, hk.pl, ⟨C, el, L, post, by rw [push_old (h.lt hi)]; exact h1, h2⟩, hk.deep⟩
  inj := h.inj
  imm n C hn := by
    obtain ⟨⟨el, fr, h1⟩, h2⟩ := h.imm n C hn
    exact ⟨⟨el, fr, by rw [push_old (Array.getElem?_eq_some_iff.1 h1).1]; exact h1⟩, h2⟩
  lrec j r hj := by
    obtain ⟨l, q, h1, h2, h3, h4⟩ := h.lrec j r hj
    exact ⟨l, q, h1, h2, by rw [push_old (Array.getElem?_eq_some_iff.1 h3).1]; exact h3, h4⟩
  lam := h.lam
  lamInj := h.lamInj
  old := h.old

/-- A new immutable block. -/
theorem Sim.pushI (h : Sim P pm E m ls base H) (C : Array Value) (el : TypeId) (fr : Nat × Nat) : Sim P pm (E.addI H.size C) m ls base (H.push (.cells C el fr)) := by
  have hp := h.push (.cells C el fr)
  have hle : EnvLe E (E.addI H.size C) := Env.le_addI C h.fresh
  exact
    { nb := hp.nb, bas := hp.bas
      blk := fun i k hi => by
        have hk := hp.blk i k hi
        obtain ⟨C', el', L, post, h1, h2, h3, h4⟩ := hk.mem
        exact ⟨hk.gen, hk.pl, ⟨C', el', L, post, h1, h2, h3, h4.1.mono hle, h4.2⟩, hk.deep⟩
      inj := hp.inj
      imm := fun n C' hn => by
        by_cases e : n = H.size
        · subst e
          simp only [Env.addI, if_true, Option.some.injEq] at hn
          subst hn
          refine ⟨⟨el, fr, by simp⟩, fun i hi => ?_⟩
          have := h.lt (List.getElem?_eq_getElem hi)
          show E.pl i ≠ _
          omega
        · simp only [Env.addI, if_neg e] at hn
          exact hp.imm n C' hn
      lrec := fun j r hj => by
        obtain ⟨l, q, h1, h2, h3, h4⟩ := hp.lrec j r hj
        exact ⟨l, q, h1, h2, h3, h4.mono hle⟩
      lam := hp.lam, lamInj := hp.lamInj
      old := fun n C' hlt hn => by
        have hb := h.bas
        have hne : n ≠ H.size := by omega
        simp only [Env.addI, if_neg hne] at hn
        exact h.old n C' hlt hn }

/-- A new block of Mini's. -/
theorem Sim.pushB (h : Sim P pm E m ls base H) (C : Array Value) (el : TypeId) (k : Blk) (L post : List Value) (hC : C.toList = L ++ post) (hL : Vs E k.cells L) (hsc : Sc L) (hd : k.deep = true → deepVs k.cells = true) :
    Sim P pm (E.addB H.size C.size k.gen) (m ++ [k]) ls base (H.push (.cells C el (0, 0))) := by
  have hp := h.push (.cells C el (0, 0))
  have hle := Env.le_addB E H.size C.size k.gen
  have hnb := h.nb
  exact
    { nb := by simp [Env.addB, hnb]
      bas := hp.bas
      blk := fun i k' hi => by
        by_cases e : i < m.length
        · rw [List.getElem?_append_left e] at hi
          have hk := hp.blk i k' hi
          obtain ⟨C', el', L', post', h1, h2, h3, h4⟩ := hk.mem
          have hne : i ≠ E.nb := by omega
          refine ⟨by simp only [Env.addB, if_neg hne]; exact hk.gen, by simp only [Env.addB, if_neg hne]; exact hk.pl, ⟨C', el', L', post', ?_, ?_, h3, h4.1.mono hle, h4.2⟩, hk.deep⟩
          · simp only [Env.addB, if_neg hne]; exact h1
          · simp only [Env.addB, if_neg hne]; exact h2
        · have hi' := (List.getElem?_eq_some_iff.1 hi).1
          have e' : i = m.length := by simp at hi'; omega
          subst e'
          simp at hi
          subst hi
          refine ⟨by simp [Env.addB, hnb], by simp only [Env.addB, hnb, if_true]; exact h.bas, ⟨C, el, L, post, ?_, ?_, hC, hL.mono hle, hsc⟩, hd⟩
          · simp [Env.addB, hnb]
          · simp [Env.addB, hnb]
      inj := fun i j hi hj e => by
        simp only [List.length_append, List.length_singleton] at hi hj
        simp only [Env.addB, hnb] at e
        by_cases ei : i = m.length
        · by_cases ej : j = m.length
          · omega
          · rw [if_pos ei, if_neg ej] at e
            have := h.lt (List.getElem?_eq_getElem (show j < m.length by omega))
            omega
        · by_cases ej : j = m.length
          · rw [if_neg ei, if_pos ej] at e
            have := h.lt (List.getElem?_eq_getElem (show i < m.length by omega))
            omega
          · rw [if_neg ei, if_neg ej] at e
            exact h.inj i j (by omega) (by omega) e
      imm := fun n C' hn => by
        obtain ⟨h1, h2⟩ := hp.imm n C' hn
        refine ⟨h1, fun i hi => ?_⟩
        simp only [List.length_append, List.length_singleton] at hi
        simp only [Env.addB, hnb]
        by_cases ei : i = m.length
        · rw [if_pos ei]
          intro e
          subst e
          have h0 := h.fresh
          have hn' : E.I H.size = some C' := hn
          rw [h0] at hn'
          cases hn'
        · rw [if_neg ei]; exact h2 i (by omega)
      lrec := fun j r hj => by
        obtain ⟨l, q, h1, h2, h3, h4⟩ := hp.lrec j r hj
        exact ⟨l, q, h1, h2, h3, h4.mono hle⟩
      lam := hp.lam, lamInj := hp.lamInj, old := h.old }

/-- The environment where block b has another generation, and place. -/
def Env.turn (E : Env) (b n c g : Nat) : Env :=
  { E with gen := fun i => if i = b then g else E.gen i, pl := fun i => if i = b then n else E.pl i, cap := fun i => if i = b then c else E.cap i }

theorem Env.le_turn {E : Env} {b n c g : Nat} (h : E.gen b < g) : EnvLe E (E.turn b n c g) where
  I _ _ h := h
  nb := Nat.le_refl _
  gen i hi := by
    by_cases e : i = b
    · subst e; simp [Env.turn]; omega
    · simp [Env.turn, e]
  pl i hi he := by
    by_cases e : i = b
    · subst e; simp [Env.turn] at he; omega
    · simp [Env.turn, e]
  lam _ _ h := h
  I0 := rfl

theorem row_old {w : World} {g n : Nat} {cs : Array Value} (h : n ≠ g) : (w.setRow g cs).heap[n]? = w.heap[n]? := setRow_other w g n cs h

/-- A block of Mini's is written in place. -/
theorem Sim.row {w : World} (h : Sim P pm E m ls base w.heap) {b : Nat} {k k' : Blk} (hb : m[b]? = some k) {C C' : Array Value} {el : TypeId} (hC : w.heap[E.pl b]? = some (.cells C el (0, 0)))
    {L post : List Value} (hC' : C'.toList = L ++ post) (hs : C'.size = C.size) (hg : k'.gen = k.gen) (hL : Vs E k'.cells L) (hsc : Sc L) (hd : k'.deep = true → deepVs k'.cells = true) :
    Sim P pm E (m.set b k') ls base (w.setRow (E.pl b) C').heap := by
  have hbl : b < m.length := (List.getElem?_eq_some_iff.1 hb).1
  have hk := h.blk b k hb
  have hother : ∀ i, i < m.length → i ≠ b → E.pl i ≠ E.pl b := fun i hi hne e => hne (h.inj i b hi hbl e)
  exact
    { nb := by simp [h.nb]
      bas := by have := h.bas; simpa [World.setRow] using this
      blk := fun i k'' hi => by
        by_cases e : i = b
        · subst e
          rw [List.getElem?_set_self hbl] at hi
          simp at hi
          subst hi
          obtain ⟨C0, el0, L0, post0, h1, h2, _⟩ := hk.mem
          rw [hC] at h1
          simp at h1
          obtain ⟨rfl, rfl⟩ := h1
          exact ⟨hk.gen.trans hg.symm, hk.pl, ⟨C', el, L, post, setRow_heap w _ _ _ _ _ hC, hs.trans h2, hC', hL, hsc⟩, hd⟩
        · rw [List.getElem?_set_ne (Ne.symm e)] at hi
          have hk' := h.blk i k'' hi
          obtain ⟨C0, el0, L0, post0, h1, h2⟩ := hk'.mem
          exact ⟨hk'.gen, hk'.pl, ⟨C0, el0, L0, post0, by rw [row_old (hother i (List.getElem?_eq_some_iff.1 hi).1 e)]; exact h1, h2⟩, hk'.deep⟩
      inj := fun i j hi hj => h.inj i j (by simpa using hi) (by simpa using hj)
      imm := fun n C0 hn => by
        obtain ⟨⟨el0, fr, h1⟩, h2⟩ := h.imm n C0 hn
        exact ⟨⟨el0, fr, by rw [row_old (Ne.symm (h2 b hbl))]; exact h1⟩, fun i hi => h2 i (by simpa using hi)⟩
      lrec := fun j r hj => by
        obtain ⟨l, q, h1, h2, h3, h4⟩ := h.lrec j r hj
        exact ⟨l, q, h1, h2, by rw [row_old (fun e => by subst e; rw [hC] at h3; cases h3)]; exact h3, h4⟩
      lam := h.lam, lamInj := h.lamInj, old := h.old }

/-- A block of Mini's takes another generation, where it lies or in a place of its own. -/
theorem Sim.turn (h : Sim P pm E m ls base H) {b : Nat} {k k' : Blk} (hb : m[b]? = some k) {n : Nat} {C' : Array Value} {el : TypeId} (hC : H[n]? = some (.cells C' el (0, 0)))
    (hn : n = E.pl b ∨ ((∀ i, i < m.length → E.pl i ≠ n) ∧ E.I n = none)) (hbase : base ≤ n)
    {L post : List Value} (hC' : C'.toList = L ++ post) (hg : k.gen < k'.gen) (hL : Vs E k'.cells L) (hsc : Sc L) (hd : k'.deep = true → deepVs k'.cells = true) :
    Sim P pm (E.turn b n C'.size k'.gen) (m.set b k') ls base H := by
  have hbl : b < m.length := (List.getElem?_eq_some_iff.1 hb).1
  have hk := h.blk b k hb
  have hle : EnvLe E (E.turn b n C'.size k'.gen) := Env.le_turn (by rw [hk.gen]; exact hg)
  have hother : ∀ i, i < m.length → i ≠ b → E.pl i ≠ n := fun i hi hne e => by
    rcases hn with rfl | ⟨h1, _⟩
    · exact hne (h.inj i b hi hbl e)
    · exact h1 i hi e
  exact
    { nb := by simp [Env.turn, h.nb]
      bas := h.bas
      blk := fun i k'' hi => by
        by_cases e : i = b
        · subst e
          rw [List.getElem?_set_self hbl] at hi
          simp at hi
          subst hi
          exact ⟨by simp [Env.turn], by simp [Env.turn]; exact hbase, ⟨C', el, L, post, by simp [Env.turn]; exact hC, by simp [Env.turn], hC', hL.mono hle, hsc⟩, hd⟩
        · rw [List.getElem?_set_ne (Ne.symm e)] at hi
          have hk' := h.blk i k'' hi
          obtain ⟨C0, el0, L0, post0, h1, h2, h3, h4⟩ := hk'.mem
          exact ⟨by simp [Env.turn, e]; exact hk'.gen, by simp [Env.turn, e]; exact hk'.pl, ⟨C0, el0, L0, post0, by simp [Env.turn, e]; exact h1, by simp [Env.turn, e]; exact h2, h3, h4.1.mono hle, h4.2⟩, hk'.deep⟩
      inj := fun i j hi hj e => by
        simp only [List.length_set] at hi hj
        simp only [Env.turn] at e
        by_cases ei : i = b
        · by_cases ej : j = b
          · omega
          · rw [if_pos ei, if_neg ej] at e; exact absurd e.symm (hother j hj ej)
        · by_cases ej : j = b
          · rw [if_neg ei, if_pos ej] at e; exact absurd e (hother i hi ei)
          · rw [if_neg ei, if_neg ej] at e; exact h.inj i j hi hj e
      imm := fun c C0 hc => by
        obtain ⟨h1, h2⟩ := h.imm c C0 hc
        refine ⟨h1, fun i hi => ?_⟩
        simp only [List.length_set] at hi
        simp only [Env.turn]
        by_cases ei : i = b
        · rw [if_pos ei]
          rcases hn with rfl | ⟨_, h3⟩
          · exact h2 b hbl
          · intro e; subst e; simp only [Env.turn] at hc; rw [h3] at hc; cases hc
        · rw [if_neg ei]; exact h2 i hi
      lrec := fun j r hj => by
        obtain ⟨l, q, h1, h2, h3, h4⟩ := h.lrec j r hj
        exact ⟨l, q, h1, h2, h3, h4.mono hle⟩
      lam := h.lam, lamInj := h.lamInj, old := h.old }
end sim
end Go.Mini
