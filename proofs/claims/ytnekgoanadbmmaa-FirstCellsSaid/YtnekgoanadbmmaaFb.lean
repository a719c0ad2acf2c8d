/-
Which line is taken: fill.reach, fill.One.
-/
import Derived.Test.YtnekgoanadbmmaaFa
namespace Go.Proofs.Ytnekgoanadbmmaa
open Go.Mini
set_option linter.unusedSimpArgs false
set_option linter.unusedVariables false
set_option maxHeartbeats 4000000

section
variable {m : Mem} {ls : List LRec} {Q : MV → Mem → List LRec → Prop}

/-- The last of some ends that fit, and ahead of which all do; the first one, and false, if that does not fit. -/
def reachG (fits : Int → Bool × Int) (p : Int) (first : Bool) : List Int → Int × Bool × Int
  | [] => (p, true, 0)
  | q :: qs => if (fits q).2 ≠ 0 then (0, false, (fits q).2) else if (fits q).1 = false then (if first = true then (q, false, 0) else (p, true, 0)) else reachG fits q false qs
def reachF (fits : Int → Bool × Int) (l : List Int) : Int × Bool × Int := reachG fits 0 true l

theorem reachG_mem {fits : Int → Bool × Int} : ∀ {l : List Int} {p : Int} {b : Bool}, (reachG fits p b l).2.2 = 0 → (reachG fits p b l).1 = p ∨ (reachG fits p b l).1 ∈ l
  | [], p, b, _ => .inl rfl
  | q :: qs, p, b, h => by
    simp only [reachG] at h ⊢
    split
    · rename_i h1; rw [if_pos h1] at h; exact absurd h h1
    · rename_i h1
      rw [if_neg h1] at h
      split
      · split
        · right; simp
        · left; rfl
      · rename_i h2
        rw [if_neg h2] at h
        rcases reachG_mem h with e | e
        · right; rw [e]; simp
        · right; simp [e]
theorem reachF_mem {fits : Int → Bool × Int} {l : List Int} (hl : l ≠ []) (h : (reachF fits l).2.2 = 0) : (reachF fits l).1 ∈ l := by
  cases l with
  | nil => exact absurd rfl hl
  | cons q qs =>
    unfold reachF at h ⊢
    simp only [reachG] at h ⊢
    split
    · rename_i h1; rw [if_pos h1] at h; exact absurd h h1
    · rename_i h1
      rw [if_neg h1] at h
      split
      · simp
      · rename_i h2
        rw [if_neg h2] at h
        rcases reachG_mem h with e | e
        · rw [e]; simp
        · simp [e]

def three (p : Int × Bool × Int) : MV := .tup [.int .i64 p.1, .bool p.2.1, .int .i64 p.2.2]

theorem c_reach {xs : List Int} {v : MV} {ff : Nat} {caps : List MV} {fits : Int → Bool × Int} {args : List MV} (hz : frzs m frzFuel args = some [v, .fn ff [] caps]) (hv : Sl KI64 xs v) (hl : xs.length ≤ 1000001)
    (hf : ∀ q ∈ xs, ∀ (p : Bool × Int) (m : Mem) (ls : List LRec) (Q : MV → Mem → List LRec → Prop), fits q = p → Q (.tup [.bool p.1, .int .i64 p.2]) m ls → Wc ip ff (.int .i64 q :: caps) m ls Q)
    (hQ : Q (three (reachF fits xs)) m ls) : Wc ip f_fill_reach args m ls Q := by
  refine wc_fn3 rfl fn_fill_reach rfl hz rfl ?_
  have key : ∀ (k i : Nat), i + k = xs.length → ∀ (p : Int) {R : Ex → As → Mem → List LRec → Prop},
      ((reachG fits p (decide (i = 0)) (xs.drop i)).2 = (true, 0) → R (.exit 0) [(4, .int .i64 (reachG fits p (decide (i = 0)) (xs.drop i)).1)] [] []) →
      (∀ a b c, reachG fits p (decide (i = 0)) (xs.drop i) = (a, b, c) → R .ret [(4, .int .i64 a), (5, .bool b), (6, .int .i64 c)] [] []) →
      Wx ip i_fill_reach.nt (.loop (lv [1, 4, 11, 12, 13] 43) fill_reach_b0) [(1, .fn ff [] caps), (4, .int .i64 p), (11, v), (12, .int .i64 xs.length), (13, .int .i64 i)] [] [] R := by
    intro k
    induction k with
    | zero =>
      intro i hk p R h0 h1
      rw [List.drop_eq_nil_of_le (by omega)] at h0
      refine wx_roundL rfl ?_
      repeat' (first
        | refine wx_exitL [4] ?_
        | refine z00 ?_ | refine z01 ?_ | refine z02 ?_ | refine z04 ?_ | refine z05 ?_ | refine z08 ?_ | refine zp ?_ | refine z0g ?_ | refine z0h ?_ | refine z0j ?_ | refine z0k ?_
        | refine z0l ?_ | refine z0n ?_ | refine z0o ?_ | refine z0p ?_ | refine z0q ?_ | refine z0r ?_ | refine z0s ?_ | refine z0v ?_ | refine z0z ?_ | refine z12 ?_ | refine z14 ?_
        | refine z15 ?_ | refine z1e ?_ | refine z1f (hk := ?_) | refine z1i ?_ | refine z1j ?_ | refine z1k ?_ | refine z1l ?_ | refine z1m ?_ | refine z1n ?_
        | refine z1o (fun hp => ?_) (fun hp => ?_) | refine z1p (fun hp => ?_) (fun hp => ?_) | refine z1q (fun hp => ?_) (fun hp => ?_) | refine z1r ?_ | refine z1s ?_ | refine z1t ?_
        | refine z1u ?_ | refine z1v ?_ | refine z1w ?_ | refine z1x ?_ | refine z1y ?_ | refine z1z ?_ | refine z20 ?_ | refine z21 ?_ | refine z22 ?_ | refine z23 ?_ | refine z24 ?_
        | refine z25 ?_ | refine z26 ?_ | refine z27 ?_ | refine z28 (fun hp => ?_) (fun hp => ?_) | refine z29 (fun hp => ?_) (fun hp => ?_) | refine z2a ?_ | refine z2b ?_)
      exact h0 rfl
    | succ k ih =>
      intro i hk p R h0 h1
      have hlt : i < xs.length := by omega
      rw [List.drop_eq_getElem_cons hlt] at h0 h1
      simp only [reachG] at h0 h1
      have hfq := hf _ (List.getElem_mem hlt)
      generalize hfe : fits xs[i] = fe at h0 h1
      obtain ⟨good, e⟩ := fe
      simp only at h0 h1
      refine wx_roundL rfl ?_
      by_cases he : e ≠ 0
      · rw [if_pos he] at h1
        repeat' (first
          | refine wo_call rfl rfl rfl (hfq _ _ _ _ hfe ?_)
          | refine wx_ifDT rfl he ?_
          | refine wx_retL [4, 5, 6] ?_
          | refine z00 ?_ | refine z01 ?_ | refine z02 ?_ | refine z04 ?_ | refine z05 ?_ | refine z08 ?_ | refine zp ?_ | refine z0g ?_ | refine z0h ?_ | refine z0j ?_ | refine z0k ?_
          | refine z0l ?_ | refine z0n ?_ | refine z0o ?_ | refine z0p ?_ | refine z0q ?_ | refine z0r ?_ | refine z0s ?_ | refine z0v ?_ | refine z0z ?_ | refine z12 ?_ | refine z14 ?_
          | refine z15 ?_ | refine z1e ?_ | refine z1f (hk := ?_) | refine z1i ?_ | refine z1j ?_ | refine z1k ?_ | refine z1l ?_ | refine z1m ?_ | refine z1n ?_
          | refine z1o (fun hp => ?_) (fun hp => ?_) | refine z1p (fun hp => ?_) (fun hp => ?_) | refine z1q (fun hp => ?_) (fun hp => ?_) | refine z1r ?_ | refine z1s ?_ | refine z1t ?_
          | refine z1u ?_ | refine z1v ?_ | refine z1w ?_ | refine z1x ?_ | refine z1y ?_ | refine z1z ?_ | refine z20 ?_ | refine z21 ?_ | refine z22 ?_ | refine z23 ?_ | refine z24 ?_
          | refine z25 ?_ | refine z26 ?_ | refine z27 ?_ | refine z28 (fun hp => ?_) (fun hp => ?_) | refine z29 (fun hp => ?_) (fun hp => ?_) | refine z2a ?_ | refine z2b ?_)
        exact h1 _ _ _ rfl
      · have he0 : e = 0 := Decidable.byContradiction he
        rw [if_neg he] at h0 h1
        cases good with
        | false =>
          rw [if_pos rfl] at h0 h1
          by_cases hi : i = 0
          · have hi' : (i : Int) = 0 := by omega
            simp only [hi, decide_true, if_true] at h1
            repeat' (first
              | refine wo_call rfl rfl rfl (hfq _ _ _ _ hfe ?_)
              | refine wx_ifDF rfl he ?_
              | refine wx_retL [4, 5, 6] ?_
              | refine z00 ?_ | refine z01 ?_ | refine z02 ?_ | refine z04 ?_ | refine z05 ?_ | refine z08 ?_ | refine zp ?_ | refine z0g ?_ | refine z0h ?_ | refine z0j ?_ | refine z0k ?_
              | refine z0l ?_ | refine z0n ?_ | refine z0o ?_ | refine z0p ?_ | refine z0q ?_ | refine z0r ?_ | refine z0s ?_ | refine z0v ?_ | refine z0z ?_ | refine z12 ?_ | refine z14 ?_
              | refine z15 ?_ | refine z1e ?_ | refine z1f (hk := ?_) | refine z1i ?_ | refine z1j ?_ | refine z1k ?_ | refine z1l ?_ | refine z1m ?_ | refine z1n ?_
              | refine z1o (fun hp => ?_) (fun hp => ?_) | refine z1p (fun hp => ?_) (fun hp => ?_) | refine z1q (fun hp => ?_) (fun hp => ?_) | refine z1r ?_ | refine z1s ?_ | refine z1t ?_
              | refine z1u ?_ | refine z1v ?_ | refine z1w ?_ | refine z1x ?_ | refine z1y ?_ | refine z1z ?_ | refine z20 ?_ | refine z21 ?_ | refine z22 ?_ | refine z23 ?_ | refine z24 ?_
              | refine z25 ?_ | refine z26 ?_ | refine z27 ?_ | refine z28 (fun hp => ?_) (fun hp => ?_) | refine z29 (fun hp => ?_) (fun hp => ?_) | refine z2a ?_ | refine z2b ?_)
            subst hi
            exact h1 _ _ _ rfl
          · have hi' : ¬ (i : Int) = 0 := by omega
            simp only [hi, decide_false, Bool.false_eq_true, if_false] at h1
            repeat' (first
              | refine wo_call rfl rfl rfl (hfq _ _ _ _ hfe ?_)
              | refine wx_ifDF rfl he ?_
              | refine wx_retL [4, 5, 6] ?_
              | refine z00 ?_ | refine z01 ?_ | refine z02 ?_ | refine z04 ?_ | refine z05 ?_ | refine z08 ?_ | refine zp ?_ | refine z0g ?_ | refine z0h ?_ | refine z0j ?_ | refine z0k ?_
              | refine z0l ?_ | refine z0n ?_ | refine z0o ?_ | refine z0p ?_ | refine z0q ?_ | refine z0r ?_ | refine z0s ?_ | refine z0v ?_ | refine z0z ?_ | refine z12 ?_ | refine z14 ?_
              | refine z15 ?_ | refine z1e ?_ | refine z1f (hk := ?_) | refine z1i ?_ | refine z1j ?_ | refine z1k ?_ | refine z1l ?_ | refine z1m ?_ | refine z1n ?_
              | refine z1o (fun hp => ?_) (fun hp => ?_) | refine z1p (fun hp => ?_) (fun hp => ?_) | refine z1q (fun hp => ?_) (fun hp => ?_) | refine z1r ?_ | refine z1s ?_ | refine z1t ?_
              | refine z1u ?_ | refine z1v ?_ | refine z1w ?_ | refine z1x ?_ | refine z1y ?_ | refine z1z ?_ | refine z20 ?_ | refine z21 ?_ | refine z22 ?_ | refine z23 ?_ | refine z24 ?_
              | refine z25 ?_ | refine z26 ?_ | refine z27 ?_ | refine z28 (fun hp => ?_) (fun hp => ?_) | refine z29 (fun hp => ?_) (fun hp => ?_) | refine z2a ?_ | refine z2b ?_)
            exact h1 _ _ _ rfl
        | true =>
          rw [if_neg (by simp)] at h0 h1
          have e1 : decide (i + 1 = 0) = false := by simp
          repeat' (first
            | refine wo_call rfl rfl rfl (hfq _ _ _ _ hfe ?_)
            | refine wx_ifDF rfl he ?_
            | refine z00 ?_ | refine z01 ?_ | refine z02 ?_ | refine z04 ?_ | refine z05 ?_ | refine z08 ?_ | refine zp ?_ | refine z0g ?_ | refine z0h ?_ | refine z0j ?_ | refine z0k ?_
            | refine z0l ?_ | refine z0n ?_ | refine z0o ?_ | refine z0p ?_ | refine z0q ?_ | refine z0r ?_ | refine z0s ?_ | refine z0v ?_ | refine z0z ?_ | refine z12 ?_ | refine z14 ?_
            | refine z15 ?_ | refine z1e ?_ | refine z1f (hk := ?_) | refine z1i ?_ | refine z1j ?_ | refine z1k ?_ | refine z1l ?_ | refine z1m ?_ | refine z1n ?_
            | refine z1o (fun hp => ?_) (fun hp => ?_) | refine z1p (fun hp => ?_) (fun hp => ?_) | refine z1q (fun hp => ?_) (fun hp => ?_) | refine z1r ?_ | refine z1s ?_ | refine z1t ?_
            | refine z1u ?_ | refine z1v ?_ | refine z1w ?_ | refine z1x ?_ | refine z1y ?_ | refine z1z ?_ | refine z20 ?_ | refine z21 ?_ | refine z22 ?_ | refine z23 ?_ | refine z24 ?_
            | refine z25 ?_ | refine z26 ?_ | refine z27 ?_ | refine z28 (fun hp => ?_) (fun hp => ?_) | refine z29 (fun hp => ?_) (fun hp => ?_) | refine z2a ?_ | refine z2b ?_)
          refine wx_loopL ?_
          refine ih (i + 1) (by omega) _ ?_ ?_
          · rw [e1]; exact h0
          · rw [e1]; exact h1
  repeat' (first
    | refine z00 ?_ | refine z01 ?_ | refine z02 ?_ | refine z04 ?_ | refine z05 ?_ | refine z08 ?_ | refine zp ?_ | refine z0g ?_ | refine z0h ?_ | refine z0j ?_ | refine z0k ?_
    | refine z0l ?_ | refine z0n ?_ | refine z0o ?_ | refine z0p ?_ | refine z0q ?_ | refine z0r ?_ | refine z0s ?_ | refine z0v ?_ | refine z0z ?_ | refine z12 ?_ | refine z14 ?_
    | refine z15 ?_ | refine z1e ?_ | refine z1f (hk := ?_) | refine z1i ?_ | refine z1j ?_ | refine z1k ?_ | refine z1l ?_ | refine z1m ?_ | refine z1n ?_
    | refine z1o (fun hp => ?_) (fun hp => ?_) | refine z1p (fun hp => ?_) (fun hp => ?_) | refine z1q (fun hp => ?_) (fun hp => ?_) | refine z1r ?_ | refine z1s ?_ | refine z1t ?_
    | refine z1u ?_ | refine z1v ?_ | refine z1w ?_ | refine z1x ?_ | refine z1y ?_ | refine z1z ?_ | refine z20 ?_ | refine z21 ?_ | refine z22 ?_ | refine z23 ?_ | refine z24 ?_
    | refine z25 ?_ | refine z26 ?_ | refine z27 ?_ | refine z28 (fun hp => ?_) (fun hp => ?_) | refine z29 (fun hp => ?_) (fun hp => ?_) | refine z2a ?_ | refine z2b ?_)
  refine wx_loopL ?_
  refine key xs.length 0 (by omega) 0 ?_ ?_
  · intro h
    repeat' (first
      | refine z00 ?_ | refine z01 ?_ | refine z02 ?_ | refine z04 ?_ | refine z05 ?_ | refine z08 ?_ | refine zp ?_ | refine z0g ?_ | refine z0h ?_ | refine z0j ?_ | refine z0k ?_
      | refine z0l ?_ | refine z0n ?_ | refine z0o ?_ | refine z0p ?_ | refine z0q ?_ | refine z0r ?_ | refine z0s ?_ | refine z0v ?_ | refine z0z ?_ | refine z12 ?_ | refine z14 ?_
      | refine z15 ?_ | refine z1e ?_ | refine z1f (hk := ?_) | refine z1i ?_ | refine z1j ?_ | refine z1k ?_ | refine z1l ?_ | refine z1m ?_ | refine z1n ?_
      | refine z1o (fun hp => ?_) (fun hp => ?_) | refine z1p (fun hp => ?_) (fun hp => ?_) | refine z1q (fun hp => ?_) (fun hp => ?_) | refine z1r ?_ | refine z1s ?_ | refine z1t ?_
      | refine z1u ?_ | refine z1v ?_ | refine z1w ?_ | refine z1x ?_ | refine z1y ?_ | refine z1z ?_ | refine z20 ?_ | refine z21 ?_ | refine z22 ?_ | refine z23 ?_ | refine z24 ?_
      | refine z25 ?_ | refine z26 ?_ | refine z27 ?_ | refine z28 (fun hp => ?_) (fun hp => ?_) | refine z29 (fun hp => ?_) (fun hp => ?_) | refine z2a ?_ | refine z2b ?_)
    refine fin_cln rfl ?_
    have e : reachF fits xs = ((reachG fits 0 (decide (0 = 0)) (xs.drop 0)).1, true, 0) := by
      rw [← h]; rfl
    rw [e] at hQ
    exact hQ
  · intro a b c h
    repeat' (first | refine then_r ?_ | refine block_r ?_)
    refine end_r rfl ?_
    refine fin_cln rfl ?_
    have e : reachF fits xs = (a, b, c) := h
    rw [e] at hQ
    exact hQ

theorem c_reachE {xs : List Int} {v : MV} {ff : Nat} {caps : List MV} {fits : Int → Bool × Int} {args : List MV} {a c : Int} {b : Bool} (he : reachF fits xs = (a, b, c)) (hz : frzs m frzFuel args = some [v, .fn ff [] caps]) (hv : Sl KI64 xs v) (hl : xs.length ≤ 1000001)
    (hf : ∀ q ∈ xs, ∀ (p : Bool × Int) (m : Mem) (ls : List LRec) (Q : MV → Mem → List LRec → Prop), fits q = p → Q (.tup [.bool p.1, .int .i64 p.2]) m ls → Wc ip ff (.int .i64 q :: caps) m ls Q)
    (hQ : Q (.tup [.int .i64 a, .bool b, .int .i64 c]) m ls) : Wc ip f_fill_reach args m ls Q := c_reach hz hv hl hf (by rw [he]; exact hQ)

theorem res_ct {A : As} {r t b g : Nat} {n : Option Nat} {k : Blk} {w u : MV} (h1 : Go.Mini.look A r = some (.ptr b g 0)) (hb : m[b]? = some k) (hg : k.gen = g) (hw : loadFrom k.cells 0 n = some w) (h2 : Go.Mini.look A t = some u) : resA A m [.cell r n, .tmp t] = some [w, u] := by
  simp [resA, h1, h2, loadV, blk?, hb, hg, hw]

def lineBlk : Blk := ⟨[.int .i64 0, .int .i64 0, .bool false], 0, true⟩

/-! ### One line -/

def fitsF (l : List Cell) (i : Nat) (r : Room) (q : Int) : Bool × Int := (decide ((fitL (cut l i q.toNat) r.start).1 ≤ r.width), (fitL (cut l i q.toNat) r.start).2)

theorem c_One1 {l : List Cell} {v : MV} {i : Nat} {r : Room} {q : Int} {p : Bool × Int} (hp : fitsF l i r q = p) (hv : Sl KCell l v) (hl : l.length ≤ 1000000) (hc : ∀ c ∈ l, c.ok) (hs : I64 r.start) (hq : (i : Int) ≤ q ∧ q ≤ l.length) (hQ : Q (.tup [.bool p.1, .int .i64 p.2]) m ls) :
    Wc ip f_fill_One_1 [.int .i64 q, .pimm [v] 0, .pimm [.int .i64 i] 0, .pimm r.mv 0] m ls Q := by
  subst hp
  refine wc_fn3d rfl fn_fill_One_1 rfl (by simp [deepVs, deepV]) rfl ?_
  repeat' (first
    | refine z00 ?_ | refine z01 ?_ | refine z02 ?_ | refine z04 ?_ | refine z05 ?_ | refine z08 ?_ | refine zp ?_ | refine z0g ?_ | refine z0h ?_ | refine z0j ?_ | refine z0k ?_
    | refine z0l ?_ | refine z0n ?_ | refine z0o ?_ | refine z0p ?_ | refine z0q ?_ | refine z0r ?_ | refine z0s ?_ | refine z0v ?_ | refine z0z ?_ | refine z12 ?_ | refine z14 ?_
    | refine z15 ?_ | refine z1e ?_ | refine z1f (hk := ?_) | refine z1i ?_ | refine z1j ?_ | refine z1k ?_ | refine z1l ?_ | refine z1m ?_ | refine z1n ?_
    | refine z1o (fun hp => ?_) (fun hp => ?_) | refine z1p (fun hp => ?_) (fun hp => ?_) | refine z1q (fun hp => ?_) (fun hp => ?_) | refine z1r ?_ | refine z1s ?_ | refine z1t ?_
    | refine z1u ?_ | refine z1v ?_ | refine z1w ?_ | refine z1x ?_ | refine z1y ?_ | refine z1z ?_ | refine z20 ?_ | refine z21 ?_ | refine z22 ?_ | refine z23 ?_ | refine z24 ?_
    | refine z25 ?_ | refine z26 ?_ | refine z27 ?_ | refine z28 (fun hp => ?_) (fun hp => ?_) | refine z29 (fun hp => ?_) (fun hp => ?_) | refine z2a ?_ | refine z2b ?_)
  refine wo_sliceS rfl hv rfl rfl (by omega) rfl rfl fun v' hv' => ?_
  have hv'' : Sl KCell (cut l i q.toNat) v' := hv'
  have hcl := cut_len (l := l) (i := i) (j := q.toNat) (by omega) (by omega)
  repeat' (first
    | refine wo_call rfl rfl rfl (c_Fits hv'' (by omega) (cut_ok hc) hs ?_)
    | refine z00 ?_ | refine z01 ?_ | refine z02 ?_ | refine z04 ?_ | refine z05 ?_ | refine z08 ?_ | refine zp ?_ | refine z0g ?_ | refine z0h ?_ | refine z0j ?_ | refine z0k ?_
    | refine z0l ?_ | refine z0n ?_ | refine z0o ?_ | refine z0p ?_ | refine z0q ?_ | refine z0r ?_ | refine z0s ?_ | refine z0v ?_ | refine z0z ?_ | refine z12 ?_ | refine z14 ?_
    | refine z15 ?_ | refine z1e ?_ | refine z1f (hk := ?_) | refine z1i ?_ | refine z1j ?_ | refine z1k ?_ | refine z1l ?_ | refine z1m ?_ | refine z1n ?_
    | refine z1o (fun hp => ?_) (fun hp => ?_) | refine z1p (fun hp => ?_) (fun hp => ?_) | refine z1q (fun hp => ?_) (fun hp => ?_) | refine z1r ?_ | refine z1s ?_ | refine z1t ?_
    | refine z1u ?_ | refine z1v ?_ | refine z1w ?_ | refine z1x ?_ | refine z1y ?_ | refine z1z ?_ | refine z20 ?_ | refine z21 ?_ | refine z22 ?_ | refine z23 ?_ | refine z24 ?_
    | refine z25 ?_ | refine z26 ?_ | refine z27 ?_ | refine z28 (fun hp => ?_) (fun hp => ?_) | refine z29 (fun hp => ?_) (fun hp => ?_) | refine z2a ?_ | refine z2b ?_)
  exact fin_cln rfl hQ

def badLine : Line := ⟨0, 0, false⟩
def nearF (l : List Int) (to : Int) : List Int := l.filter fun p => decide (p < to)
def onePick (l : List Cell) (i : Nat) (r : Room) : Int × Int :=
  if (reachF (fitsF l i r) (softs l i)).2.2 = 0 ∧ (reachF (fitsF l i r) (softs l i)).2.1 = false ∧ nearF (emergs l i) (reachF (fitsF l i r) (softs l i)).1 ≠ [] then
    ((reachF (fitsF l i r) (nearF (emergs l i) (reachF (fitsF l i r) (softs l i)).1)).1, (reachF (fitsF l i r) (nearF (emergs l i) (reachF (fitsF l i r) (softs l i)).1)).2.2)
  else ((reachF (fitsF l i r) (softs l i)).1, (reachF (fitsF l i r) (softs l i)).2.2)
/-- The line from a place on. -/
def oneF (l : List Cell) (i : Nat) (r : Room) : Line × Int :=
  if l.any badTab = true ∨ r.width < 0 then (badLine, 2)
  else if (onePick l i r).2 ≠ 0 then (badLine, (onePick l i r).2)
  else (⟨i, (onePick l i r).1, (lastF l i).2 && decide ((onePick l i r).1 = (lastF l i).1)⟩, 0)

def lineE (p : Line × Int) : MV := .tup [.agg p.1.mv, .int .i64 p.2]

theorem softs_mem {l : List Cell} {i : Nat} (hi : i ≤ l.length) {q : Int} (h : q ∈ softs l i) : (i : Int) ≤ q ∧ q ≤ l.length ∧ (i < l.length → (i : Int) < q) := by
  have := lastF_le hi
  unfold softs at h
  rcases List.mem_append.1 h with h | h
  · obtain ⟨n, h1, h2, h3⟩ := endsF_mem h
    omega
  · simp at h; omega
theorem emergs_mem {l : List Cell} {i : Nat} (hi : i ≤ l.length) {q : Int} (h : q ∈ emergs l i) : (i : Int) < q ∧ q ≤ l.length := by
  have := lastF_le hi
  obtain ⟨n, h1, h2, h3⟩ := endsF_mem h
  omega

theorem c_One {l : List Cell} {v : MV} {i : Nat} {r : Room} {args : List MV} (hz : frzs m frzFuel args = some [v, .int .i64 i, .agg r.mv]) (hv : Sl KCell l v) (hl : l.length ≤ 1000000) (hc : ∀ c ∈ l, c.ok) (hs : I64 r.start) (hi : i ≤ l.length) (hQ : Q (lineE (oneF l i r)) m ls) :
    Wc ip f_fill_One args m ls Q := by
  have h1 := hv.cells
  have h3 : deepVs [v] = true := by simp [deepVs, hv.deep]
  refine wc_fn3 rfl fn_fill_One rfl hz rfl ?_
  cases hb : l.any badTab with
  | true =>
    have e : oneF l i r = (badLine, 2) := by unfold oneF; rw [if_pos (.inl hb)]
    rw [e] at hQ
    repeat' (first
      | refine wo_call rfl rfl rfl (c_Ends hv hl hi (fun _ => ?_) (fun h => absurd h (by rw [hb]; simp)))
      | refine z00 ?_ | refine z01 ?_ | refine z02 ?_ | refine z04 ?_ | refine z05 ?_ | refine z08 ?_ | refine zp ?_ | refine z0g ?_ | refine z0h ?_ | refine z0j ?_ | refine z0k ?_
      | refine z0l ?_ | refine z0n ?_ | refine z0o ?_ | refine z0p ?_ | refine z0q ?_ | refine z0r ?_ | refine z0s ?_ | refine z0v ?_ | refine z0z ?_ | refine z12 ?_ | refine z14 ?_
      | refine z15 ?_ | refine z1e ?_ | refine z1f (hk := ?_) | refine z1i ?_ | refine z1j ?_ | refine z1k ?_ | refine z1l ?_ | refine z1m ?_ | refine z1n ?_
      | refine z1o (fun hp => ?_) (fun hp => ?_) | refine z1p (fun hp => ?_) (fun hp => ?_) | refine z1q (fun hp => ?_) (fun hp => ?_) | refine z1r ?_ | refine z1s ?_ | refine z1t ?_
      | refine z1u ?_ | refine z1v ?_ | refine z1w ?_ | refine z1x ?_ | refine z1y ?_ | refine z1z ?_ | refine z20 ?_ | refine z21 ?_ | refine z22 ?_ | refine z23 ?_ | refine z24 ?_
      | refine z25 ?_ | refine z26 ?_ | refine z27 ?_ | refine z28 (fun hp => ?_) (fun hp => ?_) | refine z29 (fun hp => ?_) (fun hp => ?_) | refine z2a ?_ | refine z2b ?_)
    exact fin_cln rfl hQ
  | false =>
    by_cases hw : r.width < 0
    · have e : oneF l i r = (badLine, 2) := by unfold oneF; rw [if_pos (.inr hw)]
      rw [e] at hQ
      repeat' (first
        | refine wo_call rfl rfl rfl (c_Ends hv hl hi (fun h => absurd h (by rw [hb]; simp)) (fun _ a b ha hb2 => ?_))
        | refine z00 ?_ | refine z01 ?_ | refine z02 ?_ | refine z04 ?_ | refine z05 ?_ | refine z08 ?_ | refine zp ?_ | refine z0g ?_ | refine z0h ?_ | refine z0j ?_ | refine z0k ?_
        | refine z0l ?_ | refine z0n ?_ | refine z0o ?_ | refine z0p ?_ | refine z0q ?_ | refine z0r ?_ | refine z0s ?_ | refine z0v ?_ | refine z0z ?_ | refine z12 ?_ | refine z14 ?_
        | refine z15 ?_ | refine z1e ?_ | refine z1f (hk := ?_) | refine z1i ?_ | refine z1j ?_ | refine z1k ?_ | refine z1l ?_ | refine z1m ?_ | refine z1n ?_
        | refine z1o (fun hp => ?_) (fun hp => ?_) | refine z1p (fun hp => ?_) (fun hp => ?_) | refine z1q (fun hp => ?_) (fun hp => ?_) | refine z1r ?_ | refine z1s ?_ | refine z1t ?_
        | refine z1u ?_ | refine z1v ?_ | refine z1w ?_ | refine z1x ?_ | refine z1y ?_ | refine z1z ?_ | refine z20 ?_ | refine z21 ?_ | refine z22 ?_ | refine z23 ?_ | refine z24 ?_
        | refine z25 ?_ | refine z26 ?_ | refine z27 ?_ | refine z28 (fun hp => ?_) (fun hp => ?_) | refine z29 (fun hp => ?_) (fun hp => ?_) | refine z2a ?_ | refine z2b ?_)
      exact fin_cln rfl hQ
    · have hfit : ∀ xs : List Int, (∀ q ∈ xs, (i : Int) ≤ q ∧ q ≤ l.length) → ∀ q ∈ xs, ∀ (p : Bool × Int) (m : Mem) (ls : List LRec) (Q : MV → Mem → List LRec → Prop), fitsF l i r q = p → Q (.tup [.bool p.1, .int .i64 p.2]) m ls →
          Wc ip f_fill_One_1 (.int .i64 q :: [.pimm [v] 0, .pimm [.int .i64 i] 0, .pimm r.mv 0]) m ls Q := fun xs hx q hq p m ls Q hp hQ => c_One1 hp hv hl hc hs (hx q hq) hQ
      have hm1 : ∀ q ∈ softs l i, (i : Int) ≤ q ∧ q ≤ l.length := fun q hq => ⟨(softs_mem hi hq).1, (softs_mem hi hq).2.1⟩
      have hle := lastF_le hi
      have hln1 : (softs l i).length ≤ 1000001 := by
        have := endsF_len (l := l) (is := (·.soft)) (i := i) (to := (lastF l i).1)
        unfold softs; rw [List.length_append]; simp; omega
      have hln2 : (emergs l i).length ≤ 1000000 := by
        have := endsF_len (l := l) (is := (·.emerg)) (i := i) (to := (lastF l i).1)
        unfold emergs; omega
      have hone : oneF l i r = if (onePick l i r).2 ≠ 0 then (badLine, (onePick l i r).2) else (⟨i, (onePick l i r).1, (lastF l i).2 && decide ((onePick l i r).1 = (lastF l i).1)⟩, 0) := by
        unfold oneF; rw [if_neg (by rw [hb]; simp [hw])]
      rw [hone] at hQ
      clear hone
      generalize hr1 : reachF (fitsF l i r) (softs l i) = r1
      obtain ⟨t1, is, e⟩ := r1
      have hpick : onePick l i r = if e = 0 ∧ is = false ∧ nearF (emergs l i) t1 ≠ [] then ((reachF (fitsF l i r) (nearF (emergs l i) t1)).1, (reachF (fitsF l i r) (nearF (emergs l i) t1)).2.2) else (t1, e) := by
        unfold onePick; rw [hr1]
      rw [hpick] at hQ
      clear hpick
      repeat' (first
        | refine wo_call rfl rfl rfl (c_Ends hv hl hi (fun h => absurd h (by rw [hb]; simp)) (fun _ a b ha hb2 => ?_))
        | refine wo_call rfl rfl rfl (c_reachE hr1 (frzs_fuel (by simp [deepVs, deepV, Sl.deep ha, h3])) ha hln1 (hfit _ hm1) ?_)
        | refine z00 ?_ | refine z01 ?_ | refine z02 ?_ | refine z04 ?_ | refine z05 ?_ | refine z08 ?_ | refine zp ?_ | refine z0g ?_ | refine z0h ?_ | refine z0j ?_ | refine z0k ?_
        | refine z0l ?_ | refine z0n ?_ | refine z0o ?_ | refine z0p ?_ | refine z0q ?_ | refine z0r ?_ | refine z0s ?_ | refine z0v ?_ | refine z0z ?_ | refine z12 ?_ | refine z14 ?_
        | refine z15 ?_ | refine z1e ?_ | refine z1f (hk := ?_) | refine z1i ?_ | refine z1j ?_ | refine z1k ?_ | refine z1l ?_ | refine z1m ?_ | refine z1n ?_
        | refine z1o (fun hp => ?_) (fun hp => ?_) | refine z1p (fun hp => ?_) (fun hp => ?_) | refine z1q (fun hp => ?_) (fun hp => ?_) | refine z1r ?_ | refine z1s ?_ | refine z1t ?_
        | refine z1u ?_ | refine z1v ?_ | refine z1w ?_ | refine z1x ?_ | refine z1y ?_ | refine z1z ?_ | refine z20 ?_ | refine z21 ?_ | refine z22 ?_ | refine z23 ?_ | refine z24 ?_
        | refine z25 ?_ | refine z26 ?_ | refine z27 ?_ | refine z28 (fun hp => ?_) (fun hp => ?_) | refine z29 (fun hp => ?_) (fun hp => ?_) | refine z2a ?_ | refine z2b ?_)
      have key : ∀ (k j : Nat), j + k = (emergs l i).length → ∀ (m : Mem) (u : MV), m[0]? = some lineBlk → Hold KI64 1 (nearF ((emergs l i).take j) t1) m u → ∀ {R : Ex → As → Mem → List LRec → Prop},
          (∀ m' u', m'[0]? = some lineBlk → Hold KI64 1 (nearF (emergs l i) t1) m' u' → R (.exit 0) [(3, .pimm [v] 0), (4, .pimm [.int .i64 i] 0), (6, .ptr 0 0 0), (10, .int .i64 e), (11, .fn f_fill_One_1 [] [.pimm [v] 0, .pimm [.int .i64 i] 0, .pimm r.mv 0]), (12, .int .i64 t1), (13, .bool is), (14, u')] m' []) →
          Wx ip i_fill_One.nt (.loop (lv [3, 4, 6, 10, 11, 12, 13, 14, 42, 43, 44] 93) fill_One_b0) [(3, .pimm [v] 0), (4, .pimm [.int .i64 i] 0), (6, .ptr 0 0 0), (10, .int .i64 e), (11, .fn f_fill_One_1 [] [.pimm [v] 0, .pimm [.int .i64 i] 0, .pimm r.mv 0]), (12, .int .i64 t1), (13, .bool is), (14, u), (42, b), (43, .int .i64 (emergs l i).length), (44, .int .i64 j)] m [] R := by
        intro k
        induction k with
        | zero =>
          intro j hk m u h0 hu R hR
          rw [List.take_of_length_le (by omega)] at hu
          refine wx_roundL rfl ?_
          repeat' (first
            | refine wx_exitL [3, 4, 6, 10, 11, 12, 13, 14] ?_
            | refine z00 ?_ | refine z01 ?_ | refine z02 ?_ | refine z04 ?_ | refine z05 ?_ | refine z08 ?_ | refine zp ?_ | refine z0g ?_ | refine z0h ?_ | refine z0j ?_ | refine z0k ?_
            | refine z0l ?_ | refine z0n ?_ | refine z0o ?_ | refine z0p ?_ | refine z0q ?_ | refine z0r ?_ | refine z0s ?_ | refine z0v ?_ | refine z0z ?_ | refine z12 ?_ | refine z14 ?_
            | refine z15 ?_ | refine z1e ?_ | refine z1f (hk := ?_) | refine z1i ?_ | refine z1j ?_ | refine z1k ?_ | refine z1l ?_ | refine z1m ?_ | refine z1n ?_
            | refine z1o (fun hp => ?_) (fun hp => ?_) | refine z1p (fun hp => ?_) (fun hp => ?_) | refine z1q (fun hp => ?_) (fun hp => ?_) | refine z1r ?_ | refine z1s ?_ | refine z1t ?_
            | refine z1u ?_ | refine z1v ?_ | refine z1w ?_ | refine z1x ?_ | refine z1y ?_ | refine z1z ?_ | refine z20 ?_ | refine z21 ?_ | refine z22 ?_ | refine z23 ?_ | refine z24 ?_
            | refine z25 ?_ | refine z26 ?_ | refine z27 ?_ | refine z28 (fun hp => ?_) (fun hp => ?_) | refine z29 (fun hp => ?_) (fun hp => ?_) | refine z2a ?_ | refine z2b ?_)
          exact hR _ _ h0 hu
        | succ k ih =>
          intro j hk m u h0 hu R hR
          have hlt : j < (emergs l i).length := by omega
          have htk : nearF ((emergs l i).take (j + 1)) t1 = nearF ((emergs l i).take j) t1 ++ (if (emergs l i)[j] < t1 then [(emergs l i)[j]] else []) := by
            unfold nearF
            rw [List.take_succ_eq_append_getElem hlt, List.filter_append]
            by_cases hq : (emergs l i)[j] < t1 <;> simp [hq]
          have hmm := get_lt h0
          refine wx_roundL rfl ?_
          by_cases hq : (emergs l i)[j] < t1
          · rw [if_pos hq] at htk
            have hnl : (nearF ((emergs l i).take j) t1).length ≤ j := by
              unfold nearF
              exact Nat.le_trans (List.length_filter_le _ _) (by simp; omega)
            obtain ⟨v2, m2, a1, a2, a3, a4⟩ := hu.add1 (bytes := 8) (sz := 1) (y := (emergs l i)[j]) (cs := [.int .i64 (emergs l i)[j]]) (kc := some 1) (by omega) (by omega) rfl rfl
            repeat' (first
              | refine wx_ifDT rfl hq ?_
              | refine wo_app rfl rfl a1 rfl ?_
              | refine z00 ?_ | refine z01 ?_ | refine z02 ?_ | refine z04 ?_ | refine z05 ?_ | refine z08 ?_ | refine zp ?_ | refine z0g ?_ | refine z0h ?_ | refine z0j ?_ | refine z0k ?_
              | refine z0l ?_ | refine z0n ?_ | refine z0o ?_ | refine z0p ?_ | refine z0q ?_ | refine z0r ?_ | refine z0s ?_ | refine z0v ?_ | refine z0z ?_ | refine z12 ?_ | refine z14 ?_
              | refine z15 ?_ | refine z1e ?_ | refine z1f (hk := ?_) | refine z1i ?_ | refine z1j ?_ | refine z1k ?_ | refine z1l ?_ | refine z1m ?_ | refine z1n ?_
              | refine z1o (fun hp => ?_) (fun hp => ?_) | refine z1p (fun hp => ?_) (fun hp => ?_) | refine z1q (fun hp => ?_) (fun hp => ?_) | refine z1r ?_ | refine z1s ?_ | refine z1t ?_
              | refine z1u ?_ | refine z1v ?_ | refine z1w ?_ | refine z1x ?_ | refine z1y ?_ | refine z1z ?_ | refine z20 ?_ | refine z21 ?_ | refine z22 ?_ | refine z23 ?_ | refine z24 ?_
              | refine z25 ?_ | refine z26 ?_ | refine z27 ?_ | refine z28 (fun hp => ?_) (fun hp => ?_) | refine z29 (fun hp => ?_) (fun hp => ?_) | refine z2a ?_ | refine z2b ?_)
            refine wx_loopL ?_
            refine ih (j + 1) (by omega) m2 v2 (by rw [a3 0 (by omega)]; exact h0) ?_ hR
            rw [htk]; exact a2
          · rw [if_neg hq, List.append_nil] at htk
            repeat' (first
              | refine wx_ifDF rfl hq ?_
              | refine z00 ?_ | refine z01 ?_ | refine z02 ?_ | refine z04 ?_ | refine z05 ?_ | refine z08 ?_ | refine zp ?_ | refine z0g ?_ | refine z0h ?_ | refine z0j ?_ | refine z0k ?_
              | refine z0l ?_ | refine z0n ?_ | refine z0o ?_ | refine z0p ?_ | refine z0q ?_ | refine z0r ?_ | refine z0s ?_ | refine z0v ?_ | refine z0z ?_ | refine z12 ?_ | refine z14 ?_
              | refine z15 ?_ | refine z1e ?_ | refine z1f (hk := ?_) | refine z1i ?_ | refine z1j ?_ | refine z1k ?_ | refine z1l ?_ | refine z1m ?_ | refine z1n ?_
              | refine z1o (fun hp => ?_) (fun hp => ?_) | refine z1p (fun hp => ?_) (fun hp => ?_) | refine z1q (fun hp => ?_) (fun hp => ?_) | refine z1r ?_ | refine z1s ?_ | refine z1t ?_
              | refine z1u ?_ | refine z1v ?_ | refine z1w ?_ | refine z1x ?_ | refine z1y ?_ | refine z1z ?_ | refine z20 ?_ | refine z21 ?_ | refine z22 ?_ | refine z23 ?_ | refine z24 ?_
              | refine z25 ?_ | refine z26 ?_ | refine z27 ?_ | refine z28 (fun hp => ?_) (fun hp => ?_) | refine z29 (fun hp => ?_) (fun hp => ?_) | refine z2a ?_ | refine z2b ?_)
            refine wx_loopL ?_
            refine ih (j + 1) (by omega) m u h0 ?_ hR
            rw [htk]; exact hu
      refine wx_loopL ?_
      refine key (emergs l i).length 0 (by omega) _ _ rfl .nil ?_
      clear key
      intro m' u' h0 hu
      have hmm := get_lt h0
      have hul := hu.len
      have fin : ∀ (to : Int) {R : Ex → As → Mem → List LRec → Prop}, True := fun _ => trivial
      by_cases hcase : e = 0 ∧ is = false ∧ nearF (emergs l i) t1 ≠ []
      · rw [if_pos hcase] at hQ
        obtain ⟨rfl, rfl, hne⟩ := hcase
        have hnl : 0 < (nearF (emergs l i) t1).length := List.length_pos_iff.2 hne
        have hnl2 : (nearF (emergs l i) t1).length ≤ 1000001 := by
          have := List.length_filter_le (fun p => decide (p < t1)) (emergs l i)
          unfold nearF; omega
        have hm2 : ∀ q ∈ nearF (emergs l i) t1, (i : Int) ≤ q ∧ q ≤ l.length := fun q hq => by
          have := emergs_mem hi (List.mem_filter.1 hq).1
          omega
        generalize hr2 : reachF (fitsF l i r) (nearF (emergs l i) t1) = r2 at hQ
        obtain ⟨t2, is2, e2⟩ := r2
        obtain ⟨w', hw1, hw2⟩ := hu.own.tz
        have hz2 : frzs m' frzFuel [u', .fn f_fill_One_1 [] [.pimm [v] 0, .pimm [.int .i64 i] 0, .pimm r.mv 0]] = some [w', .fn f_fill_One_1 [] [.pimm [v] 0, .pimm [.int .i64 i] 0, .pimm r.mv 0]] :=
          Tzs.fin (.cons (hw1.le (j := 3) (by omega)) (.cons ((Tz.deep (by simp [deepV, deepVs])).le (j := 2) (by omega)) (Tzs.nil.le (by omega)))) (by omega)
        by_cases he2 : e2 ≠ 0
        · rw [if_pos he2] at hQ
          repeat' (first
            | refine wo_len rfl hul rfl ?_
            | refine wo_call rfl rfl rfl (c_reachE hr2 hz2 hw2 hnl2 (hfit _ hm2) ?_)
            | refine wx_ifDT rfl he2 ?_
            | refine z00 ?_ | refine z01 ?_ | refine z02 ?_ | refine z04 ?_ | refine z05 ?_ | refine z08 ?_ | refine zp ?_ | refine z0g ?_ | refine z0h ?_ | refine z0j ?_ | refine z0k ?_
            | refine z0l ?_ | refine z0n ?_ | refine z0o ?_ | refine z0p ?_ | refine z0q ?_ | refine z0r ?_ | refine z0s ?_ | refine z0v ?_ | refine z0z ?_ | refine z12 ?_ | refine z14 ?_
            | refine z15 ?_ | refine z1e ?_ | refine z1f (hk := ?_) | refine z1i ?_ | refine z1j ?_ | refine z1k ?_ | refine z1l ?_ | refine z1m ?_ | refine z1n ?_
            | refine z1o (fun hp => ?_) (fun hp => ?_) | refine z1p (fun hp => ?_) (fun hp => ?_) | refine z1q (fun hp => ?_) (fun hp => ?_) | refine z1r ?_ | refine z1s ?_ | refine z1t ?_
            | refine z1u ?_ | refine z1v ?_ | refine z1w ?_ | refine z1x ?_ | refine z1y ?_ | refine z1z ?_ | refine z20 ?_ | refine z21 ?_ | refine z22 ?_ | refine z23 ?_ | refine z24 ?_
            | refine z25 ?_ | refine z26 ?_ | refine z27 ?_ | refine z28 (fun hp => ?_) (fun hp => ?_) | refine z29 (fun hp => ?_) (fun hp => ?_) | refine z2a ?_ | refine z2b ?_)
          refine end_r (res_ct rfl (get_set_self h0 _) rfl rfl rfl) ?_
          exact fin_cln rfl hQ
        · rw [if_neg he2] at hQ
          repeat' (first
            | refine wo_len rfl hul rfl ?_
            | refine wo_call rfl rfl rfl (c_reachE hr2 hz2 hw2 hnl2 (hfit _ hm2) ?_)
            | refine wx_ifDF rfl he2 ?_
            | refine wo_call rfl rfl rfl (c_last hv hl hi ?_)
            | refine z00 ?_ | refine z01 ?_ | refine z02 ?_ | refine z04 ?_ | refine z05 ?_ | refine z08 ?_ | refine zp ?_ | refine z0g ?_ | refine z0h ?_ | refine z0j ?_ | refine z0k ?_
            | refine z0l ?_ | refine z0n ?_ | refine z0o ?_ | refine z0p ?_ | refine z0q ?_ | refine z0r ?_ | refine z0s ?_ | refine z0v ?_ | refine z0z ?_ | refine z12 ?_ | refine z14 ?_
            | refine z15 ?_ | refine z1e ?_ | refine z1f (hk := ?_) | refine z1i ?_ | refine z1j ?_ | refine z1k ?_ | refine z1l ?_ | refine z1m ?_ | refine z1n ?_
            | refine z1o (fun hp => ?_) (fun hp => ?_) | refine z1p (fun hp => ?_) (fun hp => ?_) | refine z1q (fun hp => ?_) (fun hp => ?_) | refine z1r ?_ | refine z1s ?_ | refine z1t ?_
            | refine z1u ?_ | refine z1v ?_ | refine z1w ?_ | refine z1x ?_ | refine z1y ?_ | refine z1z ?_ | refine z20 ?_ | refine z21 ?_ | refine z22 ?_ | refine z23 ?_ | refine z24 ?_
            | refine z25 ?_ | refine z26 ?_ | refine z27 ?_ | refine z28 (fun hp => ?_) (fun hp => ?_) | refine z29 (fun hp => ?_) (fun hp => ?_) | refine z2a ?_ | refine z2b ?_)
          all_goals
            refine end_r (res_ct rfl (get_set_self h0 _) rfl rfl rfl) ?_
            refine fin_cln rfl ?_
            simp [lineE, Line.mv, hp] at hQ
            exact hQ
      · rw [if_neg hcase] at hQ
        by_cases he2 : e ≠ 0
        · rw [if_pos he2] at hQ
          repeat' (first
            | refine wo_len rfl hul rfl ?_
            | refine wx_ifDT rfl he2 ?_
            | refine z00 ?_ | refine z01 ?_ | refine z02 ?_ | refine z04 ?_ | refine z05 ?_ | refine z08 ?_ | refine zp ?_ | refine z0g ?_ | refine z0h ?_ | refine z0j ?_ | refine z0k ?_
            | refine z0l ?_ | refine z0n ?_ | refine z0o ?_ | refine z0p ?_ | refine z0q ?_ | refine z0r ?_ | refine z0s ?_ | refine z0v ?_ | refine z0z ?_ | refine z12 ?_ | refine z14 ?_
            | refine z15 ?_ | refine z1e ?_ | refine z1f (hk := ?_) | refine z1i ?_ | refine z1j ?_ | refine z1k ?_ | refine z1l ?_ | refine z1m ?_ | refine z1n ?_
            | refine z1o (fun hp => ?_) (fun hp => ?_) | refine z1p (fun hp => ?_) (fun hp => ?_) | refine z1q (fun hp => ?_) (fun hp => ?_) | refine z1r ?_ | refine z1s ?_ | refine z1t ?_
            | refine z1u ?_ | refine z1v ?_ | refine z1w ?_ | refine z1x ?_ | refine z1y ?_ | refine z1z ?_ | refine z20 ?_ | refine z21 ?_ | refine z22 ?_ | refine z23 ?_ | refine z24 ?_
            | refine z25 ?_ | refine z26 ?_ | refine z27 ?_ | refine z28 (fun hp => ?_) (fun hp => ?_) | refine z29 (fun hp => ?_) (fun hp => ?_) | refine z2a ?_ | refine z2b ?_)
          all_goals
            refine end_r (res_ct rfl (get_set_self h0 _) rfl rfl rfl) ?_
            exact fin_cln rfl hQ
        · rw [if_neg he2] at hQ
          have he0 : e = 0 := Decidable.byContradiction he2
          subst he0
          cases is with
          | true =>
            repeat' (first
              | refine wo_len rfl hul rfl ?_
              | refine wx_ifDF rfl he2 ?_
              | refine wo_call rfl rfl rfl (c_last hv hl hi ?_)
              | refine z00 ?_ | refine z01 ?_ | refine z02 ?_ | refine z04 ?_ | refine z05 ?_ | refine z08 ?_ | refine zp ?_ | refine z0g ?_ | refine z0h ?_ | refine z0j ?_ | refine z0k ?_
              | refine z0l ?_ | refine z0n ?_ | refine z0o ?_ | refine z0p ?_ | refine z0q ?_ | refine z0r ?_ | refine z0s ?_ | refine z0v ?_ | refine z0z ?_ | refine z12 ?_ | refine z14 ?_
              | refine z15 ?_ | refine z1e ?_ | refine z1f (hk := ?_) | refine z1i ?_ | refine z1j ?_ | refine z1k ?_ | refine z1l ?_ | refine z1m ?_ | refine z1n ?_
              | refine z1o (fun hp => ?_) (fun hp => ?_) | refine z1p (fun hp => ?_) (fun hp => ?_) | refine z1q (fun hp => ?_) (fun hp => ?_) | refine z1r ?_ | refine z1s ?_ | refine z1t ?_
              | refine z1u ?_ | refine z1v ?_ | refine z1w ?_ | refine z1x ?_ | refine z1y ?_ | refine z1z ?_ | refine z20 ?_ | refine z21 ?_ | refine z22 ?_ | refine z23 ?_ | refine z24 ?_
              | refine z25 ?_ | refine z26 ?_ | refine z27 ?_ | refine z28 (fun hp => ?_) (fun hp => ?_) | refine z29 (fun hp => ?_) (fun hp => ?_) | refine z2a ?_ | refine z2b ?_)
            all_goals
              refine end_r (res_ct rfl (get_set_self h0 _) rfl rfl rfl) ?_
              refine fin_cln rfl ?_
              simp [lineE, Line.mv, hp] at hQ
              exact hQ
          | false =>
            have hn0 : ¬ 0 < ((nearF (emergs l i) t1).length : Int) := by
              intro h
              refine hcase ⟨rfl, rfl, fun e => ?_⟩
              rw [e] at h; simp at h
            repeat' (first
              | refine wo_len rfl hul rfl ?_
              | refine wx_ifDF rfl he2 ?_
              | refine wo_call rfl rfl rfl (c_last hv hl hi ?_)
              | refine z00 ?_ | refine z01 ?_ | refine z02 ?_ | refine z04 ?_ | refine z05 ?_ | refine z08 ?_ | refine zp ?_ | refine z0g ?_ | refine z0h ?_ | refine z0j ?_ | refine z0k ?_
              | refine z0l ?_ | refine z0n ?_ | refine z0o ?_ | refine z0p ?_ | refine z0q ?_ | refine z0r ?_ | refine z0s ?_ | refine z0v ?_ | refine z0z ?_ | refine z12 ?_ | refine z14 ?_
              | refine z15 ?_ | refine z1e ?_ | refine z1f (hk := ?_) | refine z1i ?_ | refine z1j ?_ | refine z1k ?_ | refine z1l ?_ | refine z1m ?_ | refine z1n ?_
              | refine z1o (fun hp => ?_) (fun hp => ?_) | refine z1p (fun hp => ?_) (fun hp => ?_) | refine z1q (fun hp => ?_) (fun hp => ?_) | refine z1r ?_ | refine z1s ?_ | refine z1t ?_
              | refine z1u ?_ | refine z1v ?_ | refine z1w ?_ | refine z1x ?_ | refine z1y ?_ | refine z1z ?_ | refine z20 ?_ | refine z21 ?_ | refine z22 ?_ | refine z23 ?_ | refine z24 ?_
              | refine z25 ?_ | refine z26 ?_ | refine z27 ?_ | refine z28 (fun hp => ?_) (fun hp => ?_) | refine z29 (fun hp => ?_) (fun hp => ?_) | refine z2a ?_ | refine z2b ?_)
            all_goals
              refine end_r (res_ct rfl (get_set_self h0 _) rfl rfl rfl) ?_
              refine fin_cln rfl ?_
              simp [lineE, Line.mv, hp] at hQ
              exact hQ

end
end Go.Proofs.Ytnekgoanadbmmaa
