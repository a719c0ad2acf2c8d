/-
Where lines may end: fill.last, fill.may, fill.ends, fill.Ends.
-/
import Derived.Test.YtnekgoanadbmmaaCe
namespace Go.Proofs.Ytnekgoanadbmmaa
open Go.Mini
set_option linter.unusedSimpArgs false
set_option linter.unusedVariables false
set_option maxHeartbeats 4000000

section
variable {m : Mem} {ls : List LRec} {Q : MV → Mem → List LRec → Prop}

/-- Behind closing edges. -/
def lastSkip (l : List Cell) : Nat → Nat → Nat
  | 0, i => i
  | k + 1, i => if (l.getD i default).kind = 8 then lastSkip l k (i + 1) else i

/-- The last end from a place on; is it forced? -/
def lastG (l : List Cell) : Nat → Nat → Nat × Bool
  | 0, i => (i, false)
  | k + 1, i => if (l.getD i default).kind ≠ 5 then lastG l k (i + 1) else (lastSkip l k (i + 1), true)
def lastF (l : List Cell) (i : Nat) : Nat × Bool := lastG l (l.length - i) i

theorem skip_le {l : List Cell} : ∀ {k i : Nat}, i ≤ lastSkip l k i ∧ lastSkip l k i ≤ i + k
  | 0, i => by simp [lastSkip]
  | k + 1, i => by
    simp only [lastSkip]
    have := skip_le (l := l) (k := k) (i := i + 1)
    split <;> omega
theorem lastG_le {l : List Cell} : ∀ {k i : Nat}, i ≤ (lastG l k i).1 ∧ (lastG l k i).1 ≤ i + k ∧ (0 < k → i < (lastG l k i).1) ∧ ((lastG l k i).2 = false → (lastG l k i).1 = i + k)
  | 0, i => by simp [lastG]
  | k + 1, i => by
    simp only [lastG]
    have := lastG_le (l := l) (k := k) (i := i + 1)
    have := skip_le (l := l) (k := k) (i := i + 1)
    split
    · refine ⟨by omega, by omega, by omega, fun h => ?_⟩
      have := (lastG_le (l := l) (k := k) (i := i + 1)).2.2.2 h
      omega
    · simp; omega
theorem lastF_le {l : List Cell} {i : Nat} (h : i ≤ l.length) : i ≤ (lastF l i).1 ∧ (lastF l i).1 ≤ l.length ∧ (i < l.length → i < (lastF l i).1) ∧ ((lastF l i).2 = false → (lastF l i).1 = l.length) := by
  have := lastG_le (l := l) (k := l.length - i) (i := i)
  unfold lastF
  refine ⟨by omega, by omega, by omega, fun h => ?_⟩
  have := this.2.2.2 h
  omega

theorem skip_loop {l : List Cell} {v : MV} (hv : Sl KCell l v) (hl : l.length ≤ 1000000) {R : Ex → As → Mem → List LRec → Prop} : ∀ (k i : Nat), i + k = l.length → R (.exit 2) [(0, v), (6, .int .i64 (lastSkip l k i))] [] [] →
    Wx ip i_fill_last.nt (.loop (lv [0, 6] 39) fill_last_b0) [(0, v), (6, .int .i64 i)] [] [] R := by
  intro k
  induction k with
  | zero =>
    intro i hk hR
    refine wx_roundL rfl ?_
    repeat' (first
      | refine wx_exitL [0, 6] ?_
      | refine z00 ?_ | refine z01 ?_ | refine z02 ?_ | refine z04 ?_ | refine z05 ?_ | refine z08 ?_ | refine zp ?_ | refine z0g ?_ | refine z0h ?_ | refine z0j ?_ | refine z0k ?_
      | refine z0l ?_ | refine z0n ?_ | refine z0o ?_ | refine z0p ?_ | refine z0q ?_ | refine z0r ?_ | refine z0s ?_ | refine z0v ?_ | refine z0z ?_ | refine z12 ?_ | refine z14 ?_
      | refine z15 ?_ | refine z1e ?_ | refine z1f (hk := ?_) | refine z1i ?_ | refine z1j ?_ | refine z1k ?_ | refine z1l ?_ | refine z1m ?_ | refine z1n ?_
      | refine z1o (fun hp => ?_) (fun hp => ?_) | refine z1p (fun hp => ?_) (fun hp => ?_) | refine z1q (fun hp => ?_) (fun hp => ?_) | refine z1r ?_ | refine z1s ?_ | refine z1t ?_
      | refine z1u ?_ | refine z1v ?_ | refine z1w ?_ | refine z1x ?_ | refine z1y ?_ | refine z1z ?_ | refine z20 ?_ | refine z21 ?_ | refine z22 ?_ | refine z23 ?_ | refine z24 ?_
      | refine z25 ?_ | refine z26 ?_ | refine z27 ?_ | refine z28 (fun hp => ?_) (fun hp => ?_) | refine z29 (fun hp => ?_) (fun hp => ?_) | refine z2a ?_ | refine z2b ?_)
    exact hR
  | succ k ih =>
    intro i hk hR
    have hlt : i < l.length := by omega
    simp only [lastSkip, getD_lt hlt] at hR
    refine wx_roundL rfl ?_
    by_cases h8 : l[i].kind = 8
    · rw [if_pos h8] at hR
      repeat' (first
        | refine wx_ifDT rfl h8 ?_
        | refine z00 ?_ | refine z01 ?_ | refine z02 ?_ | refine z04 ?_ | refine z05 ?_ | refine z08 ?_ | refine zp ?_ | refine z0g ?_ | refine z0h ?_ | refine z0j ?_ | refine z0k ?_
        | refine z0l ?_ | refine z0n ?_ | refine z0o ?_ | refine z0p ?_ | refine z0q ?_ | refine z0r ?_ | refine z0s ?_ | refine z0v ?_ | refine z0z ?_ | refine z12 ?_ | refine z14 ?_
        | refine z15 ?_ | refine z1e ?_ | refine z1f (hk := ?_) | refine z1i ?_ | refine z1j ?_ | refine z1k ?_ | refine z1l ?_ | refine z1m ?_ | refine z1n ?_
        | refine z1o (fun hp => ?_) (fun hp => ?_) | refine z1p (fun hp => ?_) (fun hp => ?_) | refine z1q (fun hp => ?_) (fun hp => ?_) | refine z1r ?_ | refine z1s ?_ | refine z1t ?_
        | refine z1u ?_ | refine z1v ?_ | refine z1w ?_ | refine z1x ?_ | refine z1y ?_ | refine z1z ?_ | refine z20 ?_ | refine z21 ?_ | refine z22 ?_ | refine z23 ?_ | refine z24 ?_
        | refine z25 ?_ | refine z26 ?_ | refine z27 ?_ | refine z28 (fun hp => ?_) (fun hp => ?_) | refine z29 (fun hp => ?_) (fun hp => ?_) | refine z2a ?_ | refine z2b ?_)
      exact wx_loopL (ih (i + 1) (by omega) hR)
    · rw [if_neg h8] at hR
      repeat' (first
        | refine wx_exitL [0, 6] ?_
        | refine wx_ifDF rfl h8 ?_
        | refine z00 ?_ | refine z01 ?_ | refine z02 ?_ | refine z04 ?_ | refine z05 ?_ | refine z08 ?_ | refine zp ?_ | refine z0g ?_ | refine z0h ?_ | refine z0j ?_ | refine z0k ?_
        | refine z0l ?_ | refine z0n ?_ | refine z0o ?_ | refine z0p ?_ | refine z0q ?_ | refine z0r ?_ | refine z0s ?_ | refine z0v ?_ | refine z0z ?_ | refine z12 ?_ | refine z14 ?_
        | refine z15 ?_ | refine z1e ?_ | refine z1f (hk := ?_) | refine z1i ?_ | refine z1j ?_ | refine z1k ?_ | refine z1l ?_ | refine z1m ?_ | refine z1n ?_
        | refine z1o (fun hp => ?_) (fun hp => ?_) | refine z1p (fun hp => ?_) (fun hp => ?_) | refine z1q (fun hp => ?_) (fun hp => ?_) | refine z1r ?_ | refine z1s ?_ | refine z1t ?_
        | refine z1u ?_ | refine z1v ?_ | refine z1w ?_ | refine z1x ?_ | refine z1y ?_ | refine z1z ?_ | refine z20 ?_ | refine z21 ?_ | refine z22 ?_ | refine z23 ?_ | refine z24 ?_
        | refine z25 ?_ | refine z26 ?_ | refine z27 ?_ | refine z28 (fun hp => ?_) (fun hp => ?_) | refine z29 (fun hp => ?_) (fun hp => ?_) | refine z2a ?_ | refine z2b ?_)
      exact hR

theorem c_last {l : List Cell} {v : MV} {i : Nat} (hv : Sl KCell l v) (hl : l.length ≤ 1000000) (hi : i ≤ l.length) (hQ : Q (.tup [.int .i64 (lastF l i).1, .bool (lastF l i).2]) m ls) : Wc ip f_fill_last [v, .int .i64 i] m ls Q := by
  refine wc_fn3d rfl fn_fill_last rfl (by simp [deepVs, hv.deep, deepV]) rfl ?_
  have key : ∀ (k i : Nat), i + k = l.length → ∀ {R : Ex → As → Mem → List LRec → Prop}, ((lastG l k i).2 = false → R (.exit 0) [(0, v)] [] []) → ((lastG l k i).2 = true → R .ret [(4, .int .i64 (lastG l k i).1), (5, .bool true)] [] []) →
      Wx ip i_fill_last.nt (.loop (lv [0, 6] 39) fill_last_b1) [(0, v), (6, .int .i64 i)] [] [] R := by
    intro k
    induction k with
    | zero =>
      intro i hk R h0 h1
      refine wx_roundL rfl ?_
      repeat' (first
        | refine wx_exitL [0] ?_
        | refine z00 ?_ | refine z01 ?_ | refine z02 ?_ | refine z04 ?_ | refine z05 ?_ | refine z08 ?_ | refine zp ?_ | refine z0g ?_ | refine z0h ?_ | refine z0j ?_ | refine z0k ?_
        | refine z0l ?_ | refine z0n ?_ | refine z0o ?_ | refine z0p ?_ | refine z0q ?_ | refine z0r ?_ | refine z0s ?_ | refine z0v ?_ | refine z0z ?_ | refine z12 ?_ | refine z14 ?_
        | refine z15 ?_ | refine z1e ?_ | refine z1f (hk := ?_) | refine z1i ?_ | refine z1j ?_ | refine z1k ?_ | refine z1l ?_ | refine z1m ?_ | refine z1n ?_
        | refine z1o (fun hp => ?_) (fun hp => ?_) | refine z1p (fun hp => ?_) (fun hp => ?_) | refine z1q (fun hp => ?_) (fun hp => ?_) | refine z1r ?_ | refine z1s ?_ | refine z1t ?_
        | refine z1u ?_ | refine z1v ?_ | refine z1w ?_ | refine z1x ?_ | refine z1y ?_ | refine z1z ?_ | refine z20 ?_ | refine z21 ?_ | refine z22 ?_ | refine z23 ?_ | refine z24 ?_
        | refine z25 ?_ | refine z26 ?_ | refine z27 ?_ | refine z28 (fun hp => ?_) (fun hp => ?_) | refine z29 (fun hp => ?_) (fun hp => ?_) | refine z2a ?_ | refine z2b ?_)
      exact h0 rfl
    | succ k ih =>
      intro i hk R h0 h1
      have hlt : i < l.length := by omega
      simp only [lastG, getD_lt hlt] at h0 h1
      refine wx_roundL rfl ?_
      by_cases h5 : l[i].kind ≠ 5
      · rw [if_pos h5] at h0 h1
        repeat' (first
          | refine wx_ifDT rfl h5 ?_
          | refine z00 ?_ | refine z01 ?_ | refine z02 ?_ | refine z04 ?_ | refine z05 ?_ | refine z08 ?_ | refine zp ?_ | refine z0g ?_ | refine z0h ?_ | refine z0j ?_ | refine z0k ?_
          | refine z0l ?_ | refine z0n ?_ | refine z0o ?_ | refine z0p ?_ | refine z0q ?_ | refine z0r ?_ | refine z0s ?_ | refine z0v ?_ | refine z0z ?_ | refine z12 ?_ | refine z14 ?_
          | refine z15 ?_ | refine z1e ?_ | refine z1f (hk := ?_) | refine z1i ?_ | refine z1j ?_ | refine z1k ?_ | refine z1l ?_ | refine z1m ?_ | refine z1n ?_
          | refine z1o (fun hp => ?_) (fun hp => ?_) | refine z1p (fun hp => ?_) (fun hp => ?_) | refine z1q (fun hp => ?_) (fun hp => ?_) | refine z1r ?_ | refine z1s ?_ | refine z1t ?_
          | refine z1u ?_ | refine z1v ?_ | refine z1w ?_ | refine z1x ?_ | refine z1y ?_ | refine z1z ?_ | refine z20 ?_ | refine z21 ?_ | refine z22 ?_ | refine z23 ?_ | refine z24 ?_
          | refine z25 ?_ | refine z26 ?_ | refine z27 ?_ | refine z28 (fun hp => ?_) (fun hp => ?_) | refine z29 (fun hp => ?_) (fun hp => ?_) | refine z2a ?_ | refine z2b ?_)
        exact wx_loopL (ih (i + 1) (by omega) h0 h1)
      · rw [if_neg h5] at h0 h1
        repeat' (first
          | refine wx_ifDF rfl h5 ?_
          | refine z00 ?_ | refine z01 ?_ | refine z02 ?_ | refine z04 ?_ | refine z05 ?_ | refine z08 ?_ | refine zp ?_ | refine z0g ?_ | refine z0h ?_ | refine z0j ?_ | refine z0k ?_
          | refine z0l ?_ | refine z0n ?_ | refine z0o ?_ | refine z0p ?_ | refine z0q ?_ | refine z0r ?_ | refine z0s ?_ | refine z0v ?_ | refine z0z ?_ | refine z12 ?_ | refine z14 ?_
          | refine z15 ?_ | refine z1e ?_ | refine z1f (hk := ?_) | refine z1i ?_ | refine z1j ?_ | refine z1k ?_ | refine z1l ?_ | refine z1m ?_ | refine z1n ?_
          | refine z1o (fun hp => ?_) (fun hp => ?_) | refine z1p (fun hp => ?_) (fun hp => ?_) | refine z1q (fun hp => ?_) (fun hp => ?_) | refine z1r ?_ | refine z1s ?_ | refine z1t ?_
          | refine z1u ?_ | refine z1v ?_ | refine z1w ?_ | refine z1x ?_ | refine z1y ?_ | refine z1z ?_ | refine z20 ?_ | refine z21 ?_ | refine z22 ?_ | refine z23 ?_ | refine z24 ?_
          | refine z25 ?_ | refine z26 ?_ | refine z27 ?_ | refine z28 (fun hp => ?_) (fun hp => ?_) | refine z29 (fun hp => ?_) (fun hp => ?_) | refine z2a ?_ | refine z2b ?_)
        refine wx_loopL ?_
        refine skip_loop hv hl k (i + 1) (by omega) ?_
        repeat' (first
          | refine wx_retL [4, 5] ?_
          | refine z00 ?_ | refine z01 ?_ | refine z02 ?_ | refine z04 ?_ | refine z05 ?_ | refine z08 ?_ | refine zp ?_ | refine z0g ?_ | refine z0h ?_ | refine z0j ?_ | refine z0k ?_
          | refine z0l ?_ | refine z0n ?_ | refine z0o ?_ | refine z0p ?_ | refine z0q ?_ | refine z0r ?_ | refine z0s ?_ | refine z0v ?_ | refine z0z ?_ | refine z12 ?_ | refine z14 ?_
          | refine z15 ?_ | refine z1e ?_ | refine z1f (hk := ?_) | refine z1i ?_ | refine z1j ?_ | refine z1k ?_ | refine z1l ?_ | refine z1m ?_ | refine z1n ?_
          | refine z1o (fun hp => ?_) (fun hp => ?_) | refine z1p (fun hp => ?_) (fun hp => ?_) | refine z1q (fun hp => ?_) (fun hp => ?_) | refine z1r ?_ | refine z1s ?_ | refine z1t ?_
          | refine z1u ?_ | refine z1v ?_ | refine z1w ?_ | refine z1x ?_ | refine z1y ?_ | refine z1z ?_ | refine z20 ?_ | refine z21 ?_ | refine z22 ?_ | refine z23 ?_ | refine z24 ?_
          | refine z25 ?_ | refine z26 ?_ | refine z27 ?_ | refine z28 (fun hp => ?_) (fun hp => ?_) | refine z29 (fun hp => ?_) (fun hp => ?_) | refine z2a ?_ | refine z2b ?_)
        exact h1 rfl
  repeat' (first
    | refine z00 ?_ | refine z01 ?_ | refine z02 ?_ | refine z04 ?_ | refine z05 ?_ | refine z08 ?_ | refine zp ?_ | refine z0g ?_ | refine z0h ?_ | refine z0j ?_ | refine z0k ?_
    | refine z0l ?_ | refine z0n ?_ | refine z0o ?_ | refine z0p ?_ | refine z0q ?_ | refine z0r ?_ | refine z0s ?_ | refine z0v ?_ | refine z0z ?_ | refine z12 ?_ | refine z14 ?_
    | refine z15 ?_ | refine z1e ?_ | refine z1f (hk := ?_) | refine z1i ?_ | refine z1j ?_ | refine z1k ?_ | refine z1l ?_ | refine z1m ?_ | refine z1n ?_
    | refine z1o (fun hp => ?_) (fun hp => ?_) | refine z1p (fun hp => ?_) (fun hp => ?_) | refine z1q (fun hp => ?_) (fun hp => ?_) | refine z1r ?_ | refine z1s ?_ | refine z1t ?_
    | refine z1u ?_ | refine z1v ?_ | refine z1w ?_ | refine z1x ?_ | refine z1y ?_ | refine z1z ?_ | refine z20 ?_ | refine z21 ?_ | refine z22 ?_ | refine z23 ?_ | refine z24 ?_
    | refine z25 ?_ | refine z26 ?_ | refine z27 ?_ | refine z28 (fun hp => ?_) (fun hp => ?_) | refine z29 (fun hp => ?_) (fun hp => ?_) | refine z2a ?_ | refine z2b ?_)
  refine wx_loopL ?_
  refine key (l.length - i) i (by omega) ?_ ?_
  · intro h
    repeat' (first
      | refine z00 ?_ | refine z01 ?_ | refine z02 ?_ | refine z04 ?_ | refine z05 ?_ | refine z08 ?_ | refine zp ?_ | refine z0g ?_ | refine z0h ?_ | refine z0j ?_ | refine z0k ?_
      | refine z0l ?_ | refine z0n ?_ | refine z0o ?_ | refine z0p ?_ | refine z0q ?_ | refine z0r ?_ | refine z0s ?_ | refine z0v ?_ | refine z0z ?_ | refine z12 ?_ | refine z14 ?_
      | refine z15 ?_ | refine z1e ?_ | refine z1f (hk := ?_) | refine z1i ?_ | refine z1j ?_ | refine z1k ?_ | refine z1l ?_ | refine z1m ?_ | refine z1n ?_
      | refine z1o (fun hp => ?_) (fun hp => ?_) | refine z1p (fun hp => ?_) (fun hp => ?_) | refine z1q (fun hp => ?_) (fun hp => ?_) | refine z1r ?_ | refine z1s ?_ | refine z1t ?_
      | refine z1u ?_ | refine z1v ?_ | refine z1w ?_ | refine z1x ?_ | refine z1y ?_ | refine z1z ?_ | refine z20 ?_ | refine z21 ?_ | refine z22 ?_ | refine z23 ?_ | refine z24 ?_
      | refine z25 ?_ | refine z26 ?_ | refine z27 ?_ | refine z28 (fun hp => ?_) (fun hp => ?_) | refine z29 (fun hp => ?_) (fun hp => ?_) | refine z2a ?_ | refine z2b ?_)
    refine fin_cln rfl ?_
    have := (lastF_le hi).2.2.2 h
    have e : lastF l i = (l.length, false) := Prod.ext this h
    rw [e] at hQ
    exact hQ
  · intro h
    repeat' (first | refine then_r ?_ | refine block_r ?_)
    refine end_r rfl ?_
    refine fin_cln rfl ?_
    have e : (lastF l i).2 = true := h
    rw [e] at hQ
    exact hQ

theorem may_loop {l : List Cell} {v w : MV} (hv : Sl KCell l v) (hl : l.length ≤ 1000000) {R : Ex → As → Mem → List LRec → Prop} (h1 : l.any badTab = true → ∀ m, R .ret [(4, .bool false)] m []) (h2 : l.any badTab = false → ∀ m, R (.exit 0) [(0, v), (1, w)] m []) :
    ∀ (k i : Nat) (m : Mem), i + k = l.length → (l.take i).any badTab = false → Wx ip i_fill_may.nt (.loop (lv [0, 1, 7, 8, 9] 30) fill_may_b0) [(0, v), (1, w), (7, v), (8, .int .i64 l.length), (9, .int .i64 i)] m [] R := by
  intro k
  induction k with
  | zero =>
    intro i m hk hb
    refine wx_roundL rfl ?_
    repeat' (first
      | refine wx_exitL [0, 1] ?_
      | refine z00 ?_ | refine z01 ?_ | refine z02 ?_ | refine z04 ?_ | refine z05 ?_ | refine z08 ?_ | refine zp ?_ | refine z0g ?_ | refine z0h ?_ | refine z0j ?_ | refine z0k ?_
      | refine z0l ?_ | refine z0n ?_ | refine z0o ?_ | refine z0p ?_ | refine z0q ?_ | refine z0r ?_ | refine z0s ?_ | refine z0v ?_ | refine z0z ?_ | refine z12 ?_ | refine z14 ?_
      | refine z15 ?_ | refine z1e ?_ | refine z1f (hk := ?_) | refine z1i ?_ | refine z1j ?_ | refine z1k ?_ | refine z1l ?_ | refine z1m ?_ | refine z1n ?_
      | refine z1o (fun hp => ?_) (fun hp => ?_) | refine z1p (fun hp => ?_) (fun hp => ?_) | refine z1q (fun hp => ?_) (fun hp => ?_) | refine z1r ?_ | refine z1s ?_ | refine z1t ?_
      | refine z1u ?_ | refine z1v ?_ | refine z1w ?_ | refine z1x ?_ | refine z1y ?_ | refine z1z ?_ | refine z20 ?_ | refine z21 ?_ | refine z22 ?_ | refine z23 ?_ | refine z24 ?_
      | refine z25 ?_ | refine z26 ?_ | refine z27 ?_ | refine z28 (fun hp => ?_) (fun hp => ?_) | refine z29 (fun hp => ?_) (fun hp => ?_) | refine z2a ?_ | refine z2b ?_)
    exact h2 (by rw [List.take_of_length_le (by omega)] at hb; exact hb) m
  | succ k ih =>
    intro i m hk hb
    have hlt : i < l.length := by omega
    have hany : (l.take (i + 1)).any badTab = badTab l[i] := by
      rw [List.take_succ_eq_append_getElem hlt, List.any_append, hb]; simp
    refine wx_roundL rfl ?_
    by_cases hbt : l[i].kind = 4 ∧ l[i].adv < 0
    · have hall : l.any badTab = true := by
        rw [List.any_eq_true]
        exact ⟨l[i], List.getElem_mem hlt, by simp [badTab, hbt]⟩
      have ha := hbt.1
      have hb2 := hbt.2
      repeat' (first
        | refine wx_retL [4] ?_
        | refine wo_guardDT rfl ha rfl ?_
        | refine wx_ifDT rfl hb2 ?_
        | refine z00 ?_ | refine z01 ?_ | refine z02 ?_ | refine z04 ?_ | refine z05 ?_ | refine z08 ?_ | refine zp ?_ | refine z0g ?_ | refine z0h ?_ | refine z0j ?_ | refine z0k ?_
        | refine z0l ?_ | refine z0n ?_ | refine z0o ?_ | refine z0p ?_ | refine z0q ?_ | refine z0r ?_ | refine z0s ?_ | refine z0v ?_ | refine z0z ?_ | refine z12 ?_ | refine z14 ?_
        | refine z15 ?_ | refine z1e ?_ | refine z1f (hk := ?_) | refine z1i ?_ | refine z1j ?_ | refine z1k ?_ | refine z1l ?_ | refine z1m ?_ | refine z1n ?_
        | refine z1o (fun hp => ?_) (fun hp => ?_) | refine z1p (fun hp => ?_) (fun hp => ?_) | refine z1q (fun hp => ?_) (fun hp => ?_) | refine z1r ?_ | refine z1s ?_ | refine z1t ?_
        | refine z1u ?_ | refine z1v ?_ | refine z1w ?_ | refine z1x ?_ | refine z1y ?_ | refine z1z ?_ | refine z20 ?_ | refine z21 ?_ | refine z22 ?_ | refine z23 ?_ | refine z24 ?_
        | refine z25 ?_ | refine z26 ?_ | refine z27 ?_ | refine z28 (fun hp => ?_) (fun hp => ?_) | refine z29 (fun hp => ?_) (fun hp => ?_) | refine z2a ?_ | refine z2b ?_)
      exact h1 hall _
    · have hbf : badTab l[i] = false := by simp only [badTab, decide_eq_false_iff_not]; exact hbt
      have fin : ∀ c : Blk, Wx ip i_fill_may.nt (.loop (lv [0, 1, 7, 8, 9] 30) fill_may_b0) [(0, v), (1, w), (7, v), (8, .int .i64 l.length), (9, .int .i64 ((i : Int) + 1))] (m ++ [c]) [] R :=
        fun c => ih (i + 1) _ (by omega) (by rw [hany, hbf])
      by_cases ha : l[i].kind = 4
      · have hb2 : ¬ l[i].adv < 0 := fun c => hbt ⟨ha, c⟩
        repeat' (first
          | refine wo_guardDT rfl ha rfl ?_
          | refine wx_ifDF rfl hb2 ?_
          | refine z00 ?_ | refine z01 ?_ | refine z02 ?_ | refine z04 ?_ | refine z05 ?_ | refine z08 ?_ | refine zp ?_ | refine z0g ?_ | refine z0h ?_ | refine z0j ?_ | refine z0k ?_
          | refine z0l ?_ | refine z0n ?_ | refine z0o ?_ | refine z0p ?_ | refine z0q ?_ | refine z0r ?_ | refine z0s ?_ | refine z0v ?_ | refine z0z ?_ | refine z12 ?_ | refine z14 ?_
          | refine z15 ?_ | refine z1e ?_ | refine z1f (hk := ?_) | refine z1i ?_ | refine z1j ?_ | refine z1k ?_ | refine z1l ?_ | refine z1m ?_ | refine z1n ?_
          | refine z1o (fun hp => ?_) (fun hp => ?_) | refine z1p (fun hp => ?_) (fun hp => ?_) | refine z1q (fun hp => ?_) (fun hp => ?_) | refine z1r ?_ | refine z1s ?_ | refine z1t ?_
          | refine z1u ?_ | refine z1v ?_ | refine z1w ?_ | refine z1x ?_ | refine z1y ?_ | refine z1z ?_ | refine z20 ?_ | refine z21 ?_ | refine z22 ?_ | refine z23 ?_ | refine z24 ?_
          | refine z25 ?_ | refine z26 ?_ | refine z27 ?_ | refine z28 (fun hp => ?_) (fun hp => ?_) | refine z29 (fun hp => ?_) (fun hp => ?_) | refine z2a ?_ | refine z2b ?_)
        exact wx_loopL (fin _)
      · repeat' (first
          | refine wo_guardDF rfl ha rfl ?_
          | refine z00 ?_ | refine z01 ?_ | refine z02 ?_ | refine z04 ?_ | refine z05 ?_ | refine z08 ?_ | refine zp ?_ | refine z0g ?_ | refine z0h ?_ | refine z0j ?_ | refine z0k ?_
          | refine z0l ?_ | refine z0n ?_ | refine z0o ?_ | refine z0p ?_ | refine z0q ?_ | refine z0r ?_ | refine z0s ?_ | refine z0v ?_ | refine z0z ?_ | refine z12 ?_ | refine z14 ?_
          | refine z15 ?_ | refine z1e ?_ | refine z1f (hk := ?_) | refine z1i ?_ | refine z1j ?_ | refine z1k ?_ | refine z1l ?_ | refine z1m ?_ | refine z1n ?_
          | refine z1o (fun hp => ?_) (fun hp => ?_) | refine z1p (fun hp => ?_) (fun hp => ?_) | refine z1q (fun hp => ?_) (fun hp => ?_) | refine z1r ?_ | refine z1s ?_ | refine z1t ?_
          | refine z1u ?_ | refine z1v ?_ | refine z1w ?_ | refine z1x ?_ | refine z1y ?_ | refine z1z ?_ | refine z20 ?_ | refine z21 ?_ | refine z22 ?_ | refine z23 ?_ | refine z24 ?_
          | refine z25 ?_ | refine z26 ?_ | refine z27 ?_ | refine z28 (fun hp => ?_) (fun hp => ?_) | refine z29 (fun hp => ?_) (fun hp => ?_) | refine z2a ?_ | refine z2b ?_)
        exact wx_loopL (fin _)

theorem c_may {l : List Cell} {v : MV} {i : Nat} (hv : Sl KCell l v) (hl : l.length ≤ 1000000) (hi : i ≤ l.length) (hQ : Q (.bool (!l.any badTab)) m ls) : Wc ip f_fill_may [v, .int .i64 i] m ls Q := by
  refine wc_fn3d rfl fn_fill_may rfl (by simp [deepVs, hv.deep, deepV]) rfl ?_
  repeat' (first
    | refine z00 ?_ | refine z01 ?_ | refine z02 ?_ | refine z04 ?_ | refine z05 ?_ | refine z08 ?_ | refine zp ?_ | refine z0g ?_ | refine z0h ?_ | refine z0j ?_ | refine z0k ?_
    | refine z0l ?_ | refine z0n ?_ | refine z0o ?_ | refine z0p ?_ | refine z0q ?_ | refine z0r ?_ | refine z0s ?_ | refine z0v ?_ | refine z0z ?_ | refine z12 ?_ | refine z14 ?_
    | refine z15 ?_ | refine z1e ?_ | refine z1f (hk := ?_) | refine z1i ?_ | refine z1j ?_ | refine z1k ?_ | refine z1l ?_ | refine z1m ?_ | refine z1n ?_
    | refine z1o (fun hp => ?_) (fun hp => ?_) | refine z1p (fun hp => ?_) (fun hp => ?_) | refine z1q (fun hp => ?_) (fun hp => ?_) | refine z1r ?_ | refine z1s ?_ | refine z1t ?_
    | refine z1u ?_ | refine z1v ?_ | refine z1w ?_ | refine z1x ?_ | refine z1y ?_ | refine z1z ?_ | refine z20 ?_ | refine z21 ?_ | refine z22 ?_ | refine z23 ?_ | refine z24 ?_
    | refine z25 ?_ | refine z26 ?_ | refine z27 ?_ | refine z28 (fun hp => ?_) (fun hp => ?_) | refine z29 (fun hp => ?_) (fun hp => ?_) | refine z2a ?_ | refine z2b ?_)
  refine wx_loopL ?_
  refine may_loop hv hl ?_ ?_ l.length 0 _ (by omega) rfl
  · intro h m
    rw [h] at hQ
    repeat' (first | refine then_r ?_ | refine block_r ?_)
    refine end_r rfl ?_
    exact fin_cln rfl hQ
  · intro h m
    rw [h] at hQ
    repeat' (first
      | refine z00 ?_ | refine z01 ?_ | refine z02 ?_ | refine z04 ?_ | refine z05 ?_ | refine z08 ?_ | refine zp ?_ | refine z0g ?_ | refine z0h ?_ | refine z0j ?_ | refine z0k ?_
      | refine z0l ?_ | refine z0n ?_ | refine z0o ?_ | refine z0p ?_ | refine z0q ?_ | refine z0r ?_ | refine z0s ?_ | refine z0v ?_ | refine z0z ?_ | refine z12 ?_ | refine z14 ?_
      | refine z15 ?_ | refine z1e ?_ | refine z1f (hk := ?_) | refine z1i ?_ | refine z1j ?_ | refine z1k ?_ | refine z1l ?_ | refine z1m ?_ | refine z1n ?_
      | refine z1o (fun hp => ?_) (fun hp => ?_) | refine z1p (fun hp => ?_) (fun hp => ?_) | refine z1q (fun hp => ?_) (fun hp => ?_) | refine z1r ?_ | refine z1s ?_ | refine z1t ?_
      | refine z1u ?_ | refine z1v ?_ | refine z1w ?_ | refine z1x ?_ | refine z1y ?_ | refine z1z ?_ | refine z20 ?_ | refine z21 ?_ | refine z22 ?_ | refine z23 ?_ | refine z24 ?_
      | refine z25 ?_ | refine z26 ?_ | refine z27 ?_ | refine z28 (fun hp => ?_) (fun hp => ?_) | refine z29 (fun hp => ?_) (fun hp => ?_) | refine z2a ?_ | refine z2b ?_)
    refine fin_cln rfl ?_
    have e : decide ((i : Int) ≤ l.length) = true := by rw [decide_eq_true_eq]; omega
    simp only [one, e]
    exact hQ

theorem c_mayE {l : List Cell} {v : MV} {i : Nat} {b : Bool} (hb : l.any badTab = b) (hv : Sl KCell l v) (hl : l.length ≤ 1000000) (hi : i ≤ l.length) (hQ : Q (.bool (!b)) m ls) : Wc ip f_fill_may [v, .int .i64 i] m ls Q := c_may hv hl hi (by rw [hb]; exact hQ)

/-! ### Nothing but edges -/

/-- Nothing but edges is left. -/
def blankF (l : List Cell) : Bool := (List.range l.length).all fun i => decide ((rolesF l).getD i 0 = 1) || edgeC (l.getD i default)

theorem c_Blank {l : List Cell} {v : MV} (hv : Sl KCell l v) (hl : l.length ≤ 1000000) (hQ : Q (.bool (blankF l)) m ls) : Wc ip f_trim_Blank [v] m ls Q := by
  refine wc_fn3d rfl fn_trim_Blank rfl (by simp [deepVs, hv.deep]) rfl ?_
  repeat' (first
    | refine wo_call rfl rfl rfl (c_Roles hv hl ?_)
    | refine z00 ?_ | refine z01 ?_ | refine z02 ?_ | refine z04 ?_ | refine z05 ?_ | refine z08 ?_ | refine zp ?_ | refine z0g ?_ | refine z0h ?_ | refine z0j ?_ | refine z0k ?_
    | refine z0l ?_ | refine z0n ?_ | refine z0o ?_ | refine z0p ?_ | refine z0q ?_ | refine z0r ?_ | refine z0s ?_ | refine z0v ?_ | refine z0z ?_ | refine z12 ?_ | refine z14 ?_
    | refine z15 ?_ | refine z1e ?_ | refine z1f (hk := ?_) | refine z1i ?_ | refine z1j ?_ | refine z1k ?_ | refine z1l ?_ | refine z1m ?_ | refine z1n ?_
    | refine z1o (fun hp => ?_) (fun hp => ?_) | refine z1p (fun hp => ?_) (fun hp => ?_) | refine z1q (fun hp => ?_) (fun hp => ?_) | refine z1r ?_ | refine z1s ?_ | refine z1t ?_
    | refine z1u ?_ | refine z1v ?_ | refine z1w ?_ | refine z1x ?_ | refine z1y ?_ | refine z1z ?_ | refine z20 ?_ | refine z21 ?_ | refine z22 ?_ | refine z23 ?_ | refine z24 ?_
    | refine z25 ?_ | refine z26 ?_ | refine z27 ?_ | refine z28 (fun hp => ?_) (fun hp => ?_) | refine z29 (fun hp => ?_) (fun hp => ?_) | refine z2a ?_ | refine z2b ?_)
  intro u hu
  have hlen := rolesF_len (l := l)
  have key : ∀ (k i : Nat), i + k = l.length → (∀ j, j < i → (decide ((rolesF l).getD j 0 = 1) || edgeC (l.getD j default)) = true) → ∀ {R : Ex → As → Mem → List LRec → Prop}, (blankF l = true → R (.exit 0) [(0, v)] [] []) → (blankF l = false → R .ret [(2, .bool false)] [] []) →
      Wx ip i_trim_Blank.nt (.loop (lv [0, 6, 7, 8] 24) trim_Blank_b0) [(0, v), (6, u), (7, .int .i64 (rolesF l).length), (8, .int .i64 i)] [] [] R := by
    intro k
    induction k with
    | zero =>
      intro i hk hd R h1 h2
      have e : blankF l = true := by
        unfold blankF
        rw [List.all_eq_true]
        intro j hj
        exact hd j (by rw [List.mem_range] at hj; omega)
      refine wx_roundL rfl ?_
      repeat' (first
        | refine wx_exitL [0] ?_
        | refine z00 ?_ | refine z01 ?_ | refine z02 ?_ | refine z04 ?_ | refine z05 ?_ | refine z08 ?_ | refine zp ?_ | refine z0g ?_ | refine z0h ?_ | refine z0j ?_ | refine z0k ?_
        | refine z0l ?_ | refine z0n ?_ | refine z0o ?_ | refine z0p ?_ | refine z0q ?_ | refine z0r ?_ | refine z0s ?_ | refine z0v ?_ | refine z0z ?_ | refine z12 ?_ | refine z14 ?_
        | refine z15 ?_ | refine z1e ?_ | refine z1f (hk := ?_) | refine z1i ?_ | refine z1j ?_ | refine z1k ?_ | refine z1l ?_ | refine z1m ?_ | refine z1n ?_
        | refine z1o (fun hp => ?_) (fun hp => ?_) | refine z1p (fun hp => ?_) (fun hp => ?_) | refine z1q (fun hp => ?_) (fun hp => ?_) | refine z1r ?_ | refine z1s ?_ | refine z1t ?_
        | refine z1u ?_ | refine z1v ?_ | refine z1w ?_ | refine z1x ?_ | refine z1y ?_ | refine z1z ?_ | refine z20 ?_ | refine z21 ?_ | refine z22 ?_ | refine z23 ?_ | refine z24 ?_
        | refine z25 ?_ | refine z26 ?_ | refine z27 ?_ | refine z28 (fun hp => ?_) (fun hp => ?_) | refine z29 (fun hp => ?_) (fun hp => ?_) | refine z2a ?_ | refine z2b ?_)
      exact h1 e
    | succ k ih =>
      intro i hk hd R h1 h2
      have hlt : i < l.length := by omega
      have hlt2 : i < (rolesF l).length := by omega
      have nx : (decide ((rolesF l)[i] = 1) || edgeC l[i]) = true → Wx ip i_trim_Blank.nt (.loop (lv [0, 6, 7, 8] 24) trim_Blank_b0) [(0, v), (6, u), (7, .int .i64 (rolesF l).length), (8, .int .i64 ((i : Int) + 1))] [] [] R := fun h =>
        ih (i + 1) (by omega) (fun j hj => by
          by_cases e : j = i
          · subst e; rw [getD_lt hlt2, getD_lt hlt]; exact h
          · exact hd j (by omega)) h1 h2
      refine wx_roundL rfl ?_
      by_cases hr : (rolesF l)[i] ≠ 1
      · cases he : edgeC l[i] with
        | true =>
          repeat' (first
            | refine wo_guardDT rfl hr rfl ?_
            | refine wo_call rfl rfl rfl (c_edge ?_)
            | refine wo_not (t := true) (by rw [← he]; rfl) rfl ?_
            | refine z00 ?_ | refine z01 ?_ | refine z02 ?_ | refine z04 ?_ | refine z05 ?_ | refine z08 ?_ | refine zp ?_ | refine z0g ?_ | refine z0h ?_ | refine z0j ?_ | refine z0k ?_
            | refine z0l ?_ | refine z0n ?_ | refine z0o ?_ | refine z0p ?_ | refine z0q ?_ | refine z0r ?_ | refine z0s ?_ | refine z0v ?_ | refine z0z ?_ | refine z12 ?_ | refine z14 ?_
            | refine z15 ?_ | refine z1e ?_ | refine z1f (hk := ?_) | refine z1i ?_ | refine z1j ?_ | refine z1k ?_ | refine z1l ?_ | refine z1m ?_ | refine z1n ?_
            | refine z1o (fun hp => ?_) (fun hp => ?_) | refine z1p (fun hp => ?_) (fun hp => ?_) | refine z1q (fun hp => ?_) (fun hp => ?_) | refine z1r ?_ | refine z1s ?_ | refine z1t ?_
            | refine z1u ?_ | refine z1v ?_ | refine z1w ?_ | refine z1x ?_ | refine z1y ?_ | refine z1z ?_ | refine z20 ?_ | refine z21 ?_ | refine z22 ?_ | refine z23 ?_ | refine z24 ?_
            | refine z25 ?_ | refine z26 ?_ | refine z27 ?_ | refine z28 (fun hp => ?_) (fun hp => ?_) | refine z29 (fun hp => ?_) (fun hp => ?_) | refine z2a ?_ | refine z2b ?_)
          exact wx_loopL (nx (by rw [he]; simp))
        | false =>
          have e : blankF l = false := by
            unfold blankF
            rw [List.all_eq_false]
            refine ⟨i, by rw [List.mem_range]; exact hlt, ?_⟩
            rw [getD_lt hlt2, getD_lt hlt, he]
            simpa using hr
          repeat' (first
            | refine wx_retL [2] ?_
            | refine wo_guardDT rfl hr rfl ?_
            | refine wo_call rfl rfl rfl (c_edge ?_)
            | refine wo_not (t := false) (by rw [← he]; rfl) rfl ?_
            | refine z00 ?_ | refine z01 ?_ | refine z02 ?_ | refine z04 ?_ | refine z05 ?_ | refine z08 ?_ | refine zp ?_ | refine z0g ?_ | refine z0h ?_ | refine z0j ?_ | refine z0k ?_
            | refine z0l ?_ | refine z0n ?_ | refine z0o ?_ | refine z0p ?_ | refine z0q ?_ | refine z0r ?_ | refine z0s ?_ | refine z0v ?_ | refine z0z ?_ | refine z12 ?_ | refine z14 ?_
            | refine z15 ?_ | refine z1e ?_ | refine z1f (hk := ?_) | refine z1i ?_ | refine z1j ?_ | refine z1k ?_ | refine z1l ?_ | refine z1m ?_ | refine z1n ?_
            | refine z1o (fun hp => ?_) (fun hp => ?_) | refine z1p (fun hp => ?_) (fun hp => ?_) | refine z1q (fun hp => ?_) (fun hp => ?_) | refine z1r ?_ | refine z1s ?_ | refine z1t ?_
            | refine z1u ?_ | refine z1v ?_ | refine z1w ?_ | refine z1x ?_ | refine z1y ?_ | refine z1z ?_ | refine z20 ?_ | refine z21 ?_ | refine z22 ?_ | refine z23 ?_ | refine z24 ?_
            | refine z25 ?_ | refine z26 ?_ | refine z27 ?_ | refine z28 (fun hp => ?_) (fun hp => ?_) | refine z29 (fun hp => ?_) (fun hp => ?_) | refine z2a ?_ | refine z2b ?_)
          exact h2 e
      · repeat' (first
          | refine wo_guardDF rfl hr rfl ?_
          | refine z00 ?_ | refine z01 ?_ | refine z02 ?_ | refine z04 ?_ | refine z05 ?_ | refine z08 ?_ | refine zp ?_ | refine z0g ?_ | refine z0h ?_ | refine z0j ?_ | refine z0k ?_
          | refine z0l ?_ | refine z0n ?_ | refine z0o ?_ | refine z0p ?_ | refine z0q ?_ | refine z0r ?_ | refine z0s ?_ | refine z0v ?_ | refine z0z ?_ | refine z12 ?_ | refine z14 ?_
          | refine z15 ?_ | refine z1e ?_ | refine z1f (hk := ?_) | refine z1i ?_ | refine z1j ?_ | refine z1k ?_ | refine z1l ?_ | refine z1m ?_ | refine z1n ?_
          | refine z1o (fun hp => ?_) (fun hp => ?_) | refine z1p (fun hp => ?_) (fun hp => ?_) | refine z1q (fun hp => ?_) (fun hp => ?_) | refine z1r ?_ | refine z1s ?_ | refine z1t ?_
          | refine z1u ?_ | refine z1v ?_ | refine z1w ?_ | refine z1x ?_ | refine z1y ?_ | refine z1z ?_ | refine z20 ?_ | refine z21 ?_ | refine z22 ?_ | refine z23 ?_ | refine z24 ?_
          | refine z25 ?_ | refine z26 ?_ | refine z27 ?_ | refine z28 (fun hp => ?_) (fun hp => ?_) | refine z29 (fun hp => ?_) (fun hp => ?_) | refine z2a ?_ | refine z2b ?_)
        exact wx_loopL (nx (by simp at hr; simp [hr]))
  repeat' (first
    | refine z00 ?_ | refine z01 ?_ | refine z02 ?_ | refine z04 ?_ | refine z05 ?_ | refine z08 ?_ | refine zp ?_ | refine z0g ?_ | refine z0h ?_ | refine z0j ?_ | refine z0k ?_
    | refine z0l ?_ | refine z0n ?_ | refine z0o ?_ | refine z0p ?_ | refine z0q ?_ | refine z0r ?_ | refine z0s ?_ | refine z0v ?_ | refine z0z ?_ | refine z12 ?_ | refine z14 ?_
    | refine z15 ?_ | refine z1e ?_ | refine z1f (hk := ?_) | refine z1i ?_ | refine z1j ?_ | refine z1k ?_ | refine z1l ?_ | refine z1m ?_ | refine z1n ?_
    | refine z1o (fun hp => ?_) (fun hp => ?_) | refine z1p (fun hp => ?_) (fun hp => ?_) | refine z1q (fun hp => ?_) (fun hp => ?_) | refine z1r ?_ | refine z1s ?_ | refine z1t ?_
    | refine z1u ?_ | refine z1v ?_ | refine z1w ?_ | refine z1x ?_ | refine z1y ?_ | refine z1z ?_ | refine z20 ?_ | refine z21 ?_ | refine z22 ?_ | refine z23 ?_ | refine z24 ?_
    | refine z25 ?_ | refine z26 ?_ | refine z27 ?_ | refine z28 (fun hp => ?_) (fun hp => ?_) | refine z29 (fun hp => ?_) (fun hp => ?_) | refine z2a ?_ | refine z2b ?_)
  refine wx_loopL ?_
  refine key l.length 0 (by omega) (by omega) ?_ ?_
  · intro h
    rw [h] at hQ
    repeat' (first
      | refine z00 ?_ | refine z01 ?_ | refine z02 ?_ | refine z04 ?_ | refine z05 ?_ | refine z08 ?_ | refine zp ?_ | refine z0g ?_ | refine z0h ?_ | refine z0j ?_ | refine z0k ?_
      | refine z0l ?_ | refine z0n ?_ | refine z0o ?_ | refine z0p ?_ | refine z0q ?_ | refine z0r ?_ | refine z0s ?_ | refine z0v ?_ | refine z0z ?_ | refine z12 ?_ | refine z14 ?_
      | refine z15 ?_ | refine z1e ?_ | refine z1f (hk := ?_) | refine z1i ?_ | refine z1j ?_ | refine z1k ?_ | refine z1l ?_ | refine z1m ?_ | refine z1n ?_
      | refine z1o (fun hp => ?_) (fun hp => ?_) | refine z1p (fun hp => ?_) (fun hp => ?_) | refine z1q (fun hp => ?_) (fun hp => ?_) | refine z1r ?_ | refine z1s ?_ | refine z1t ?_
      | refine z1u ?_ | refine z1v ?_ | refine z1w ?_ | refine z1x ?_ | refine z1y ?_ | refine z1z ?_ | refine z20 ?_ | refine z21 ?_ | refine z22 ?_ | refine z23 ?_ | refine z24 ?_
      | refine z25 ?_ | refine z26 ?_ | refine z27 ?_ | refine z28 (fun hp => ?_) (fun hp => ?_) | refine z29 (fun hp => ?_) (fun hp => ?_) | refine z2a ?_ | refine z2b ?_)
    exact fin_cln rfl hQ
  · intro h
    rw [h] at hQ
    repeat' (first | refine then_r ?_ | refine block_r ?_)
    refine end_r rfl ?_
    exact fin_cln rfl hQ

/-! ### Ends -/

theorem c_soft {c : Cell} (hQ : Q (.bool c.soft) m ls) : Wc ip f_fill_soft [.agg c.mv] m ls Q := by
  refine wc_fn3d rfl fn_fill_soft rfl rfl rfl ?_
  repeat' (first
    | refine z00 ?_ | refine z01 ?_ | refine z02 ?_ | refine z04 ?_ | refine z05 ?_ | refine z08 ?_ | refine zp ?_ | refine z0g ?_ | refine z0h ?_ | refine z0j ?_ | refine z0k ?_
    | refine z0l ?_ | refine z0n ?_ | refine z0o ?_ | refine z0p ?_ | refine z0q ?_ | refine z0r ?_ | refine z0s ?_ | refine z0v ?_ | refine z0z ?_ | refine z12 ?_ | refine z14 ?_
    | refine z15 ?_ | refine z1e ?_ | refine z1f (hk := ?_) | refine z1i ?_ | refine z1j ?_ | refine z1k ?_ | refine z1l ?_ | refine z1m ?_ | refine z1n ?_
    | refine z1o (fun hp => ?_) (fun hp => ?_) | refine z1p (fun hp => ?_) (fun hp => ?_) | refine z1q (fun hp => ?_) (fun hp => ?_) | refine z1r ?_ | refine z1s ?_ | refine z1t ?_
    | refine z1u ?_ | refine z1v ?_ | refine z1w ?_ | refine z1x ?_ | refine z1y ?_ | refine z1z ?_ | refine z20 ?_ | refine z21 ?_ | refine z22 ?_ | refine z23 ?_ | refine z24 ?_
    | refine z25 ?_ | refine z26 ?_ | refine z27 ?_ | refine z28 (fun hp => ?_) (fun hp => ?_) | refine z29 (fun hp => ?_) (fun hp => ?_) | refine z2a ?_ | refine z2b ?_)
  exact fin_cln rfl hQ
theorem c_emergency {c : Cell} (hQ : Q (.bool c.emerg) m ls) : Wc ip f_fill_emergency [.agg c.mv] m ls Q := by
  refine wc_fn3d rfl fn_fill_emergency rfl rfl rfl ?_
  repeat' (first
    | refine z00 ?_ | refine z01 ?_ | refine z02 ?_ | refine z04 ?_ | refine z05 ?_ | refine z08 ?_ | refine zp ?_ | refine z0g ?_ | refine z0h ?_ | refine z0j ?_ | refine z0k ?_
    | refine z0l ?_ | refine z0n ?_ | refine z0o ?_ | refine z0p ?_ | refine z0q ?_ | refine z0r ?_ | refine z0s ?_ | refine z0v ?_ | refine z0z ?_ | refine z12 ?_ | refine z14 ?_
    | refine z15 ?_ | refine z1e ?_ | refine z1f (hk := ?_) | refine z1i ?_ | refine z1j ?_ | refine z1k ?_ | refine z1l ?_ | refine z1m ?_ | refine z1n ?_
    | refine z1o (fun hp => ?_) (fun hp => ?_) | refine z1p (fun hp => ?_) (fun hp => ?_) | refine z1q (fun hp => ?_) (fun hp => ?_) | refine z1r ?_ | refine z1s ?_ | refine z1t ?_
    | refine z1u ?_ | refine z1v ?_ | refine z1w ?_ | refine z1x ?_ | refine z1y ?_ | refine z1z ?_ | refine z20 ?_ | refine z21 ?_ | refine z22 ?_ | refine z23 ?_ | refine z24 ?_
    | refine z25 ?_ | refine z26 ?_ | refine z27 ?_ | refine z28 (fun hp => ?_) (fun hp => ?_) | refine z29 (fun hp => ?_) (fun hp => ?_) | refine z2a ?_ | refine z2b ?_)
  exact fin_cln rfl hQ

/-- Cells from a place to another one. -/
def cut (l : List Cell) (i j : Nat) : List Cell := (l.drop i).take (j - i)
theorem cut_len {l : List Cell} {i j : Nat} (h1 : i ≤ j) (h2 : j ≤ l.length) : (cut l i j).length = j - i := by unfold cut; simp; omega
theorem cut_ok {l : List Cell} {i j : Nat} (h : ∀ c ∈ l, c.ok) : ∀ c ∈ cut l i j, c.ok := fun c hc => h c (List.mem_of_mem_drop (List.mem_of_mem_take hc))

/-- Is there an end of a kind at a place? -/
def endB (l : List Cell) (is : Cell → Bool) (i p : Nat) : Bool := is (l.getD p default) && !blankF (cut l i p)

/-- The places between that are ends of a kind. -/
def endsG (l : List Cell) (is : Cell → Bool) (i : Nat) : Nat → Nat → List Int
  | 0, _ => []
  | k + 1, p => if endB l is i p = true then (p : Int) :: endsG l is i k (p + 1) else endsG l is i k (p + 1)
def endsF (l : List Cell) (is : Cell → Bool) (i to : Nat) : List Int := endsG l is i (to - (i + 1)) (i + 1)

theorem endsG_mem {l : List Cell} {is : Cell → Bool} {i : Nat} : ∀ {k p : Nat} {q : Int}, q ∈ endsG l is i k p → ∃ n : Nat, q = n ∧ p ≤ n ∧ n < p + k
  | 0, _, _, h => by simp [endsG] at h
  | k + 1, p, q, h => by
    simp only [endsG] at h
    split at h
    · rcases List.mem_cons.1 h with rfl | h
      · exact ⟨p, rfl, by omega, by omega⟩
      · obtain ⟨n, h1, h2, h3⟩ := endsG_mem h; exact ⟨n, h1, by omega, by omega⟩
    · obtain ⟨n, h1, h2, h3⟩ := endsG_mem h; exact ⟨n, h1, by omega, by omega⟩
theorem endsF_mem {l : List Cell} {is : Cell → Bool} {i to : Nat} {q : Int} (h : q ∈ endsF l is i to) : ∃ n : Nat, q = n ∧ i < n ∧ n < to := by
  obtain ⟨n, h1, h2, h3⟩ := endsG_mem h
  exact ⟨n, h1, by omega, by omega⟩
theorem endsG_len {l : List Cell} {is : Cell → Bool} {i : Nat} : ∀ {k p : Nat}, (endsG l is i k p).length ≤ k
  | 0, _ => by simp [endsG]
  | k + 1, p => by
    simp only [endsG]
    have := endsG_len (l := l) (is := is) (i := i) (k := k) (p := p + 1)
    split <;> simp <;> omega
theorem endsF_len {l : List Cell} {is : Cell → Bool} {i to : Nat} : (endsF l is i to).length ≤ to := by
  have := endsG_len (l := l) (is := is) (i := i) (k := to - (i + 1)) (p := i + 1)
  unfold endsF; omega

theorem c_ends {v isv : MV} {l : List Cell} {i to : Int} (hv : Sl KCell l v) (hi : cellsOf isv = some [isv]) (hd : deepV isv = true) (hQ : Q (.fn f_fill_ends_1 [] [.pimm [.int .i64 i] 0, .pimm [.int .i64 to] 0, .pimm [isv] 0, .pimm [v] 0]) m ls) : Wc ip f_fill_ends [v, .int .i64 i, .int .i64 to, isv] m ls Q := by
  have h1 := hv.cells
  have h2 : deepVs [v] = true := by simp [deepVs, hv.deep]
  have h3 : deepVs [isv] = true := by simp [deepVs, hd]
  refine wc_fn1 rfl fn_fill_ends rfl (by simp [deepVs, hv.deep, hd, deepV]) rfl ?_
  repeat' (first
    | refine z00 ?_ | refine z01 ?_ | refine z02 ?_ | refine z04 ?_ | refine z05 ?_ | refine z08 ?_ | refine zp ?_ | refine z0g ?_ | refine z0h ?_ | refine z0j ?_ | refine z0k ?_
    | refine z0l ?_ | refine z0n ?_ | refine z0o ?_ | refine z0p ?_ | refine z0q ?_ | refine z0r ?_ | refine z0s ?_ | refine z0v ?_ | refine z0z ?_ | refine z12 ?_ | refine z14 ?_
    | refine z15 ?_ | refine z1e ?_ | refine z1f (hk := ?_) | refine z1i ?_ | refine z1j ?_ | refine z1k ?_ | refine z1l ?_ | refine z1m ?_ | refine z1n ?_
    | refine z1o (fun hp => ?_) (fun hp => ?_) | refine z1p (fun hp => ?_) (fun hp => ?_) | refine z1q (fun hp => ?_) (fun hp => ?_) | refine z1r ?_ | refine z1s ?_ | refine z1t ?_
    | refine z1u ?_ | refine z1v ?_ | refine z1w ?_ | refine z1x ?_ | refine z1y ?_ | refine z1z ?_ | refine z20 ?_ | refine z21 ?_ | refine z22 ?_ | refine z23 ?_ | refine z24 ?_
    | refine z25 ?_ | refine z26 ?_ | refine z27 ?_ | refine z28 (fun hp => ?_) (fun hp => ?_) | refine z29 (fun hp => ?_) (fun hp => ?_) | refine z2a ?_ | refine z2b ?_)
  exact fin1_deep (by simp [one, deepV, deepVs]) hQ

/-- A test of cells. -/
def Tests (isf : Nat) (is : Cell → Bool) : Prop := ∀ (c : Cell) (b : Bool) (m : Mem) (ls : List LRec) (Q : MV → Mem → List LRec → Prop), is c = b → Q (.bool b) m ls → Wc ip isf [.agg c.mv] m ls Q
theorem tests_soft : Tests f_fill_soft (·.soft) := fun c b m ls Q h hQ => c_soft (by rw [show c.soft = b from h]; exact hQ)
theorem tests_emergency : Tests f_fill_emergency (·.emerg) := fun c b m ls Q h hQ => c_emergency (by rw [show c.emerg = b from h]; exact hQ)
theorem c_BlankE {l : List Cell} {v : MV} {b : Bool} (hb : blankF l = b) (hv : Sl KCell l v) (hl : l.length ≤ 1000000) (hQ : Q (.bool b) m ls) : Wc ip f_trim_Blank [v] m ls Q := c_Blank hv hl (by rw [hb]; exact hQ)

theorem iter_ends {v : MV} {l : List Cell} {i to : Nat} {is : Cell → Bool} {isf : Nat} (hv : Sl KCell l v) (hl : l.length ≤ 1000000) (hit : to ≤ l.length) (hi : i ≤ l.length) (his : Tests isf is) :
    IterOk ip f_fill_ends_1 [] [.pimm [.int .i64 i] 0, .pimm [.int .i64 to] 0, .pimm [.fn isf [] []] 0, .pimm [v] 0] ((endsF l is i to).map fun p => [.int .i64 p]) := by
  intro J S j m ls hJ0 hJa hY
  refine wc_fn0 rfl fn_fill_ends_1 rfl rfl ?_
  generalize hall : endsF l is i to = all at hY ⊢
  have key : ∀ (k p : Nat) (m : Mem) (ls : List LRec) (done : List Int), p + k = max to (i + 1) → i < p → all = done ++ endsG l is i k p → J done.length m ls →
      Wx ip i_fill_ends_1.nt (.loop (lv [0, 1, 2, 3, 4, 6] 34) fill_ends_1_b0) [(0, .yld j), (1, .pimm [.int .i64 i] 0), (2, .pimm [.int .i64 to] 0), (3, .pimm [.fn isf [] []] 0), (4, .pimm [v] 0), (6, .int .i64 p)] m ls
        (blockK 0 (endK i_fill_ends_1.res fun _ m' ls' => J (all.map fun p => [MV.int .i64 p]).length m' ls' ∨ S m' ls')) := by
    intro k
    induction k with
    | zero =>
      intro p m ls done hp hip hs hJ
      simp only [endsG, List.append_nil] at hs
      refine wx_roundL rfl ?_
      repeat' (first
        | refine z00 ?_ | refine z01 ?_ | refine z02 ?_ | refine z04 ?_ | refine z05 ?_ | refine z08 ?_ | refine zp ?_ | refine z0g ?_ | refine z0h ?_ | refine z0j ?_ | refine z0k ?_
        | refine z0l ?_ | refine z0n ?_ | refine z0o ?_ | refine z0p ?_ | refine z0q ?_ | refine z0r ?_ | refine z0s ?_ | refine z0v ?_ | refine z0z ?_ | refine z12 ?_ | refine z14 ?_
        | refine z15 ?_ | refine z1e ?_ | refine z1f (hk := ?_) | refine z1i ?_ | refine z1j ?_ | refine z1k ?_ | refine z1l ?_ | refine z1m ?_ | refine z1n ?_
        | refine z1o (fun hp => ?_) (fun hp => ?_) | refine z1p (fun hp => ?_) (fun hp => ?_) | refine z1q (fun hp => ?_) (fun hp => ?_) | refine z1r ?_ | refine z1s ?_ | refine z1t ?_
        | refine z1u ?_ | refine z1v ?_ | refine z1w ?_ | refine z1x ?_ | refine z1y ?_ | refine z1z ?_ | refine z20 ?_ | refine z21 ?_ | refine z22 ?_ | refine z23 ?_ | refine z24 ?_
        | refine z25 ?_ | refine z26 ?_ | refine z27 ?_ | refine z28 (fun hp => ?_) (fun hp => ?_) | refine z29 (fun hp => ?_) (fun hp => ?_) | refine z2a ?_ | refine z2b ?_)
      left
      rw [List.length_map, hs]
      exact hJ
    | succ k ih =>
      intro p m ls done hp hip hs hJ
      have hlt : p < l.length := by omega
      have hpt : p < to := by omega
      simp only [endsG] at hs
      refine wx_roundL rfl ?_
      cases hisp : is l[p] with
      | false =>
        have hb : endB l is i p = false := by unfold endB; rw [getD_lt hlt, hisp]; rfl
        rw [if_neg (by rw [hb]; simp)] at hs
        repeat' (first
          | refine wo_call rfl rfl rfl (his _ _ _ _ _ hisp ?_)
          | refine z00 ?_ | refine z01 ?_ | refine z02 ?_ | refine z04 ?_ | refine z05 ?_ | refine z08 ?_ | refine zp ?_ | refine z0g ?_ | refine z0h ?_ | refine z0j ?_ | refine z0k ?_
          | refine z0l ?_ | refine z0n ?_ | refine z0o ?_ | refine z0p ?_ | refine z0q ?_ | refine z0r ?_ | refine z0s ?_ | refine z0v ?_ | refine z0z ?_ | refine z12 ?_ | refine z14 ?_
          | refine z15 ?_ | refine z1e ?_ | refine z1f (hk := ?_) | refine z1i ?_ | refine z1j ?_ | refine z1k ?_ | refine z1l ?_ | refine z1m ?_ | refine z1n ?_
          | refine z1o (fun hp => ?_) (fun hp => ?_) | refine z1p (fun hp => ?_) (fun hp => ?_) | refine z1q (fun hp => ?_) (fun hp => ?_) | refine z1r ?_ | refine z1s ?_ | refine z1t ?_
          | refine z1u ?_ | refine z1v ?_ | refine z1w ?_ | refine z1x ?_ | refine z1y ?_ | refine z1z ?_ | refine z20 ?_ | refine z21 ?_ | refine z22 ?_ | refine z23 ?_ | refine z24 ?_
          | refine z25 ?_ | refine z26 ?_ | refine z27 ?_ | refine z28 (fun hp => ?_) (fun hp => ?_) | refine z29 (fun hp => ?_) (fun hp => ?_) | refine z2a ?_ | refine z2b ?_)
        exact wx_loopL (ih (p + 1) m ls done (by omega) (by omega) hs hJ)
      | true =>
        have hcl := cut_len (l := l) (i := i) (j := p) (by omega) (by omega)
        repeat' (first
          | refine wo_call rfl rfl rfl (his _ _ _ _ _ hisp ?_)
          | refine z00 ?_ | refine z01 ?_ | refine z02 ?_ | refine z04 ?_ | refine z05 ?_ | refine z08 ?_ | refine zp ?_ | refine z0g ?_ | refine z0h ?_ | refine z0j ?_ | refine z0k ?_
          | refine z0l ?_ | refine z0n ?_ | refine z0o ?_ | refine z0p ?_ | refine z0q ?_ | refine z0r ?_ | refine z0s ?_ | refine z0v ?_ | refine z0z ?_ | refine z12 ?_ | refine z14 ?_
          | refine z15 ?_ | refine z1e ?_ | refine z1f (hk := ?_) | refine z1i ?_ | refine z1j ?_ | refine z1k ?_ | refine z1l ?_ | refine z1m ?_ | refine z1n ?_
          | refine z1o (fun hp => ?_) (fun hp => ?_) | refine z1p (fun hp => ?_) (fun hp => ?_) | refine z1q (fun hp => ?_) (fun hp => ?_) | refine z1r ?_ | refine z1s ?_ | refine z1t ?_
          | refine z1u ?_ | refine z1v ?_ | refine z1w ?_ | refine z1x ?_ | refine z1y ?_ | refine z1z ?_ | refine z20 ?_ | refine z21 ?_ | refine z22 ?_ | refine z23 ?_ | refine z24 ?_
          | refine z25 ?_ | refine z26 ?_ | refine z27 ?_ | refine z28 (fun hp => ?_) (fun hp => ?_) | refine z29 (fun hp => ?_) (fun hp => ?_) | refine z2a ?_ | refine z2b ?_)
        refine wo_sliceS rfl hv rfl rfl (by omega) rfl rfl fun v' hv' => ?_
        have hv'' : Sl KCell (cut l i p) v' := hv'
        cases hbl : blankF (cut l i p) with
        | true =>
          have hb : endB l is i p = false := by unfold endB; rw [getD_lt hlt, hisp, hbl]; rfl
          rw [if_neg (by rw [hb]; simp)] at hs
          repeat' (first
            | refine wo_call rfl rfl rfl (c_BlankE hbl hv'' (by omega) ?_)
            | refine z00 ?_ | refine z01 ?_ | refine z02 ?_ | refine z04 ?_ | refine z05 ?_ | refine z08 ?_ | refine zp ?_ | refine z0g ?_ | refine z0h ?_ | refine z0j ?_ | refine z0k ?_
            | refine z0l ?_ | refine z0n ?_ | refine z0o ?_ | refine z0p ?_ | refine z0q ?_ | refine z0r ?_ | refine z0s ?_ | refine z0v ?_ | refine z0z ?_ | refine z12 ?_ | refine z14 ?_
            | refine z15 ?_ | refine z1e ?_ | refine z1f (hk := ?_) | refine z1i ?_ | refine z1j ?_ | refine z1k ?_ | refine z1l ?_ | refine z1m ?_ | refine z1n ?_
            | refine z1o (fun hp => ?_) (fun hp => ?_) | refine z1p (fun hp => ?_) (fun hp => ?_) | refine z1q (fun hp => ?_) (fun hp => ?_) | refine z1r ?_ | refine z1s ?_ | refine z1t ?_
            | refine z1u ?_ | refine z1v ?_ | refine z1w ?_ | refine z1x ?_ | refine z1y ?_ | refine z1z ?_ | refine z20 ?_ | refine z21 ?_ | refine z22 ?_ | refine z23 ?_ | refine z24 ?_
            | refine z25 ?_ | refine z26 ?_ | refine z27 ?_ | refine z28 (fun hp => ?_) (fun hp => ?_) | refine z29 (fun hp => ?_) (fun hp => ?_) | refine z2a ?_ | refine z2b ?_)
          exact wx_loopL (ih (p + 1) m ls done (by omega) (by omega) hs hJ)
        | false =>
          have hb : endB l is i p = true := by unfold endB; rw [getD_lt hlt, hisp, hbl]; rfl
          rw [if_pos hb] at hs
          have hget : (all.map fun p => [MV.int .i64 p])[done.length]? = some [.int .i64 p] := by
            rw [hs, List.getElem?_map, List.getElem?_append_right (Nat.le_refl _)]; simp
          have hnx : ∀ (m : Mem) (ls : List LRec), J (done.length + 1) m ls → Wx ip i_fill_ends_1.nt (.loop (lv [0, 1, 2, 3, 4, 6] 34) fill_ends_1_b0) [(0, .yld j), (1, .pimm [.int .i64 i] 0), (2, .pimm [.int .i64 to] 0), (3, .pimm [.fn isf [] []] 0), (4, .pimm [v] 0), (6, .int .i64 ((p : Int) + 1))] m ls
              (blockK 0 (endK i_fill_ends_1.res fun _ m' ls' => J (all.map fun p => [MV.int .i64 p]).length m' ls' ∨ S m' ls')) := fun m ls hJ =>
            ih (p + 1) m ls (done ++ [(p : Int)]) (by omega) (by omega) (by rw [hs]; simp) (by simpa using hJ)
          repeat' (first
            | refine wo_call rfl rfl rfl (c_BlankE hbl hv'' (by omega) ?_)
            | refine z00 ?_ | refine z01 ?_ | refine z02 ?_ | refine z04 ?_ | refine z05 ?_ | refine z08 ?_ | refine zp ?_ | refine z0g ?_ | refine z0h ?_ | refine z0j ?_ | refine z0k ?_
            | refine z0l ?_ | refine z0n ?_ | refine z0o ?_ | refine z0p ?_ | refine z0q ?_ | refine z0r ?_ | refine z0s ?_ | refine z0v ?_ | refine z0z ?_ | refine z12 ?_ | refine z14 ?_
            | refine z15 ?_ | refine z1e ?_ | refine z1f (hk := ?_) | refine z1i ?_ | refine z1j ?_ | refine z1k ?_ | refine z1l ?_ | refine z1m ?_ | refine z1n ?_
            | refine z1o (fun hp => ?_) (fun hp => ?_) | refine z1p (fun hp => ?_) (fun hp => ?_) | refine z1q (fun hp => ?_) (fun hp => ?_) | refine z1r ?_ | refine z1s ?_ | refine z1t ?_
            | refine z1u ?_ | refine z1v ?_ | refine z1w ?_ | refine z1x ?_ | refine z1y ?_ | refine z1z ?_ | refine z20 ?_ | refine z21 ?_ | refine z22 ?_ | refine z23 ?_ | refine z24 ?_
            | refine z25 ?_ | refine z26 ?_ | refine z27 ?_ | refine z28 (fun hp => ?_) (fun hp => ?_) | refine z29 (fun hp => ?_) (fun hp => ?_) | refine z2a ?_ | refine z2b ?_)
          refine wo_yld rfl rfl rfl ((hY _ _ _ _ hget hJ).mono ?_)
          rintro u m' ls' (⟨rfl, hJ'⟩ | ⟨rfl, hS⟩)
          · repeat' (first
              | refine z00 ?_ | refine z01 ?_ | refine z02 ?_ | refine z04 ?_ | refine z05 ?_ | refine z08 ?_ | refine zp ?_ | refine z0g ?_ | refine z0h ?_ | refine z0j ?_ | refine z0k ?_
              | refine z0l ?_ | refine z0n ?_ | refine z0o ?_ | refine z0p ?_ | refine z0q ?_ | refine z0r ?_ | refine z0s ?_ | refine z0v ?_ | refine z0z ?_ | refine z12 ?_ | refine z14 ?_
              | refine z15 ?_ | refine z1e ?_ | refine z1f (hk := ?_) | refine z1i ?_ | refine z1j ?_ | refine z1k ?_ | refine z1l ?_ | refine z1m ?_ | refine z1n ?_
              | refine z1o (fun hp => ?_) (fun hp => ?_) | refine z1p (fun hp => ?_) (fun hp => ?_) | refine z1q (fun hp => ?_) (fun hp => ?_) | refine z1r ?_ | refine z1s ?_ | refine z1t ?_
              | refine z1u ?_ | refine z1v ?_ | refine z1w ?_ | refine z1x ?_ | refine z1y ?_ | refine z1z ?_ | refine z20 ?_ | refine z21 ?_ | refine z22 ?_ | refine z23 ?_ | refine z24 ?_
              | refine z25 ?_ | refine z26 ?_ | refine z27 ?_ | refine z28 (fun hp => ?_) (fun hp => ?_) | refine z29 (fun hp => ?_) (fun hp => ?_) | refine z2a ?_ | refine z2b ?_)
            exact wx_loopL (hnx _ _ hJ')
          · repeat' (first
              | refine z00 ?_ | refine z01 ?_ | refine z02 ?_ | refine z04 ?_ | refine z05 ?_ | refine z08 ?_ | refine zp ?_ | refine z0g ?_ | refine z0h ?_ | refine z0j ?_ | refine z0k ?_
              | refine z0l ?_ | refine z0n ?_ | refine z0o ?_ | refine z0p ?_ | refine z0q ?_ | refine z0r ?_ | refine z0s ?_ | refine z0v ?_ | refine z0z ?_ | refine z12 ?_ | refine z14 ?_
              | refine z15 ?_ | refine z1e ?_ | refine z1f (hk := ?_) | refine z1i ?_ | refine z1j ?_ | refine z1k ?_ | refine z1l ?_ | refine z1m ?_ | refine z1n ?_
              | refine z1o (fun hp => ?_) (fun hp => ?_) | refine z1p (fun hp => ?_) (fun hp => ?_) | refine z1q (fun hp => ?_) (fun hp => ?_) | refine z1r ?_ | refine z1s ?_ | refine z1t ?_
              | refine z1u ?_ | refine z1v ?_ | refine z1w ?_ | refine z1x ?_ | refine z1y ?_ | refine z1z ?_ | refine z20 ?_ | refine z21 ?_ | refine z22 ?_ | refine z23 ?_ | refine z24 ?_
              | refine z25 ?_ | refine z26 ?_ | refine z27 ?_ | refine z28 (fun hp => ?_) (fun hp => ?_) | refine z29 (fun hp => ?_) (fun hp => ?_) | refine z2a ?_ | refine z2b ?_)
            exact .inr hS
  repeat' (first
    | refine z00 ?_ | refine z01 ?_ | refine z02 ?_ | refine z04 ?_ | refine z05 ?_ | refine z08 ?_ | refine zp ?_ | refine z0g ?_ | refine z0h ?_ | refine z0j ?_ | refine z0k ?_
    | refine z0l ?_ | refine z0n ?_ | refine z0o ?_ | refine z0p ?_ | refine z0q ?_ | refine z0r ?_ | refine z0s ?_ | refine z0v ?_ | refine z0z ?_ | refine z12 ?_ | refine z14 ?_
    | refine z15 ?_ | refine z1e ?_ | refine z1f (hk := ?_) | refine z1i ?_ | refine z1j ?_ | refine z1k ?_ | refine z1l ?_ | refine z1m ?_ | refine z1n ?_
    | refine z1o (fun hp => ?_) (fun hp => ?_) | refine z1p (fun hp => ?_) (fun hp => ?_) | refine z1q (fun hp => ?_) (fun hp => ?_) | refine z1r ?_ | refine z1s ?_ | refine z1t ?_
    | refine z1u ?_ | refine z1v ?_ | refine z1w ?_ | refine z1x ?_ | refine z1y ?_ | refine z1z ?_ | refine z20 ?_ | refine z21 ?_ | refine z22 ?_ | refine z23 ?_ | refine z24 ?_
    | refine z25 ?_ | refine z26 ?_ | refine z27 ?_ | refine z28 (fun hp => ?_) (fun hp => ?_) | refine z29 (fun hp => ?_) (fun hp => ?_) | refine z2a ?_ | refine z2b ?_)
  refine wx_loopL ?_
  refine key (to - (i + 1)) (i + 1) m ls [] (by omega) (by omega) ?_ hJ0
  rw [← hall]; rfl

/-- All that one goes over. -/
theorem c_list {xs : List Int} {g : Nat} {b : List MV} (hd : deepVs b = true) (hit : IterOk ip g [] b (xs.map fun p => [.int .i64 p])) (hl : xs.length ≤ 1000000)
    (hQ : ∀ v' m', Hold KI64 m.length xs m' v' → (∀ (i : Nat) k, m[i]? = some k → m'[i]? = some k) → m.length ≤ m'.length → Q v' m' ls) : Wc ip f_fill_list [.fn g [] b] m ls Q := by
  refine wc_fn2 rfl fn_fill_list rfl (by simp [deepVs, deepV, hd]) rfl ?_
  repeat' (first
    | refine z00 ?_ | refine z01 ?_ | refine z02 ?_ | refine z04 ?_ | refine z05 ?_ | refine z08 ?_ | refine zp ?_ | refine z0g ?_ | refine z0h ?_ | refine z0j ?_ | refine z0k ?_
    | refine z0l ?_ | refine z0n ?_ | refine z0o ?_ | refine z0p ?_ | refine z0q ?_ | refine z0r ?_ | refine z0s ?_ | refine z0v ?_ | refine z0z ?_ | refine z12 ?_ | refine z14 ?_
    | refine z15 ?_ | refine z1e ?_ | refine z1f (hk := ?_) | refine z1i ?_ | refine z1j ?_ | refine z1k ?_ | refine z1l ?_ | refine z1m ?_ | refine z1n ?_
    | refine z1o (fun hp => ?_) (fun hp => ?_) | refine z1p (fun hp => ?_) (fun hp => ?_) | refine z1q (fun hp => ?_) (fun hp => ?_) | refine z1r ?_ | refine z1s ?_ | refine z1t ?_
    | refine z1u ?_ | refine z1v ?_ | refine z1w ?_ | refine z1x ?_ | refine z1y ?_ | refine z1z ?_ | refine z20 ?_ | refine z21 ?_ | refine z22 ?_ | refine z23 ?_ | refine z24 ?_
    | refine z25 ?_ | refine z26 ?_ | refine z27 ?_ | refine z28 (fun hp => ?_) (fun hp => ?_) | refine z29 (fun hp => ?_) (fun hp => ?_) | refine z2a ?_ | refine z2b ?_)
  refine wx_over (K := fun i m' => ∃ u d, m'[0]? = some (⟨[u], 0, d⟩ : Blk) ∧ Hold KI64 1 (xs.take i) m' u) (E := fun e m' => False) rfl hit rfl ?_ ?_ ?_ ?_ ?_ ?_
  · intro y hy
    obtain ⟨i, _, rfl⟩ := List.mem_map.1 hy
    rfl
  · exact ⟨_, _, rfl, .nil⟩
  · rintro i m1 k ⟨u, d, h1, h2⟩
    exact ⟨u, d, get_app h1 k, h2.push k⟩
  · rintro i y m1 ls1 hy ⟨u, d, h1, h2⟩
    obtain ⟨n, hn, rfl⟩ : ∃ n, xs[i]? = some n ∧ y = [.int .i64 n] := by
      rw [List.getElem?_map] at hy
      cases hq' : xs[i]? with
      | none => rw [hq'] at hy; cases hy
      | some p => rw [hq'] at hy; simp at hy; exact ⟨p, rfl, hy.symm⟩
    have hil := (List.getElem?_eq_some_iff.1 hn).1
    have hie := (List.getElem?_eq_some_iff.1 hn).2
    have htk : xs.take (i + 1) = xs.take i ++ [n] := by rw [List.take_succ_eq_append_getElem hil, hie]
    have hm1 := get_lt h1
    obtain ⟨v2, m2, a1, a2, a3, a4⟩ := h2.add1 (bytes := 8) (sz := 1) (y := n) (cs := [.int .i64 n]) (kc := some 1) (by omega) (by simp; omega) rfl rfl
    have b1 : m2[0]? = some ⟨[u], 0, d⟩ := by rw [a3 0 (by omega)]; exact h1
    have b4 := a2.cells
    repeat' (first
      | refine z00 ?_ | refine z01 ?_ | refine z02 ?_ | refine z04 ?_ | refine z05 ?_ | refine z08 ?_ | refine zp ?_ | refine z0g ?_ | refine z0h ?_ | refine z0j ?_ | refine z0k ?_
      | refine z0l ?_ | refine z0n ?_ | refine z0o ?_ | refine z0p ?_ | refine z0q ?_ | refine z0r ?_ | refine z0s ?_ | refine z0v ?_ | refine z0z ?_ | refine z12 ?_ | refine z14 ?_
      | refine z15 ?_ | refine z1e ?_ | refine z1f (hk := ?_) | refine z1i ?_ | refine z1j ?_ | refine z1k ?_ | refine z1l ?_ | refine z1m ?_ | refine z1n ?_
      | refine z1o (fun hp => ?_) (fun hp => ?_) | refine z1p (fun hp => ?_) (fun hp => ?_) | refine z1q (fun hp => ?_) (fun hp => ?_) | refine z1r ?_ | refine z1s ?_ | refine z1t ?_
      | refine z1u ?_ | refine z1v ?_ | refine z1w ?_ | refine z1x ?_ | refine z1y ?_ | refine z1z ?_ | refine z20 ?_ | refine z21 ?_ | refine z22 ?_ | refine z23 ?_ | refine z24 ?_
      | refine z25 ?_ | refine z26 ?_ | refine z27 ?_ | refine z28 (fun hp => ?_) (fun hp => ?_) | refine z29 (fun hp => ?_) (fun hp => ?_) | refine z2a ?_ | refine z2b ?_)
    refine ⟨rfl, rfl, fun ls2 => ?_⟩
    repeat' (first
      | refine wo_app rfl rfl a1 rfl ?_
      | refine z00 ?_ | refine z01 ?_ | refine z02 ?_ | refine z04 ?_ | refine z05 ?_ | refine z08 ?_ | refine zp ?_ | refine z0g ?_ | refine z0h ?_ | refine z0j ?_ | refine z0k ?_
      | refine z0l ?_ | refine z0n ?_ | refine z0o ?_ | refine z0p ?_ | refine z0q ?_ | refine z0r ?_ | refine z0s ?_ | refine z0v ?_ | refine z0z ?_ | refine z12 ?_ | refine z14 ?_
      | refine z15 ?_ | refine z1e ?_ | refine z1f (hk := ?_) | refine z1i ?_ | refine z1j ?_ | refine z1k ?_ | refine z1l ?_ | refine z1m ?_ | refine z1n ?_
      | refine z1o (fun hp => ?_) (fun hp => ?_) | refine z1p (fun hp => ?_) (fun hp => ?_) | refine z1q (fun hp => ?_) (fun hp => ?_) | refine z1r ?_ | refine z1s ?_ | refine z1t ?_
      | refine z1u ?_ | refine z1v ?_ | refine z1w ?_ | refine z1x ?_ | refine z1y ?_ | refine z1z ?_ | refine z20 ?_ | refine z21 ?_ | refine z22 ?_ | refine z23 ?_ | refine z24 ?_
      | refine z25 ?_ | refine z26 ?_ | refine z27 ?_ | refine z28 (fun hp => ?_) (fun hp => ?_) | refine z29 (fun hp => ?_) (fun hp => ?_) | refine z2a ?_ | refine z2b ?_)
    refine ⟨⟨[], by simp⟩, _, _, get_set_self b1 _, ?_⟩
    rw [htk]
    exact a2.set (i := 0) (by omega) _
  · rintro m1 junk ⟨u, d, h1, h2⟩
    rw [List.length_map, List.take_length] at h2
    repeat' (first
      | refine z00 ?_ | refine z01 ?_ | refine z02 ?_ | refine z04 ?_ | refine z05 ?_ | refine z08 ?_ | refine zp ?_ | refine z0g ?_ | refine z0h ?_ | refine z0j ?_ | refine z0k ?_
      | refine z0l ?_ | refine z0n ?_ | refine z0o ?_ | refine z0p ?_ | refine z0q ?_ | refine z0r ?_ | refine z0s ?_ | refine z0v ?_ | refine z0z ?_ | refine z12 ?_ | refine z14 ?_
      | refine z15 ?_ | refine z1e ?_ | refine z1f (hk := ?_) | refine z1i ?_ | refine z1j ?_ | refine z1k ?_ | refine z1l ?_ | refine z1m ?_ | refine z1n ?_
      | refine z1o (fun hp => ?_) (fun hp => ?_) | refine z1p (fun hp => ?_) (fun hp => ?_) | refine z1q (fun hp => ?_) (fun hp => ?_) | refine z1r ?_ | refine z1s ?_ | refine z1t ?_
      | refine z1u ?_ | refine z1v ?_ | refine z1w ?_ | refine z1x ?_ | refine z1y ?_ | refine z1z ?_ | refine z20 ?_ | refine z21 ?_ | refine z22 ?_ | refine z23 ?_ | refine z24 ?_
      | refine z25 ?_ | refine z26 ?_ | refine z27 ?_ | refine z28 (fun hp => ?_) (fun hp => ?_) | refine z29 (fun hp => ?_) (fun hp => ?_) | refine z2a ?_ | refine z2b ?_)
    exact h2.fin2 hQ
  · rintro e m1 junk _ h; exact h.elim

/-- The ends from a place on. -/
def softs (l : List Cell) (i : Nat) : List Int := endsF l (·.soft) i (lastF l i).1 ++ [((lastF l i).1 : Int)]
def emergs (l : List Cell) (i : Nat) : List Int := endsF l (·.emerg) i (lastF l i).1

theorem c_Ends {l : List Cell} {v : MV} {i : Nat} (hv : Sl KCell l v) (hl : l.length ≤ 1000000) (hi : i ≤ l.length) (h1 : l.any badTab = true → Q (.tup [.nils, .nils, .int .i64 2]) m ls)
    (h2 : l.any badTab = false → ∀ a b, Sl KI64 (softs l i) a → Sl KI64 (emergs l i) b → Q (.tup [a, b, .int .i64 0]) m ls) : Wc ip f_fill_Ends [v, .int .i64 i] m ls Q := by
  refine wc_fn3d rfl fn_fill_Ends rfl (by simp [deepVs, hv.deep, deepV]) rfl ?_
  cases hb : l.any badTab with
  | true =>
    repeat' (first
      | refine wo_call rfl rfl rfl (c_mayE hb hv hl hi ?_)
      | refine z00 ?_ | refine z01 ?_ | refine z02 ?_ | refine z04 ?_ | refine z05 ?_ | refine z08 ?_ | refine zp ?_ | refine z0g ?_ | refine z0h ?_ | refine z0j ?_ | refine z0k ?_
      | refine z0l ?_ | refine z0n ?_ | refine z0o ?_ | refine z0p ?_ | refine z0q ?_ | refine z0r ?_ | refine z0s ?_ | refine z0v ?_ | refine z0z ?_ | refine z12 ?_ | refine z14 ?_
      | refine z15 ?_ | refine z1e ?_ | refine z1f (hk := ?_) | refine z1i ?_ | refine z1j ?_ | refine z1k ?_ | refine z1l ?_ | refine z1m ?_ | refine z1n ?_
      | refine z1o (fun hp => ?_) (fun hp => ?_) | refine z1p (fun hp => ?_) (fun hp => ?_) | refine z1q (fun hp => ?_) (fun hp => ?_) | refine z1r ?_ | refine z1s ?_ | refine z1t ?_
      | refine z1u ?_ | refine z1v ?_ | refine z1w ?_ | refine z1x ?_ | refine z1y ?_ | refine z1z ?_ | refine z20 ?_ | refine z21 ?_ | refine z22 ?_ | refine z23 ?_ | refine z24 ?_
      | refine z25 ?_ | refine z26 ?_ | refine z27 ?_ | refine z28 (fun hp => ?_) (fun hp => ?_) | refine z29 (fun hp => ?_) (fun hp => ?_) | refine z2a ?_ | refine z2b ?_)
    exact fin_cln rfl (h1 hb)
  | false =>
    have hle := lastF_le hi
    have hdv : deepVs [v] = true := by simp [deepVs, hv.deep]
    repeat' (first
      | refine wo_call rfl rfl rfl (c_mayE hb hv hl hi ?_)
      | refine wo_call rfl rfl rfl (c_last hv hl hi ?_)
      | refine wo_call rfl rfl rfl (c_ends hv rfl rfl ?_)
      | refine z00 ?_ | refine z01 ?_ | refine z02 ?_ | refine z04 ?_ | refine z05 ?_ | refine z08 ?_ | refine zp ?_ | refine z0g ?_ | refine z0h ?_ | refine z0j ?_ | refine z0k ?_
      | refine z0l ?_ | refine z0n ?_ | refine z0o ?_ | refine z0p ?_ | refine z0q ?_ | refine z0r ?_ | refine z0s ?_ | refine z0v ?_ | refine z0z ?_ | refine z12 ?_ | refine z14 ?_
      | refine z15 ?_ | refine z1e ?_ | refine z1f (hk := ?_) | refine z1i ?_ | refine z1j ?_ | refine z1k ?_ | refine z1l ?_ | refine z1m ?_ | refine z1n ?_
      | refine z1o (fun hp => ?_) (fun hp => ?_) | refine z1p (fun hp => ?_) (fun hp => ?_) | refine z1q (fun hp => ?_) (fun hp => ?_) | refine z1r ?_ | refine z1s ?_ | refine z1t ?_
      | refine z1u ?_ | refine z1v ?_ | refine z1w ?_ | refine z1x ?_ | refine z1y ?_ | refine z1z ?_ | refine z20 ?_ | refine z21 ?_ | refine z22 ?_ | refine z23 ?_ | refine z24 ?_
      | refine z25 ?_ | refine z26 ?_ | refine z27 ?_ | refine z28 (fun hp => ?_) (fun hp => ?_) | refine z29 (fun hp => ?_) (fun hp => ?_) | refine z2a ?_ | refine z2b ?_)
    refine wo_call rfl rfl rfl (c_list (by simp [deepVs, deepV, hdv]) (iter_ends hv hl (by omega) hi tests_soft) (by have := endsF_len (l := l) (is := (·.soft)) (i := i) (to := (lastF l i).1); omega) ?_)
    intro a1 m1 hA1 hs1 hm1
    have hlen := endsF_len (l := l) (is := (·.soft)) (i := i) (to := (lastF l i).1)
    obtain ⟨a2, m2, b1, b2, b3, b4⟩ := hA1.add1 (bytes := 8) (sz := 1) (y := ((lastF l i).1 : Int)) (cs := [.int .i64 ((lastF l i).1 : Int)]) (kc := some 1) (by omega) (by omega) rfl rfl
    repeat' (first
      | refine wo_app rfl rfl b1 rfl ?_
      | refine wo_call rfl rfl rfl (c_ends hv rfl rfl ?_)
      | refine z00 ?_ | refine z01 ?_ | refine z02 ?_ | refine z04 ?_ | refine z05 ?_ | refine z08 ?_ | refine zp ?_ | refine z0g ?_ | refine z0h ?_ | refine z0j ?_ | refine z0k ?_
      | refine z0l ?_ | refine z0n ?_ | refine z0o ?_ | refine z0p ?_ | refine z0q ?_ | refine z0r ?_ | refine z0s ?_ | refine z0v ?_ | refine z0z ?_ | refine z12 ?_ | refine z14 ?_
      | refine z15 ?_ | refine z1e ?_ | refine z1f (hk := ?_) | refine z1i ?_ | refine z1j ?_ | refine z1k ?_ | refine z1l ?_ | refine z1m ?_ | refine z1n ?_
      | refine z1o (fun hp => ?_) (fun hp => ?_) | refine z1p (fun hp => ?_) (fun hp => ?_) | refine z1q (fun hp => ?_) (fun hp => ?_) | refine z1r ?_ | refine z1s ?_ | refine z1t ?_
      | refine z1u ?_ | refine z1v ?_ | refine z1w ?_ | refine z1x ?_ | refine z1y ?_ | refine z1z ?_ | refine z20 ?_ | refine z21 ?_ | refine z22 ?_ | refine z23 ?_ | refine z24 ?_
      | refine z25 ?_ | refine z26 ?_ | refine z27 ?_ | refine z28 (fun hp => ?_) (fun hp => ?_) | refine z29 (fun hp => ?_) (fun hp => ?_) | refine z2a ?_ | refine z2b ?_)
    refine wo_call rfl rfl rfl (c_list (by simp [deepVs, deepV, hdv]) (iter_ends hv hl (by omega) hi tests_emergency) (by have := endsF_len (l := l) (is := (·.emerg)) (i := i) (to := (lastF l i).1); omega) ?_)
    intro a3 m3 hA3 hs3 hm3
    repeat' (first
      | refine z00 ?_ | refine z01 ?_ | refine z02 ?_ | refine z04 ?_ | refine z05 ?_ | refine z08 ?_ | refine zp ?_ | refine z0g ?_ | refine z0h ?_ | refine z0j ?_ | refine z0k ?_
      | refine z0l ?_ | refine z0n ?_ | refine z0o ?_ | refine z0p ?_ | refine z0q ?_ | refine z0r ?_ | refine z0s ?_ | refine z0v ?_ | refine z0z ?_ | refine z12 ?_ | refine z14 ?_
      | refine z15 ?_ | refine z1e ?_ | refine z1f (hk := ?_) | refine z1i ?_ | refine z1j ?_ | refine z1k ?_ | refine z1l ?_ | refine z1m ?_ | refine z1n ?_
      | refine z1o (fun hp => ?_) (fun hp => ?_) | refine z1p (fun hp => ?_) (fun hp => ?_) | refine z1q (fun hp => ?_) (fun hp => ?_) | refine z1r ?_ | refine z1s ?_ | refine z1t ?_
      | refine z1u ?_ | refine z1v ?_ | refine z1w ?_ | refine z1x ?_ | refine z1y ?_ | refine z1z ?_ | refine z20 ?_ | refine z21 ?_ | refine z22 ?_ | refine z23 ?_ | refine z24 ?_
      | refine z25 ?_ | refine z26 ?_ | refine z27 ?_ | refine z28 (fun hp => ?_) (fun hp => ?_) | refine z29 (fun hp => ?_) (fun hp => ?_) | refine z2a ?_ | refine z2b ?_)
    have hA2 : Own KI64 (softs l i) m3 a2 := (b2.same (Nat.le_refl _) fun i k _ h => hs3 i k h).own
    exact fin_own3 hA2 hA3.own rfl fun v' w' hv' hw' => h2 hb _ _ hv' hw'

end
end Go.Proofs.Ytnekgoanadbmmaa
