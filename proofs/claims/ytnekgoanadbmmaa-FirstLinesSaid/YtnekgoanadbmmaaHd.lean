/-
The document's lines: ref14.
-/
import Derived.Test.YtnekgoanadbmmaaHc
import Derived.Test.YtnekgoanadbmmaaFe
namespace Go.Proofs.Ytnekgoanadbmmaa
open Go.Mini
set_option linter.unusedSimpArgs false
set_option linter.unusedVariables false
set_option maxHeartbeats 4000000

section
variable {m : Mem} {ls : List LRec} {Q : MV → Mem → List LRec → Prop}

theorem c_May14 {l : List Cell} {v : MV} {i : Nat} {b : Bool} (hb : l.any badTab = b) (hv : Sl KCell l v) (hl : l.length ≤ 1000000) (hi : i ≤ l.length) (hQ : Q (.bool (!b)) m ls) : Wc ip f_ref14_May [v, .int .i64 i] m ls Q := by
  refine wc_fn3d rfl fn_ref14_May rfl (by simp [deepVs, hv.deep, deepV]) rfl ?_
  have key : ∀ (k j : Nat), j + k = l.length → (l.take j).any badTab = false → ∀ {R : Ex → As → Mem → List LRec → Prop}, (l.any badTab = true → R .ret [(4, .bool false)] [] []) → (l.any badTab = false → R (.exit 0) [(0, v), (1, .int .i64 i)] [] []) →
      Wx ip i_ref14_May.nt (.loop (lv [0, 1, 5] 34) ref14_May_b0) [(0, v), (1, .int .i64 i), (5, .int .i64 j)] [] [] R := by
    intro k
    induction k with
    | zero =>
      intro j hk hd R h1 h2
      refine wx_roundL rfl ?_
      repeat' (first
        | refine wx_exitL [0, 1] ?_
        | refine z00 ?_ | refine z01 ?_ | refine z02 ?_ | refine z04 ?_ | refine z05 ?_ | refine z08 ?_ | refine zp ?_ | refine z0g ?_ | refine z0h ?_ | refine z0j ?_ | refine z0k ?_
        | refine z0l ?_ | refine z0n ?_ | refine z0o ?_ | refine z0p ?_ | refine z0q ?_ | refine z0r ?_ | refine z0s ?_ | refine z0v ?_ | refine z0z ?_ | refine z12 ?_ | refine z14 ?_
        | refine z15 ?_ | refine z1e ?_ | refine z1f (hk := ?_) | refine z1i ?_ | refine z1j ?_ | refine z1k ?_ | refine z1l ?_ | refine z1m ?_ | refine z1n ?_
        | refine z1o (fun hp => ?_) (fun hp => ?_) | refine z1p (fun hp => ?_) (fun hp => ?_) | refine z1q (fun hp => ?_) (fun hp => ?_) | refine z1r ?_ | refine z1s ?_ | refine z1t ?_
        | refine z1u ?_ | refine z1v ?_ | refine z1w ?_ | refine z1x ?_ | refine z1y ?_ | refine z1z ?_ | refine z20 ?_ | refine z21 ?_ | refine z22 ?_ | refine z23 ?_ | refine z24 ?_
        | refine z25 ?_ | refine z26 ?_ | refine z27 ?_ | refine z28 (fun hp => ?_) (fun hp => ?_) | refine z29 (fun hp => ?_) (fun hp => ?_) | refine z2a ?_ | refine z2b ?_)
      exact h2 (by rw [List.take_of_length_le (by omega)] at hd; exact hd)
    | succ k ih =>
      intro j hk hd R h1 h2
      have hlt : j < l.length := by omega
      have hany : (l.take (j + 1)).any badTab = badTab l[j] := by
        rw [List.take_succ_eq_append_getElem hlt, List.any_append, hd]; simp
      refine wx_roundL rfl ?_
      by_cases hbt : l[j].kind = 4 ∧ l[j].adv < 0
      · have hall : l.any badTab = true := by
          rw [List.any_eq_true]
          exact ⟨l[j], List.getElem_mem hlt, by simp [badTab, hbt]⟩
        have ha := hbt.1
        have hb2 := hbt.2
        repeat' (first
          | refine wx_retL [4] ?_
          | refine wo_guardDT rfl ha rfl ?_
          | refine wx_ifDT rfl hb2 ?_
          | refine z00 ?_ | refine z01 ?_ | refine z02 ?_ | refine z04 ?_ | refine z05 ?_ | refine z08 ?_ | refine zp ?_ | refine z0g ?_ | refine z0h ?_ | refine z0j ?_ | refine z0k ?_
          | refine z0l ?_ | refine z0n ?_ | refine z0o ?_ | refine z0p ?_ | refine z0q ?_ | refine z0r ?_ | refine z0s ?_ | refine z0v ?_ | refine z0z ?_ | refine z12 ?_ | refine z14 ?_
          | refine z15 ?_ | refine z1e ?_ | refine z1f (hk := ?_) | refine z1i ?_ | refine z1j ?_ | refine z1k ?_ | refine z1l ?_ | refine z1m ?_ | refine z1n ?_
          | refine z1o (fun hp => ?_) (fun hp => ?_) | refine z1p (fun hp => ?_) (fun hp => ?_) | refine z1q (fun hp => ?_) (fun hp => ?_) | refine z1r ?_ | refine z1s ?_ | refine z1t ?_
          | refine z1u ?_ | refine z1v ?_ | refine z1w ?_ | refine z1x ?_ | refine z1y ?_ | refine z1z ?_ | refine z20 ?_ | refine z21 ?_ | refine z22 ?_ | refine z23 ?_ | refine z24 ?_
          | refine z25 ?_ | refine z26 ?_ | refine z27 ?_ | refine z28 (fun hp => ?_) (fun hp => ?_) | refine z29 (fun hp => ?_) (fun hp => ?_) | refine z2a ?_ | refine z2b ?_)
        exact h1 hall
      · have hbf : badTab l[j] = false := by simp only [badTab, decide_eq_false_iff_not]; exact hbt
        by_cases ha : l[j].kind = 4
        · have hb2 : ¬ l[j].adv < 0 := fun c => hbt ⟨ha, c⟩
          repeat' (first
            | refine wo_guardDT rfl ha rfl ?_
            | refine wx_ifDF rfl hb2 ?_
            | refine z00 ?_ | refine z01 ?_ | refine z02 ?_ | refine z04 ?_ | refine z05 ?_ | refine z08 ?_ | refine zp ?_ | refine z0g ?_ | refine z0h ?_ | refine z0j ?_ | refine z0k ?_
            | refine z0l ?_ | refine z0n ?_ | refine z0o ?_ | refine z0p ?_ | refine z0q ?_ | refine z0r ?_ | refine z0s ?_ | refine z0v ?_ | refine z0z ?_ | refine z12 ?_ | refine z14 ?_
            | refine z15 ?_ | refine z1e ?_ | refine z1f (hk := ?_) | refine z1i ?_ | refine z1j ?_ | refine z1k ?_ | refine z1l ?_ | refine z1m ?_ | refine z1n ?_
            | refine z1o (fun hp => ?_) (fun hp => ?_) | refine z1p (fun hp => ?_) (fun hp => ?_) | refine z1q (fun hp => ?_) (fun hp => ?_) | refine z1r ?_ | refine z1s ?_ | refine z1t ?_
            | refine z1u ?_ | refine z1v ?_ | refine z1w ?_ | refine z1x ?_ | refine z1y ?_ | refine z1z ?_ | refine z20 ?_ | refine z21 ?_ | refine z22 ?_ | refine z23 ?_ | refine z24 ?_
            | refine z25 ?_ | refine z26 ?_ | refine z27 ?_ | refine z28 (fun hp => ?_) (fun hp => ?_) | refine z29 (fun hp => ?_) (fun hp => ?_) | refine z2a ?_ | refine z2b ?_)
          exact wx_loopL (ih (j + 1) (by omega) (by rw [hany, hbf]) h1 h2)
        · repeat' (first
            | refine wo_guardDF rfl ha rfl ?_
            | refine z00 ?_ | refine z01 ?_ | refine z02 ?_ | refine z04 ?_ | refine z05 ?_ | refine z08 ?_ | refine zp ?_ | refine z0g ?_ | refine z0h ?_ | refine z0j ?_ | refine z0k ?_
            | refine z0l ?_ | refine z0n ?_ | refine z0o ?_ | refine z0p ?_ | refine z0q ?_ | refine z0r ?_ | refine z0s ?_ | refine z0v ?_ | refine z0z ?_ | refine z12 ?_ | refine z14 ?_
            | refine z15 ?_ | refine z1e ?_ | refine z1f (hk := ?_) | refine z1i ?_ | refine z1j ?_ | refine z1k ?_ | refine z1l ?_ | refine z1m ?_ | refine z1n ?_
            | refine z1o (fun hp => ?_) (fun hp => ?_) | refine z1p (fun hp => ?_) (fun hp => ?_) | refine z1q (fun hp => ?_) (fun hp => ?_) | refine z1r ?_ | refine z1s ?_ | refine z1t ?_
            | refine z1u ?_ | refine z1v ?_ | refine z1w ?_ | refine z1x ?_ | refine z1y ?_ | refine z1z ?_ | refine z20 ?_ | refine z21 ?_ | refine z22 ?_ | refine z23 ?_ | refine z24 ?_
            | refine z25 ?_ | refine z26 ?_ | refine z27 ?_ | refine z28 (fun hp => ?_) (fun hp => ?_) | refine z29 (fun hp => ?_) (fun hp => ?_) | refine z2a ?_ | refine z2b ?_)
          exact wx_loopL (ih (j + 1) (by omega) (by rw [hany, hbf]) h1 h2)
  repeat' (first
    | refine z00 ?_ | refine z01 ?_ | refine z02 ?_ | refine z04 ?_ | refine z05 ?_ | refine z08 ?_ | refine zp ?_ | refine z0g ?_ | refine z0h ?_ | refine z0j ?_ | refine z0k ?_
    | refine z0l ?_ | refine z0n ?_ | refine z0o ?_ | refine z0p ?_ | refine z0q ?_ | refine z0r ?_ | refine z0s ?_ | refine z0v ?_ | refine z0z ?_ | refine z12 ?_ | refine z14 ?_
    | refine z15 ?_ | refine z1e ?_ | refine z1f (hk := ?_) | refine z1i ?_ | refine z1j ?_ | refine z1k ?_ | refine z1l ?_ | refine z1m ?_ | refine z1n ?_
    | refine z1o (fun hp => ?_) (fun hp => ?_) | refine z1p (fun hp => ?_) (fun hp => ?_) | refine z1q (fun hp => ?_) (fun hp => ?_) | refine z1r ?_ | refine z1s ?_ | refine z1t ?_
    | refine z1u ?_ | refine z1v ?_ | refine z1w ?_ | refine z1x ?_ | refine z1y ?_ | refine z1z ?_ | refine z20 ?_ | refine z21 ?_ | refine z22 ?_ | refine z23 ?_ | refine z24 ?_
    | refine z25 ?_ | refine z26 ?_ | refine z27 ?_ | refine z28 (fun hp => ?_) (fun hp => ?_) | refine z29 (fun hp => ?_) (fun hp => ?_) | refine z2a ?_ | refine z2b ?_)
  refine wx_loopL ?_
  refine key l.length 0 (by omega) rfl ?_ ?_
  · intro h
    rw [h] at hb; subst hb
    repeat' (first | refine then_r ?_ | refine block_r ?_)
    refine end_r rfl ?_
    exact fin_cln rfl hQ
  · intro h
    rw [h] at hb; subst hb
    repeat' (first
      | refine z00 ?_ | refine z01 ?_ | refine z02 ?_ | refine z04 ?_ | refine z05 ?_ | refine z08 ?_ | refine zp ?_ | refine z0g ?_ | refine z0h ?_ | refine z0j ?_ | refine z0k ?_
      | refine z0l ?_ | refine z0n ?_ | refine z0o ?_ | refine z0p ?_ | refine z0q ?_ | refine z0r ?_ | refine z0s ?_ | refine z0v ?_ | refine z0z ?_ | refine z12 ?_ | refine z14 ?_
      | refine z15 ?_ | refine z1e ?_ | refine z1f (hk := ?_) | refine z1i ?_ | refine z1j ?_ | refine z1k ?_ | refine z1l ?_ | refine z1m ?_ | refine z1n ?_
      | refine z1o (fun hp => ?_) (fun hp => ?_) | refine z1p (fun hp => ?_) (fun hp => ?_) | refine z1q (fun hp => ?_) (fun hp => ?_) | refine z1r ?_ | refine z1s ?_ | refine z1t ?_
      | refine z1u ?_ | refine z1v ?_ | refine z1w ?_ | refine z1x ?_ | refine z1y ?_ | refine z1z ?_ | refine z20 ?_ | refine z21 ?_ | refine z22 ?_ | refine z23 ?_ | refine z24 ?_
      | refine z25 ?_ | refine z26 ?_ | refine z27 ?_ | refine z28 (fun hp => ?_) (fun hp => ?_) | refine z29 (fun hp => ?_) (fun hp => ?_) | refine z2a ?_ | refine z2b ?_)
    refine fin_cln rfl ?_
    have e : decide ((i : Int) ≤ l.length) = true := by rw [decide_eq_true_eq]; omega
    simp only [one, e]
    exact hQ

theorem c_Last14 {l : List Cell} {v : MV} {i : Nat} (hv : Sl KCell l v) (hl : l.length ≤ 1000000) (hi : i ≤ l.length) (hQ : Q (.tup [.int .i64 (lastF l i).1, .bool (lastF l i).2]) m ls) : Wc ip f_ref14_Last [v, .int .i64 i] m ls Q := by
  refine wc_fn3d rfl fn_ref14_Last rfl (by simp [deepVs, hv.deep, deepV]) rfl ?_
  have key1 : ∀ (k j : Nat), j + k = l.length → ∀ {R : Ex → As → Mem → List LRec → Prop}, (lastG l k j = (l.length, false) → R (.exit 0) [(0, v), (6, .int .i64 l.length)] [] []) → (∀ (p d : Nat), p + 1 + d = l.length → lastG l k j = (lastSkip l d (p + 1), true) → R (.exit 0) [(0, v), (6, .int .i64 p)] [] []) →
      Wx ip i_ref14_Last.nt (.loop (lv [0, 6] 44) ref14_Last_b0) [(0, v), (6, .int .i64 j)] [] [] R := by
    intro k
    induction k with
    | zero =>
      intro j hk R h1 h2
      refine wx_roundL rfl ?_
      have e : j = l.length := by omega
      subst e
      repeat' (first
        | refine wx_exitL [0, 6] ?_
        | refine z00 ?_ | refine z01 ?_ | refine z02 ?_ | refine z04 ?_ | refine z05 ?_ | refine z08 ?_ | refine zp ?_ | refine z0g ?_ | refine z0h ?_ | refine z0j ?_ | refine z0k ?_
        | refine z0l ?_ | refine z0n ?_ | refine z0o ?_ | refine z0p ?_ | refine z0q ?_ | refine z0r ?_ | refine z0s ?_ | refine z0v ?_ | refine z0z ?_ | refine z12 ?_ | refine z14 ?_
        | refine z15 ?_ | refine z1e ?_ | refine z1f (hk := ?_) | refine z1i ?_ | refine z1j ?_ | refine z1k ?_ | refine z1l ?_ | refine z1m ?_ | refine z1n ?_
        | refine z1o (fun hp => ?_) (fun hp => ?_) | refine z1p (fun hp => ?_) (fun hp => ?_) | refine z1q (fun hp => ?_) (fun hp => ?_) | refine z1r ?_ | refine z1s ?_ | refine z1t ?_
        | refine z1u ?_ | refine z1v ?_ | refine z1w ?_ | refine z1x ?_ | refine z1y ?_ | refine z1z ?_ | refine z20 ?_ | refine z21 ?_ | refine z22 ?_ | refine z23 ?_ | refine z24 ?_
        | refine z25 ?_ | refine z26 ?_ | refine z27 ?_ | refine z28 (fun hp => ?_) (fun hp => ?_) | refine z29 (fun hp => ?_) (fun hp => ?_) | refine z2a ?_ | refine z2b ?_)
      exact h1 rfl
    | succ k ih =>
      intro j hk R h1 h2
      have hlt : j < l.length := by omega
      simp only [lastG, getD_lt hlt] at h1 h2
      refine wx_roundL rfl ?_
      by_cases h5 : l[j].kind ≠ 5
      · rw [if_pos h5] at h1 h2
        repeat' (first
          | refine wx_ifDT rfl h5 ?_
          | refine z00 ?_ | refine z01 ?_ | refine z02 ?_ | refine z04 ?_ | refine z05 ?_ | refine z08 ?_ | refine zp ?_ | refine z0g ?_ | refine z0h ?_ | refine z0j ?_ | refine z0k ?_
          | refine z0l ?_ | refine z0n ?_ | refine z0o ?_ | refine z0p ?_ | refine z0q ?_ | refine z0r ?_ | refine z0s ?_ | refine z0v ?_ | refine z0z ?_ | refine z12 ?_ | refine z14 ?_
          | refine z15 ?_ | refine z1e ?_ | refine z1f (hk := ?_) | refine z1i ?_ | refine z1j ?_ | refine z1k ?_ | refine z1l ?_ | refine z1m ?_ | refine z1n ?_
          | refine z1o (fun hp => ?_) (fun hp => ?_) | refine z1p (fun hp => ?_) (fun hp => ?_) | refine z1q (fun hp => ?_) (fun hp => ?_) | refine z1r ?_ | refine z1s ?_ | refine z1t ?_
          | refine z1u ?_ | refine z1v ?_ | refine z1w ?_ | refine z1x ?_ | refine z1y ?_ | refine z1z ?_ | refine z20 ?_ | refine z21 ?_ | refine z22 ?_ | refine z23 ?_ | refine z24 ?_
          | refine z25 ?_ | refine z26 ?_ | refine z27 ?_ | refine z28 (fun hp => ?_) (fun hp => ?_) | refine z29 (fun hp => ?_) (fun hp => ?_) | refine z2a ?_ | refine z2b ?_)
        exact wx_loopL (ih (j + 1) (by omega) h1 h2)
      · rw [if_neg h5] at h2
        repeat' (first
          | refine wx_exitL [0, 6] ?_
          | refine wx_ifDF rfl h5 ?_
          | refine z00 ?_ | refine z01 ?_ | refine z02 ?_ | refine z04 ?_ | refine z05 ?_ | refine z08 ?_ | refine zp ?_ | refine z0g ?_ | refine z0h ?_ | refine z0j ?_ | refine z0k ?_
          | refine z0l ?_ | refine z0n ?_ | refine z0o ?_ | refine z0p ?_ | refine z0q ?_ | refine z0r ?_ | refine z0s ?_ | refine z0v ?_ | refine z0z ?_ | refine z12 ?_ | refine z14 ?_
          | refine z15 ?_ | refine z1e ?_ | refine z1f (hk := ?_) | refine z1i ?_ | refine z1j ?_ | refine z1k ?_ | refine z1l ?_ | refine z1m ?_ | refine z1n ?_
          | refine z1o (fun hp => ?_) (fun hp => ?_) | refine z1p (fun hp => ?_) (fun hp => ?_) | refine z1q (fun hp => ?_) (fun hp => ?_) | refine z1r ?_ | refine z1s ?_ | refine z1t ?_
          | refine z1u ?_ | refine z1v ?_ | refine z1w ?_ | refine z1x ?_ | refine z1y ?_ | refine z1z ?_ | refine z20 ?_ | refine z21 ?_ | refine z22 ?_ | refine z23 ?_ | refine z24 ?_
          | refine z25 ?_ | refine z26 ?_ | refine z27 ?_ | refine z28 (fun hp => ?_) (fun hp => ?_) | refine z29 (fun hp => ?_) (fun hp => ?_) | refine z2a ?_ | refine z2b ?_)
        exact h2 j k (by omega) rfl
  have key2 : ∀ (k j : Nat), j + k = l.length → ∀ {R : Ex → As → Mem → List LRec → Prop}, R (.exit 2) [(6, .int .i64 (lastSkip l k j))] [] [] →
      Wx ip i_ref14_Last.nt (.loop (lv [0, 6] 44) ref14_Last_b1) [(0, v), (6, .int .i64 j)] [] [] R := by
    intro k
    induction k with
    | zero =>
      intro j hk R hR
      refine wx_roundL rfl ?_
      repeat' (first
        | refine wx_exitL [6] ?_
        | refine z00 ?_ | refine z01 ?_ | refine z02 ?_ | refine z04 ?_ | refine z05 ?_ | refine z08 ?_ | refine zp ?_ | refine z0g ?_ | refine z0h ?_ | refine z0j ?_ | refine z0k ?_
        | refine z0l ?_ | refine z0n ?_ | refine z0o ?_ | refine z0p ?_ | refine z0q ?_ | refine z0r ?_ | refine z0s ?_ | refine z0v ?_ | refine z0z ?_ | refine z12 ?_ | refine z14 ?_
        | refine z15 ?_ | refine z1e ?_ | refine z1f (hk := ?_) | refine z1i ?_ | refine z1j ?_ | refine z1k ?_ | refine z1l ?_ | refine z1m ?_ | refine z1n ?_
        | refine z1o (fun hp => ?_) (fun hp => ?_) | refine z1p (fun hp => ?_) (fun hp => ?_) | refine z1q (fun hp => ?_) (fun hp => ?_) | refine z1r ?_ | refine z1s ?_ | refine z1t ?_
        | refine z1u ?_ | refine z1v ?_ | refine z1w ?_ | refine z1x ?_ | refine z1y ?_ | refine z1z ?_ | refine z20 ?_ | refine z21 ?_ | refine z22 ?_ | refine z23 ?_ | refine z24 ?_
        | refine z25 ?_ | refine z26 ?_ | refine z27 ?_ | refine z28 (fun hp => ?_) (fun hp => ?_) | refine z29 (fun hp => ?_) (fun hp => ?_) | refine z2a ?_ | refine z2b ?_)
      exact hR
    | succ k ih =>
      intro j hk R hR
      have hlt : j < l.length := by omega
      simp only [lastSkip, getD_lt hlt] at hR
      refine wx_roundL rfl ?_
      by_cases h8 : l[j].kind = 8
      · rw [if_pos h8] at hR
        repeat' (first
          | refine wx_ifDT rfl h8 ?_
          | refine z00 ?_ | refine z01 ?_ | refine z02 ?_ | refine z04 ?_ | refine z05 ?_ | refine z08 ?_ | refine zp ?_ | refine z0g ?_ | refine z0h ?_ | refine z0j ?_ | refine z0k ?_
          | refine z0l ?_ | refine z0n ?_ | refine z0o ?_ | refine z0p ?_ | refine z0q ?_ | refine z0r ?_ | refine z0s ?_ | refine z0v ?_ | refine z0z ?_ | refine z12 ?_ | refine z14 ?_
          | refine z15 ?_ | refine z1e ?_ | refine z1f (hk := ?_) | refine z1i ?_ | refine z1j ?_ | refine z1k ?_ | refine z1l ?_ | refine z1m ?_ | refine z1n ?_
          | refine z1o (fun hp => ?_) (fun hp => ?_) | refine z1p (fun hp => ?_) (fun hp => ?_) | refine z1q (fun hp => ?_) (fun hp => ?_) | refine z1r ?_ | refine z1s ?_ | refine z1t ?_
          | refine z1u ?_ | refine z1v ?_ | refine z1w ?_ | refine z1x ?_ | refine z1y ?_ | refine z1z ?_ | refine z20 ?_ | refine z21 ?_ | refine z22 ?_ | refine z23 ?_ | refine z24 ?_
          | refine z25 ?_ | refine z26 ?_ | refine z27 ?_ | refine z28 (fun hp => ?_) (fun hp => ?_) | refine z29 (fun hp => ?_) (fun hp => ?_) | refine z2a ?_ | refine z2b ?_)
        exact wx_loopL (ih (j + 1) (by omega) hR)
      · rw [if_neg h8] at hR
        repeat' (first
          | refine wx_exitL [6] ?_
          | refine wx_ifDF rfl h8 ?_
          | refine z00 ?_ | refine z01 ?_ | refine z02 ?_ | refine z04 ?_ | refine z05 ?_ | refine z08 ?_ | refine zp ?_ | refine z0g ?_ | refine z0h ?_ | refine z0j ?_ | refine z0k ?_
          | refine z0l ?_ | refine z0n ?_ | refine z0o ?_ | refine z0p ?_ | refine z0q ?_ | refine z0r ?_ | refine z0s ?_ | refine z0v ?_ | refine z0z ?_ | refine z12 ?_ | refine z14 ?_
          | refine z15 ?_ | refine z1e ?_ | refine z1f (hk := ?_) | refine z1i ?_ | refine z1j ?_ | refine z1k ?_ | refine z1l ?_ | refine z1m ?_ | refine z1n ?_
          | refine z1o (fun hp => ?_) (fun hp => ?_) | refine z1p (fun hp => ?_) (fun hp => ?_) | refine z1q (fun hp => ?_) (fun hp => ?_) | refine z1r ?_ | refine z1s ?_ | refine z1t ?_
          | refine z1u ?_ | refine z1v ?_ | refine z1w ?_ | refine z1x ?_ | refine z1y ?_ | refine z1z ?_ | refine z20 ?_ | refine z21 ?_ | refine z22 ?_ | refine z23 ?_ | refine z24 ?_
          | refine z25 ?_ | refine z26 ?_ | refine z27 ?_ | refine z28 (fun hp => ?_) (fun hp => ?_) | refine z29 (fun hp => ?_) (fun hp => ?_) | refine z2a ?_ | refine z2b ?_)
        exact hR
  repeat' (first
    | refine z00 ?_ | refine z01 ?_ | refine z02 ?_ | refine z04 ?_ | refine z05 ?_ | refine z08 ?_ | refine zp ?_ | refine z0g ?_ | refine z0h ?_ | refine z0j ?_ | refine z0k ?_
    | refine z0l ?_ | refine z0n ?_ | refine z0o ?_ | refine z0p ?_ | refine z0q ?_ | refine z0r ?_ | refine z0s ?_ | refine z0v ?_ | refine z0z ?_ | refine z12 ?_ | refine z14 ?_
    | refine z15 ?_ | refine z1e ?_ | refine z1f (hk := ?_) | refine z1i ?_ | refine z1j ?_ | refine z1k ?_ | refine z1l ?_ | refine z1m ?_ | refine z1n ?_
    | refine z1o (fun hp => ?_) (fun hp => ?_) | refine z1p (fun hp => ?_) (fun hp => ?_) | refine z1q (fun hp => ?_) (fun hp => ?_) | refine z1r ?_ | refine z1s ?_ | refine z1t ?_
    | refine z1u ?_ | refine z1v ?_ | refine z1w ?_ | refine z1x ?_ | refine z1y ?_ | refine z1z ?_ | refine z20 ?_ | refine z21 ?_ | refine z22 ?_ | refine z23 ?_ | refine z24 ?_
    | refine z25 ?_ | refine z26 ?_ | refine z27 ?_ | refine z28 (fun hp => ?_) (fun hp => ?_) | refine z29 (fun hp => ?_) (fun hp => ?_) | refine z2a ?_ | refine z2b ?_)
  refine wx_loopL ?_
  refine key1 (l.length - i) i (by omega) ?_ ?_
  · intro h
    have e : lastF l i = (l.length, false) := h
    rw [e] at hQ
    repeat' (first
      | refine z00 ?_ | refine z01 ?_ | refine z02 ?_ | refine z04 ?_ | refine z05 ?_ | refine z08 ?_ | refine zp ?_ | refine z0g ?_ | refine z0h ?_ | refine z0j ?_ | refine z0k ?_
      | refine z0l ?_ | refine z0n ?_ | refine z0o ?_ | refine z0p ?_ | refine z0q ?_ | refine z0r ?_ | refine z0s ?_ | refine z0v ?_ | refine z0z ?_ | refine z12 ?_ | refine z14 ?_
      | refine z15 ?_ | refine z1e ?_ | refine z1f (hk := ?_) | refine z1i ?_ | refine z1j ?_ | refine z1k ?_ | refine z1l ?_ | refine z1m ?_ | refine z1n ?_
      | refine z1o (fun hp => ?_) (fun hp => ?_) | refine z1p (fun hp => ?_) (fun hp => ?_) | refine z1q (fun hp => ?_) (fun hp => ?_) | refine z1r ?_ | refine z1s ?_ | refine z1t ?_
      | refine z1u ?_ | refine z1v ?_ | refine z1w ?_ | refine z1x ?_ | refine z1y ?_ | refine z1z ?_ | refine z20 ?_ | refine z21 ?_ | refine z22 ?_ | refine z23 ?_ | refine z24 ?_
      | refine z25 ?_ | refine z26 ?_ | refine z27 ?_ | refine z28 (fun hp => ?_) (fun hp => ?_) | refine z29 (fun hp => ?_) (fun hp => ?_) | refine z2a ?_ | refine z2b ?_)
    exact fin_cln rfl hQ
  · intro p d hd h
    have e : lastF l i = (lastSkip l d (p + 1), true) := h
    rw [e] at hQ
    repeat' (first
      | refine z00 ?_ | refine z01 ?_ | refine z02 ?_ | refine z04 ?_ | refine z05 ?_ | refine z08 ?_ | refine zp ?_ | refine z0g ?_ | refine z0h ?_ | refine z0j ?_ | refine z0k ?_
      | refine z0l ?_ | refine z0n ?_ | refine z0o ?_ | refine z0p ?_ | refine z0q ?_ | refine z0r ?_ | refine z0s ?_ | refine z0v ?_ | refine z0z ?_ | refine z12 ?_ | refine z14 ?_
      | refine z15 ?_ | refine z1e ?_ | refine z1f (hk := ?_) | refine z1i ?_ | refine z1j ?_ | refine z1k ?_ | refine z1l ?_ | refine z1m ?_ | refine z1n ?_
      | refine z1o (fun hp => ?_) (fun hp => ?_) | refine z1p (fun hp => ?_) (fun hp => ?_) | refine z1q (fun hp => ?_) (fun hp => ?_) | refine z1r ?_ | refine z1s ?_ | refine z1t ?_
      | refine z1u ?_ | refine z1v ?_ | refine z1w ?_ | refine z1x ?_ | refine z1y ?_ | refine z1z ?_ | refine z20 ?_ | refine z21 ?_ | refine z22 ?_ | refine z23 ?_ | refine z24 ?_
      | refine z25 ?_ | refine z26 ?_ | refine z27 ?_ | refine z28 (fun hp => ?_) (fun hp => ?_) | refine z29 (fun hp => ?_) (fun hp => ?_) | refine z2a ?_ | refine z2b ?_)
    refine wx_loopL ?_
    refine key2 d (p + 1) hd ?_
    repeat' (first
      | refine z00 ?_ | refine z01 ?_ | refine z02 ?_ | refine z04 ?_ | refine z05 ?_ | refine z08 ?_ | refine zp ?_ | refine z0g ?_ | refine z0h ?_ | refine z0j ?_ | refine z0k ?_
      | refine z0l ?_ | refine z0n ?_ | refine z0o ?_ | refine z0p ?_ | refine z0q ?_ | refine z0r ?_ | refine z0s ?_ | refine z0v ?_ | refine z0z ?_ | refine z12 ?_ | refine z14 ?_
      | refine z15 ?_ | refine z1e ?_ | refine z1f (hk := ?_) | refine z1i ?_ | refine z1j ?_ | refine z1k ?_ | refine z1l ?_ | refine z1m ?_ | refine z1n ?_
      | refine z1o (fun hp => ?_) (fun hp => ?_) | refine z1p (fun hp => ?_) (fun hp => ?_) | refine z1q (fun hp => ?_) (fun hp => ?_) | refine z1r ?_ | refine z1s ?_ | refine z1t ?_
      | refine z1u ?_ | refine z1v ?_ | refine z1w ?_ | refine z1x ?_ | refine z1y ?_ | refine z1z ?_ | refine z20 ?_ | refine z21 ?_ | refine z22 ?_ | refine z23 ?_ | refine z24 ?_
      | refine z25 ?_ | refine z26 ?_ | refine z27 ?_ | refine z28 (fun hp => ?_) (fun hp => ?_) | refine z29 (fun hp => ?_) (fun hp => ?_) | refine z2a ?_ | refine z2b ?_)
    exact fin_cln rfl hQ

theorem c_Ends14 {l : List Cell} {v : MV} {i : Nat} (hv : Sl KCell l v) (hl : l.length ≤ 1000000) (hi : i ≤ l.length) (h1 : l.any badTab = true → Q (.tup [.nils, .nils, .int .i64 2]) m ls)
    (h2 : l.any badTab = false → ∀ a b, Sl KI64 (softs l i) a → Sl KI64 (emergs l i) b → Q (.tup [a, b, .int .i64 0]) m ls) : Wc ip f_ref14_Ends [v, .int .i64 i] m ls Q := by
  refine wc_fn3d rfl fn_ref14_Ends rfl (by simp [deepVs, hv.deep, deepV]) rfl ?_
  cases hb : l.any badTab with
  | true =>
    repeat' (first
      | refine wo_call rfl rfl rfl (c_May14 hb hv hl hi ?_)
      | refine z00 ?_ | refine z01 ?_ | refine z02 ?_ | refine z04 ?_ | refine z05 ?_ | refine z08 ?_ | refine zp ?_ | refine z0g ?_ | refine z0h ?_ | refine z0j ?_ | refine z0k ?_
      | refine z0l ?_ | refine z0n ?_ | refine z0o ?_ | refine z0p ?_ | refine z0q ?_ | refine z0r ?_ | refine z0s ?_ | refine z0v ?_ | refine z0z ?_ | refine z12 ?_ | refine z14 ?_
      | refine z15 ?_ | refine z1e ?_ | refine z1f (hk := ?_) | refine z1i ?_ | refine z1j ?_ | refine z1k ?_ | refine z1l ?_ | refine z1m ?_ | refine z1n ?_
      | refine z1o (fun hp => ?_) (fun hp => ?_) | refine z1p (fun hp => ?_) (fun hp => ?_) | refine z1q (fun hp => ?_) (fun hp => ?_) | refine z1r ?_ | refine z1s ?_ | refine z1t ?_
      | refine z1u ?_ | refine z1v ?_ | refine z1w ?_ | refine z1x ?_ | refine z1y ?_ | refine z1z ?_ | refine z20 ?_ | refine z21 ?_ | refine z22 ?_ | refine z23 ?_ | refine z24 ?_
      | refine z25 ?_ | refine z26 ?_ | refine z27 ?_ | refine z28 (fun hp => ?_) (fun hp => ?_) | refine z29 (fun hp => ?_) (fun hp => ?_) | refine z2a ?_ | refine z2b ?_)
    exact fin_cln rfl (h1 hb)
  | false =>
    have hle := lastF_le hi
    generalize hto : (lastF l i).1 = to at hle
    have key : ∀ (k p : Nat), p + k = max to (i + 1) → i < p → ∀ (m : Mem) (u w : MV) (A B : List Int), Hold KI64 0 A m u → Hold KI64 0 B m w → (∀ q, slB u q → ¬ slB w q) → A.length ≤ p → B.length ≤ p →
        ∀ {R : Ex → As → Mem → List LRec → Prop}, (∀ m' u' w', Hold KI64 0 (A ++ endsG l (·.soft) i k p) m' u' → Hold KI64 0 (B ++ endsG l (·.emerg) i k p) m' w' → (∀ q, slB u' q → ¬ slB w' q) → R (.exit 0) [(7, .int .i64 to), (9, u'), (10, w')] m' []) →
        Wx ip i_ref14_Ends.nt (.loop (lv [0, 1, 7, 9, 10, 11] 57) ref14_Ends_b0) [(0, v), (1, .int .i64 i), (7, .int .i64 to), (9, u), (10, w), (11, .int .i64 p)] m [] R := by
      intro k
      induction k with
      | zero =>
        intro p hk hp m u w A B hA hB hD hAl hBl R hR
        refine wx_roundL rfl ?_
        repeat' (first
          | refine wx_exitL [7, 9, 10] ?_
          | refine z00 ?_ | refine z01 ?_ | refine z02 ?_ | refine z04 ?_ | refine z05 ?_ | refine z08 ?_ | refine zp ?_ | refine z0g ?_ | refine z0h ?_ | refine z0j ?_ | refine z0k ?_
          | refine z0l ?_ | refine z0n ?_ | refine z0o ?_ | refine z0p ?_ | refine z0q ?_ | refine z0r ?_ | refine z0s ?_ | refine z0v ?_ | refine z0z ?_ | refine z12 ?_ | refine z14 ?_
          | refine z15 ?_ | refine z1e ?_ | refine z1f (hk := ?_) | refine z1i ?_ | refine z1j ?_ | refine z1k ?_ | refine z1l ?_ | refine z1m ?_ | refine z1n ?_
          | refine z1o (fun hp => ?_) (fun hp => ?_) | refine z1p (fun hp => ?_) (fun hp => ?_) | refine z1q (fun hp => ?_) (fun hp => ?_) | refine z1r ?_ | refine z1s ?_ | refine z1t ?_
          | refine z1u ?_ | refine z1v ?_ | refine z1w ?_ | refine z1x ?_ | refine z1y ?_ | refine z1z ?_ | refine z20 ?_ | refine z21 ?_ | refine z22 ?_ | refine z23 ?_ | refine z24 ?_
          | refine z25 ?_ | refine z26 ?_ | refine z27 ?_ | refine z28 (fun hp => ?_) (fun hp => ?_) | refine z29 (fun hp => ?_) (fun hp => ?_) | refine z2a ?_ | refine z2b ?_)
        exact hR _ _ _ (by simpa [endsG] using hA) (by simpa [endsG] using hB) hD
      | succ k ih =>
        intro p hk hp m u w A B hA hB hD hAl hBl R hR
        have hlt : p < l.length := by omega
        have hpt : p < to := by omega
        have hcl := cut_len (l := l) (i := i) (j := p) (by omega) (by omega)
        simp only [endsG] at hR
        refine wx_roundL rfl ?_
        repeat' (first
          | refine z00 ?_ | refine z01 ?_ | refine z02 ?_ | refine z04 ?_ | refine z05 ?_ | refine z08 ?_ | refine zp ?_ | refine z0g ?_ | refine z0h ?_ | refine z0j ?_ | refine z0k ?_
          | refine z0l ?_ | refine z0n ?_ | refine z0o ?_ | refine z0p ?_ | refine z0q ?_ | refine z0r ?_ | refine z0s ?_ | refine z0v ?_ | refine z0z ?_ | refine z12 ?_ | refine z14 ?_
          | refine z15 ?_ | refine z1e ?_ | refine z1f (hk := ?_) | refine z1i ?_ | refine z1j ?_ | refine z1k ?_ | refine z1l ?_ | refine z1m ?_ | refine z1n ?_
          | refine z1o (fun hp => ?_) (fun hp => ?_) | refine z1p (fun hp => ?_) (fun hp => ?_) | refine z1q (fun hp => ?_) (fun hp => ?_) | refine z1r ?_ | refine z1s ?_ | refine z1t ?_
          | refine z1u ?_ | refine z1v ?_ | refine z1w ?_ | refine z1x ?_ | refine z1y ?_ | refine z1z ?_ | refine z20 ?_ | refine z21 ?_ | refine z22 ?_ | refine z23 ?_ | refine z24 ?_
          | refine z25 ?_ | refine z26 ?_ | refine z27 ?_ | refine z28 (fun hp => ?_) (fun hp => ?_) | refine z29 (fun hp => ?_) (fun hp => ?_) | refine z2a ?_ | refine z2b ?_)
        refine wo_sliceS rfl hv rfl rfl (by omega) rfl rfl fun v' hv' => ?_
        have hv'' : Sl KCell (cut l i p) v' := hv'
        cases hbl : blankF (cut l i p) with
        | true =>
          have e1 : endB l (·.soft) i p = false := by unfold endB; rw [hbl]; simp
          have e2 : endB l (·.emerg) i p = false := by unfold endB; rw [hbl]; simp
          simp only [e1, e2, Bool.false_eq_true, if_false] at hR
          repeat' (first
            | refine wo_call rfl rfl rfl (c_Blank13 hbl hv'' (by omega) ?_)
            | refine z00 ?_ | refine z01 ?_ | refine z02 ?_ | refine z04 ?_ | refine z05 ?_ | refine z08 ?_ | refine zp ?_ | refine z0g ?_ | refine z0h ?_ | refine z0j ?_ | refine z0k ?_
            | refine z0l ?_ | refine z0n ?_ | refine z0o ?_ | refine z0p ?_ | refine z0q ?_ | refine z0r ?_ | refine z0s ?_ | refine z0v ?_ | refine z0z ?_ | refine z12 ?_ | refine z14 ?_
            | refine z15 ?_ | refine z1e ?_ | refine z1f (hk := ?_) | refine z1i ?_ | refine z1j ?_ | refine z1k ?_ | refine z1l ?_ | refine z1m ?_ | refine z1n ?_
            | refine z1o (fun hp => ?_) (fun hp => ?_) | refine z1p (fun hp => ?_) (fun hp => ?_) | refine z1q (fun hp => ?_) (fun hp => ?_) | refine z1r ?_ | refine z1s ?_ | refine z1t ?_
            | refine z1u ?_ | refine z1v ?_ | refine z1w ?_ | refine z1x ?_ | refine z1y ?_ | refine z1z ?_ | refine z20 ?_ | refine z21 ?_ | refine z22 ?_ | refine z23 ?_ | refine z24 ?_
            | refine z25 ?_ | refine z26 ?_ | refine z27 ?_ | refine z28 (fun hp => ?_) (fun hp => ?_) | refine z29 (fun hp => ?_) (fun hp => ?_) | refine z2a ?_ | refine z2b ?_)
          refine wx_loopL ?_
          exact ih (p + 1) (by omega) (by omega) m u w A B hA hB hD (by omega) (by omega) hR
        | false =>
          have e1 : endB l (·.soft) i p = l[p].soft := by unfold endB; rw [hbl, getD_lt hlt]; simp
          have e2 : endB l (·.emerg) i p = l[p].emerg := by unfold endB; rw [hbl, getD_lt hlt]; simp
          simp only [e1, e2] at hR
          have step : ∀ {m : Mem} {u w : MV} {A : List Int} {B : List Int}, Hold KI64 0 A m u → Hold KI64 0 B m w → (∀ q, slB u q → ¬ slB w q) → A.length ≤ p → ∃ v2 m2, appM m 1 8 u (.lit [.int .i64 (p : Int)] 1 (some 1)) = some (v2, m2) ∧ Hold KI64 0 (A ++ [(p : Int)]) m2 v2 ∧ Hold KI64 0 B m2 w ∧ (∀ q, slB v2 q → ¬ slB w q) := by
            intro m u w A B hA hB hD hAl
            obtain ⟨v2, m2, a1, a2, a3, a4, a5⟩ := hA.add1' (bytes := 8) (sz := 1) (y := (p : Int)) (cs := [.int .i64 (p : Int)]) (kc := some 1) (by omega) (by omega) rfl rfl
            refine ⟨v2, m2, a1, a2, hB.keep fun q hq => a4 q (hB.lt hq).2 (fun h => hD q h hq), fun q h hq => ?_⟩
            rcases a5 q h with h | h
            · exact hD q h hq
            · have := (hB.lt hq).2; omega
          cases hs : l[p].soft with
          | true =>
            obtain ⟨v2, m2, a1, a2, a3, a4⟩ := step hA hB hD hAl
            cases he : l[p].emerg with
            | true =>
              obtain ⟨w2, m3, c1, c2, c3, c4⟩ := step a3 a2 (fun q h h' => a4 q h' h) hBl
              simp only [hs, he, if_true] at hR
              repeat' (first
                | refine wo_call rfl rfl rfl (c_Blank13 hbl hv'' (by omega) ?_)
                | refine wo_loadc (K := KCell) (u := .bool true) rfl hlt (congrArg (fun b => some (MV.bool b)) hs) rfl ?_
                | refine wo_loadc (K := KCell) (u := .bool true) rfl hlt (congrArg (fun b => some (MV.bool b)) he) rfl ?_
                | refine wo_app rfl rfl a1 rfl ?_
                | refine wo_app rfl rfl c1 rfl ?_
                | refine z00 ?_ | refine z01 ?_ | refine z02 ?_ | refine z04 ?_ | refine z05 ?_ | refine z08 ?_ | refine zp ?_ | refine z0g ?_ | refine z0h ?_ | refine z0j ?_ | refine z0k ?_
                | refine z0l ?_ | refine z0n ?_ | refine z0o ?_ | refine z0p ?_ | refine z0q ?_ | refine z0r ?_ | refine z0s ?_ | refine z0v ?_ | refine z0z ?_ | refine z12 ?_ | refine z14 ?_
                | refine z15 ?_ | refine z1e ?_ | refine z1f (hk := ?_) | refine z1i ?_ | refine z1j ?_ | refine z1k ?_ | refine z1l ?_ | refine z1m ?_ | refine z1n ?_
                | refine z1o (fun hp => ?_) (fun hp => ?_) | refine z1p (fun hp => ?_) (fun hp => ?_) | refine z1q (fun hp => ?_) (fun hp => ?_) | refine z1r ?_ | refine z1s ?_ | refine z1t ?_
                | refine z1u ?_ | refine z1v ?_ | refine z1w ?_ | refine z1x ?_ | refine z1y ?_ | refine z1z ?_ | refine z20 ?_ | refine z21 ?_ | refine z22 ?_ | refine z23 ?_ | refine z24 ?_
                | refine z25 ?_ | refine z26 ?_ | refine z27 ?_ | refine z28 (fun hp => ?_) (fun hp => ?_) | refine z29 (fun hp => ?_) (fun hp => ?_) | refine z2a ?_ | refine z2b ?_)
              refine wx_loopL ?_
              exact ih (p + 1) (by omega) (by omega) m3 v2 w2 _ _ c3 c2 (fun q h h' => c4 q h' h) (by simp; omega) (by simp; omega) (fun m' u' w' g1 g2 => hR m' u' w' (by simpa using g1) (by simpa using g2))
            | false =>
              simp only [hs, he, if_true, Bool.false_eq_true, if_false] at hR
              repeat' (first
                | refine wo_call rfl rfl rfl (c_Blank13 hbl hv'' (by omega) ?_)
                | refine wo_loadc (K := KCell) (u := .bool true) rfl hlt (congrArg (fun b => some (MV.bool b)) hs) rfl ?_
                | refine wo_loadc (K := KCell) (u := .bool false) rfl hlt (congrArg (fun b => some (MV.bool b)) he) rfl ?_
                | refine wo_app rfl rfl a1 rfl ?_
                | refine z00 ?_ | refine z01 ?_ | refine z02 ?_ | refine z04 ?_ | refine z05 ?_ | refine z08 ?_ | refine zp ?_ | refine z0g ?_ | refine z0h ?_ | refine z0j ?_ | refine z0k ?_
                | refine z0l ?_ | refine z0n ?_ | refine z0o ?_ | refine z0p ?_ | refine z0q ?_ | refine z0r ?_ | refine z0s ?_ | refine z0v ?_ | refine z0z ?_ | refine z12 ?_ | refine z14 ?_
                | refine z15 ?_ | refine z1e ?_ | refine z1f (hk := ?_) | refine z1i ?_ | refine z1j ?_ | refine z1k ?_ | refine z1l ?_ | refine z1m ?_ | refine z1n ?_
                | refine z1o (fun hp => ?_) (fun hp => ?_) | refine z1p (fun hp => ?_) (fun hp => ?_) | refine z1q (fun hp => ?_) (fun hp => ?_) | refine z1r ?_ | refine z1s ?_ | refine z1t ?_
                | refine z1u ?_ | refine z1v ?_ | refine z1w ?_ | refine z1x ?_ | refine z1y ?_ | refine z1z ?_ | refine z20 ?_ | refine z21 ?_ | refine z22 ?_ | refine z23 ?_ | refine z24 ?_
                | refine z25 ?_ | refine z26 ?_ | refine z27 ?_ | refine z28 (fun hp => ?_) (fun hp => ?_) | refine z29 (fun hp => ?_) (fun hp => ?_) | refine z2a ?_ | refine z2b ?_)
              refine wx_loopL ?_
              exact ih (p + 1) (by omega) (by omega) m2 v2 w _ _ a2 a3 a4 (by simp; omega) (by omega) (fun m' u' w' g1 g2 => hR m' u' w' (by simpa using g1) g2)
          | false =>
            cases he : l[p].emerg with
            | true =>
              obtain ⟨w2, m3, c1, c2, c3, c4⟩ := step hB hA (fun q h h' => hD q h' h) hBl
              simp only [hs, he, if_true, Bool.false_eq_true, if_false] at hR
              repeat' (first
                | refine wo_call rfl rfl rfl (c_Blank13 hbl hv'' (by omega) ?_)
                | refine wo_loadc (K := KCell) (u := .bool false) rfl hlt (congrArg (fun b => some (MV.bool b)) hs) rfl ?_
                | refine wo_loadc (K := KCell) (u := .bool true) rfl hlt (congrArg (fun b => some (MV.bool b)) he) rfl ?_
                | refine wo_app rfl rfl c1 rfl ?_
                | refine z00 ?_ | refine z01 ?_ | refine z02 ?_ | refine z04 ?_ | refine z05 ?_ | refine z08 ?_ | refine zp ?_ | refine z0g ?_ | refine z0h ?_ | refine z0j ?_ | refine z0k ?_
                | refine z0l ?_ | refine z0n ?_ | refine z0o ?_ | refine z0p ?_ | refine z0q ?_ | refine z0r ?_ | refine z0s ?_ | refine z0v ?_ | refine z0z ?_ | refine z12 ?_ | refine z14 ?_
                | refine z15 ?_ | refine z1e ?_ | refine z1f (hk := ?_) | refine z1i ?_ | refine z1j ?_ | refine z1k ?_ | refine z1l ?_ | refine z1m ?_ | refine z1n ?_
                | refine z1o (fun hp => ?_) (fun hp => ?_) | refine z1p (fun hp => ?_) (fun hp => ?_) | refine z1q (fun hp => ?_) (fun hp => ?_) | refine z1r ?_ | refine z1s ?_ | refine z1t ?_
                | refine z1u ?_ | refine z1v ?_ | refine z1w ?_ | refine z1x ?_ | refine z1y ?_ | refine z1z ?_ | refine z20 ?_ | refine z21 ?_ | refine z22 ?_ | refine z23 ?_ | refine z24 ?_
                | refine z25 ?_ | refine z26 ?_ | refine z27 ?_ | refine z28 (fun hp => ?_) (fun hp => ?_) | refine z29 (fun hp => ?_) (fun hp => ?_) | refine z2a ?_ | refine z2b ?_)
              refine wx_loopL ?_
              exact ih (p + 1) (by omega) (by omega) m3 u w2 _ _ c3 c2 (fun q h h' => c4 q h' h) (by omega) (by simp; omega) (fun m' u' w' g1 g2 => hR m' u' w' g1 (by simpa using g2))
            | false =>
              simp only [hs, he, Bool.false_eq_true, if_false] at hR
              repeat' (first
                | refine wo_call rfl rfl rfl (c_Blank13 hbl hv'' (by omega) ?_)
                | refine wo_loadc (K := KCell) (u := .bool false) rfl hlt (congrArg (fun b => some (MV.bool b)) hs) rfl ?_
                | refine wo_loadc (K := KCell) (u := .bool false) rfl hlt (congrArg (fun b => some (MV.bool b)) he) rfl ?_
                | refine z00 ?_ | refine z01 ?_ | refine z02 ?_ | refine z04 ?_ | refine z05 ?_ | refine z08 ?_ | refine zp ?_ | refine z0g ?_ | refine z0h ?_ | refine z0j ?_ | refine z0k ?_
                | refine z0l ?_ | refine z0n ?_ | refine z0o ?_ | refine z0p ?_ | refine z0q ?_ | refine z0r ?_ | refine z0s ?_ | refine z0v ?_ | refine z0z ?_ | refine z12 ?_ | refine z14 ?_
                | refine z15 ?_ | refine z1e ?_ | refine z1f (hk := ?_) | refine z1i ?_ | refine z1j ?_ | refine z1k ?_ | refine z1l ?_ | refine z1m ?_ | refine z1n ?_
                | refine z1o (fun hp => ?_) (fun hp => ?_) | refine z1p (fun hp => ?_) (fun hp => ?_) | refine z1q (fun hp => ?_) (fun hp => ?_) | refine z1r ?_ | refine z1s ?_ | refine z1t ?_
                | refine z1u ?_ | refine z1v ?_ | refine z1w ?_ | refine z1x ?_ | refine z1y ?_ | refine z1z ?_ | refine z20 ?_ | refine z21 ?_ | refine z22 ?_ | refine z23 ?_ | refine z24 ?_
                | refine z25 ?_ | refine z26 ?_ | refine z27 ?_ | refine z28 (fun hp => ?_) (fun hp => ?_) | refine z29 (fun hp => ?_) (fun hp => ?_) | refine z2a ?_ | refine z2b ?_)
              refine wx_loopL ?_
              exact ih (p + 1) (by omega) (by omega) m u w A B hA hB hD (by omega) (by omega) hR
    repeat' (first
      | refine wo_call rfl rfl rfl (c_May14 hb hv hl hi ?_)
      | refine wo_call rfl rfl rfl (c_Last14 hv hl hi ?_)
      | refine z00 ?_ | refine z01 ?_ | refine z02 ?_ | refine z04 ?_ | refine z05 ?_ | refine z08 ?_ | refine zp ?_ | refine z0g ?_ | refine z0h ?_ | refine z0j ?_ | refine z0k ?_
      | refine z0l ?_ | refine z0n ?_ | refine z0o ?_ | refine z0p ?_ | refine z0q ?_ | refine z0r ?_ | refine z0s ?_ | refine z0v ?_ | refine z0z ?_ | refine z12 ?_ | refine z14 ?_
      | refine z15 ?_ | refine z1e ?_ | refine z1f (hk := ?_) | refine z1i ?_ | refine z1j ?_ | refine z1k ?_ | refine z1l ?_ | refine z1m ?_ | refine z1n ?_
      | refine z1o (fun hp => ?_) (fun hp => ?_) | refine z1p (fun hp => ?_) (fun hp => ?_) | refine z1q (fun hp => ?_) (fun hp => ?_) | refine z1r ?_ | refine z1s ?_ | refine z1t ?_
      | refine z1u ?_ | refine z1v ?_ | refine z1w ?_ | refine z1x ?_ | refine z1y ?_ | refine z1z ?_ | refine z20 ?_ | refine z21 ?_ | refine z22 ?_ | refine z23 ?_ | refine z24 ?_
      | refine z25 ?_ | refine z26 ?_ | refine z27 ?_ | refine z28 (fun hp => ?_) (fun hp => ?_) | refine z29 (fun hp => ?_) (fun hp => ?_) | refine z2a ?_ | refine z2b ?_)
    rw [hto]
    repeat' (first
      | refine z00 ?_ | refine z01 ?_ | refine z02 ?_ | refine z04 ?_ | refine z05 ?_ | refine z08 ?_ | refine zp ?_ | refine z0g ?_ | refine z0h ?_ | refine z0j ?_ | refine z0k ?_
      | refine z0l ?_ | refine z0n ?_ | refine z0o ?_ | refine z0p ?_ | refine z0q ?_ | refine z0r ?_ | refine z0s ?_ | refine z0v ?_ | refine z0z ?_ | refine z12 ?_ | refine z14 ?_
      | refine z15 ?_ | refine z1e ?_ | refine z1f (hk := ?_) | refine z1i ?_ | refine z1j ?_ | refine z1k ?_ | refine z1l ?_ | refine z1m ?_ | refine z1n ?_
      | refine z1o (fun hp => ?_) (fun hp => ?_) | refine z1p (fun hp => ?_) (fun hp => ?_) | refine z1q (fun hp => ?_) (fun hp => ?_) | refine z1r ?_ | refine z1s ?_ | refine z1t ?_
      | refine z1u ?_ | refine z1v ?_ | refine z1w ?_ | refine z1x ?_ | refine z1y ?_ | refine z1z ?_ | refine z20 ?_ | refine z21 ?_ | refine z22 ?_ | refine z23 ?_ | refine z24 ?_
      | refine z25 ?_ | refine z26 ?_ | refine z27 ?_ | refine z28 (fun hp => ?_) (fun hp => ?_) | refine z29 (fun hp => ?_) (fun hp => ?_) | refine z2a ?_ | refine z2b ?_)
    refine wx_loopL ?_
    refine key (to - (i + 1)) (i + 1) (by omega) (by omega) [] .nils .nils [] [] .nil .nil (fun q h => by cases h) (by simp) (by simp) ?_
    intro m' u' w' g1 g2 g3
    have hs1 : endsF l (·.soft) i to = endsG l (·.soft) i (to - (i + 1)) (i + 1) := rfl
    have hln := endsF_len (l := l) (is := (·.soft)) (i := i) (to := to)
    simp only [List.nil_append] at g1 g2
    rw [← hs1] at g1
    obtain ⟨v2, m2, a1, a2, a3, a4, a5⟩ := g1.add1' (bytes := 8) (sz := 1) (y := (to : Int)) (cs := [.int .i64 (to : Int)]) (kc := some 1) (by omega) (by omega) rfl rfl
    have g2' := g2.keep fun q hq => a4 q (g2.lt hq).2 (fun h => g3 q h hq)
    repeat' (first
      | refine wo_app rfl rfl a1 rfl ?_
      | refine z00 ?_ | refine z01 ?_ | refine z02 ?_ | refine z04 ?_ | refine z05 ?_ | refine z08 ?_ | refine zp ?_ | refine z0g ?_ | refine z0h ?_ | refine z0j ?_ | refine z0k ?_
      | refine z0l ?_ | refine z0n ?_ | refine z0o ?_ | refine z0p ?_ | refine z0q ?_ | refine z0r ?_ | refine z0s ?_ | refine z0v ?_ | refine z0z ?_ | refine z12 ?_ | refine z14 ?_
      | refine z15 ?_ | refine z1e ?_ | refine z1f (hk := ?_) | refine z1i ?_ | refine z1j ?_ | refine z1k ?_ | refine z1l ?_ | refine z1m ?_ | refine z1n ?_
      | refine z1o (fun hp => ?_) (fun hp => ?_) | refine z1p (fun hp => ?_) (fun hp => ?_) | refine z1q (fun hp => ?_) (fun hp => ?_) | refine z1r ?_ | refine z1s ?_ | refine z1t ?_
      | refine z1u ?_ | refine z1v ?_ | refine z1w ?_ | refine z1x ?_ | refine z1y ?_ | refine z1z ?_ | refine z20 ?_ | refine z21 ?_ | refine z22 ?_ | refine z23 ?_ | refine z24 ?_
      | refine z25 ?_ | refine z26 ?_ | refine z27 ?_ | refine z28 (fun hp => ?_) (fun hp => ?_) | refine z29 (fun hp => ?_) (fun hp => ?_) | refine z2a ?_ | refine z2b ?_)
    refine fin_own3 a2.own g2'.own rfl fun x y hx hy => h2 hb x y ?_ ?_
    · unfold softs; rw [hto]; exact hx
    · unfold emergs endsF; rw [hto]; exact hy

/-- Does an end fit? -/
def fits14 (l : List Cell) (i : Nat) (r : Room) (q : Int) : Bool × Int := (decide ((fitsF l i r q).2 = 0) && (fitsF l i r q).1, (fitsF l i r q).2)

theorem c_Fits14 {l : List Cell} {v : MV} {i : Nat} {r : Room} {q : Int} {p : Bool × Int} (hp : fits14 l i r q = p) (hv : Sl KCell l v) (hl : l.length ≤ 1000000) (hc : ∀ c ∈ l, c.ok) (hs : I64 r.start) (hq : (i : Int) ≤ q ∧ q ≤ l.length) (hQ : Q (.tup [.bool p.1, .int .i64 p.2]) m ls) :
    Wc ip f_ref14_Fits [v, .int .i64 i, .int .i64 q, .agg r.mv] m ls Q := by
  subst hp
  refine wc_fn3d rfl fn_ref14_Fits rfl (by simp [deepVs, deepV, hv.deep, Room.mv]) rfl ?_
  repeat' (first
    | refine z00 ?_ | refine z01 ?_ | refine z02 ?_ | refine z04 ?_ | refine z05 ?_ | refine z08 ?_ | refine zp ?_ | refine z0g ?_ | refine z0h ?_ | refine z0j ?_ | refine z0k ?_
    | refine z0l ?_ | refine z0n ?_ | refine z0o ?_ | refine z0p ?_ | refine z0q ?_ | refine z0r ?_ | refine z0s ?_ | refine z0v ?_ | refine z0z ?_ | refine z12 ?_ | refine z14 ?_
    | refine z15 ?_ | refine z1e ?_ | refine z1f (hk := ?_) | refine z1i ?_ | refine z1j ?_ | refine z1k ?_ | refine z1l ?_ | refine z1m ?_ | refine z1n ?_
    | refine z1o (fun hp => ?_) (fun hp => ?_) | refine z1p (fun hp => ?_) (fun hp => ?_) | refine z1q (fun hp => ?_) (fun hp => ?_) | refine z1r ?_ | refine z1s ?_ | refine z1t ?_
    | refine z1u ?_ | refine z1v ?_ | refine z1w ?_ | refine z1x ?_ | refine z1y ?_ | refine z1z ?_ | refine z20 ?_ | refine z21 ?_ | refine z22 ?_ | refine z23 ?_ | refine z24 ?_
    | refine z25 ?_ | refine z26 ?_ | refine z27 ?_ | refine z28 (fun hp => ?_) (fun hp => ?_) | refine z29 (fun hp => ?_) (fun hp => ?_) | refine z2a ?_ | refine z2b ?_)
  refine wo_sliceS rfl hv rfl rfl (by omega) rfl rfl fun v' hv' => ?_
  have hv'' : Sl KCell (cut l i q.toNat) v' := hv'
  have hcl := cut_len (l := l) (i := i) (j := q.toNat) (by omega) (by omega)
  unfold fits14 fitsF at hQ
  by_cases he : (fitL (cut l i q.toNat) r.start).2 = 0
  · simp only [he, decide_true, Bool.true_and] at hQ
    repeat' (first
      | refine wo_call rfl rfl rfl (c_Fits13 hv'' (by omega) (cut_ok hc) hs ?_)
      | refine wo_guardDT rfl he rfl ?_
      | refine z00 ?_ | refine z01 ?_ | refine z02 ?_ | refine z04 ?_ | refine z05 ?_ | refine z08 ?_ | refine zp ?_ | refine z0g ?_ | refine z0h ?_ | refine z0j ?_ | refine z0k ?_
      | refine z0l ?_ | refine z0n ?_ | refine z0o ?_ | refine z0p ?_ | refine z0q ?_ | refine z0r ?_ | refine z0s ?_ | refine z0v ?_ | refine z0z ?_ | refine z12 ?_ | refine z14 ?_
      | refine z15 ?_ | refine z1e ?_ | refine z1f (hk := ?_) | refine z1i ?_ | refine z1j ?_ | refine z1k ?_ | refine z1l ?_ | refine z1m ?_ | refine z1n ?_
      | refine z1o (fun hp => ?_) (fun hp => ?_) | refine z1p (fun hp => ?_) (fun hp => ?_) | refine z1q (fun hp => ?_) (fun hp => ?_) | refine z1r ?_ | refine z1s ?_ | refine z1t ?_
      | refine z1u ?_ | refine z1v ?_ | refine z1w ?_ | refine z1x ?_ | refine z1y ?_ | refine z1z ?_ | refine z20 ?_ | refine z21 ?_ | refine z22 ?_ | refine z23 ?_ | refine z24 ?_
      | refine z25 ?_ | refine z26 ?_ | refine z27 ?_ | refine z28 (fun hp => ?_) (fun hp => ?_) | refine z29 (fun hp => ?_) (fun hp => ?_) | refine z2a ?_ | refine z2b ?_)
    refine fin_cln rfl ?_
    simp only [one, two, he]
    exact hQ
  · simp only [he, decide_false, Bool.false_and] at hQ
    repeat' (first
      | refine wo_call rfl rfl rfl (c_Fits13 hv'' (by omega) (cut_ok hc) hs ?_)
      | refine wo_guardDF rfl he rfl ?_
      | refine z00 ?_ | refine z01 ?_ | refine z02 ?_ | refine z04 ?_ | refine z05 ?_ | refine z08 ?_ | refine zp ?_ | refine z0g ?_ | refine z0h ?_ | refine z0j ?_ | refine z0k ?_
      | refine z0l ?_ | refine z0n ?_ | refine z0o ?_ | refine z0p ?_ | refine z0q ?_ | refine z0r ?_ | refine z0s ?_ | refine z0v ?_ | refine z0z ?_ | refine z12 ?_ | refine z14 ?_
      | refine z15 ?_ | refine z1e ?_ | refine z1f (hk := ?_) | refine z1i ?_ | refine z1j ?_ | refine z1k ?_ | refine z1l ?_ | refine z1m ?_ | refine z1n ?_
      | refine z1o (fun hp => ?_) (fun hp => ?_) | refine z1p (fun hp => ?_) (fun hp => ?_) | refine z1q (fun hp => ?_) (fun hp => ?_) | refine z1r ?_ | refine z1s ?_ | refine z1t ?_
      | refine z1u ?_ | refine z1v ?_ | refine z1w ?_ | refine z1x ?_ | refine z1y ?_ | refine z1z ?_ | refine z20 ?_ | refine z21 ?_ | refine z22 ?_ | refine z23 ?_ | refine z24 ?_
      | refine z25 ?_ | refine z26 ?_ | refine z27 ?_ | refine z28 (fun hp => ?_) (fun hp => ?_) | refine z29 (fun hp => ?_) (fun hp => ?_) | refine z2a ?_ | refine z2b ?_)
    exact fin_cln rfl hQ

/-- How many of some ends, from the first one on, fit. -/
def runG (fits : Int → Bool × Int) : Nat → List Int → Int × Int
  | n, [] => (n, 0)
  | n, q :: qs => if (fits q).2 ≠ 0 then (0, (fits q).2) else if (fits q).1 = false then (n, 0) else runG fits (n + 1) qs

theorem c_run14 {l : List Cell} {v w : MV} {i : Nat} {r : Room} {xs : List Int} {p : Int × Int} (hp : runG (fits14 l i r) 0 xs = p) (hv : Sl KCell l v) (hw : Sl KI64 xs w) (hl : l.length ≤ 1000000) (hxl : xs.length ≤ 1000001) (hc : ∀ c ∈ l, c.ok) (hs : I64 r.start) (hx : ∀ q ∈ xs, (i : Int) ≤ q ∧ q ≤ l.length) (hQ : Q (two p) m ls) :
    Wc ip f_ref14_run [v, .int .i64 i, w, .agg r.mv] m ls Q := by
  subst hp
  refine wc_fn3d rfl fn_ref14_run rfl (by simp [deepVs, deepV, hv.deep, hw.deep, Room.mv]) rfl ?_
  have key : ∀ (k n : Nat), n + k = xs.length → ∀ {R : Ex → As → Mem → List LRec → Prop}, (runG (fits14 l i r) n (xs.drop n) = ((xs.length : Int), 0) → R (.exit 0) [(10, .int .i64 xs.length)] [] []) → (∀ a b, runG (fits14 l i r) n (xs.drop n) = (a, b) → R .ret [(8, .int .i64 a), (9, .int .i64 b)] [] []) →
      Wx ip i_ref14_run.nt (.loop (lv [0, 1, 2, 7, 10] 37) ref14_run_b0) [(0, v), (1, .int .i64 i), (2, w), (7, .pimm r.mv 0), (10, .int .i64 n)] [] [] R := by
    intro k
    induction k with
    | zero =>
      intro n hk R h1 h2
      rw [List.drop_eq_nil_of_le (by omega)] at h1
      have e : n = xs.length := by omega
      subst e
      refine wx_roundL rfl ?_
      repeat' (first
        | refine wx_exitL [10] ?_
        | refine z00 ?_ | refine z01 ?_ | refine z02 ?_ | refine z04 ?_ | refine z05 ?_ | refine z08 ?_ | refine zp ?_ | refine z0g ?_ | refine z0h ?_ | refine z0j ?_ | refine z0k ?_
        | refine z0l ?_ | refine z0n ?_ | refine z0o ?_ | refine z0p ?_ | refine z0q ?_ | refine z0r ?_ | refine z0s ?_ | refine z0v ?_ | refine z0z ?_ | refine z12 ?_ | refine z14 ?_
        | refine z15 ?_ | refine z1e ?_ | refine z1f (hk := ?_) | refine z1i ?_ | refine z1j ?_ | refine z1k ?_ | refine z1l ?_ | refine z1m ?_ | refine z1n ?_
        | refine z1o (fun hp => ?_) (fun hp => ?_) | refine z1p (fun hp => ?_) (fun hp => ?_) | refine z1q (fun hp => ?_) (fun hp => ?_) | refine z1r ?_ | refine z1s ?_ | refine z1t ?_
        | refine z1u ?_ | refine z1v ?_ | refine z1w ?_ | refine z1x ?_ | refine z1y ?_ | refine z1z ?_ | refine z20 ?_ | refine z21 ?_ | refine z22 ?_ | refine z23 ?_ | refine z24 ?_
        | refine z25 ?_ | refine z26 ?_ | refine z27 ?_ | refine z28 (fun hp => ?_) (fun hp => ?_) | refine z29 (fun hp => ?_) (fun hp => ?_) | refine z2a ?_ | refine z2b ?_)
      exact h1 rfl
    | succ k ih =>
      intro n hk R h1 h2
      have hlt : n < xs.length := by omega
      rw [List.drop_eq_getElem_cons hlt] at h1 h2
      simp only [runG] at h1 h2
      have hxn := hx _ (List.getElem_mem hlt)
      generalize hfe : fits14 l i r xs[n] = fe at h1 h2
      obtain ⟨good, e⟩ := fe
      simp only at h1 h2
      refine wx_roundL rfl ?_
      by_cases he : e ≠ 0
      · rw [if_pos he] at h2
        repeat' (first
          | refine wo_call rfl rfl rfl (c_Fits14 hfe hv hl hc hs hxn ?_)
          | refine wx_ifDT rfl he ?_
          | refine wx_retL [8, 9] ?_
          | refine z00 ?_ | refine z01 ?_ | refine z02 ?_ | refine z04 ?_ | refine z05 ?_ | refine z08 ?_ | refine zp ?_ | refine z0g ?_ | refine z0h ?_ | refine z0j ?_ | refine z0k ?_
          | refine z0l ?_ | refine z0n ?_ | refine z0o ?_ | refine z0p ?_ | refine z0q ?_ | refine z0r ?_ | refine z0s ?_ | refine z0v ?_ | refine z0z ?_ | refine z12 ?_ | refine z14 ?_
          | refine z15 ?_ | refine z1e ?_ | refine z1f (hk := ?_) | refine z1i ?_ | refine z1j ?_ | refine z1k ?_ | refine z1l ?_ | refine z1m ?_ | refine z1n ?_
          | refine z1o (fun hp => ?_) (fun hp => ?_) | refine z1p (fun hp => ?_) (fun hp => ?_) | refine z1q (fun hp => ?_) (fun hp => ?_) | refine z1r ?_ | refine z1s ?_ | refine z1t ?_
          | refine z1u ?_ | refine z1v ?_ | refine z1w ?_ | refine z1x ?_ | refine z1y ?_ | refine z1z ?_ | refine z20 ?_ | refine z21 ?_ | refine z22 ?_ | refine z23 ?_ | refine z24 ?_
          | refine z25 ?_ | refine z26 ?_ | refine z27 ?_ | refine z28 (fun hp => ?_) (fun hp => ?_) | refine z29 (fun hp => ?_) (fun hp => ?_) | refine z2a ?_ | refine z2b ?_)
        exact h2 _ _ rfl
      · have he0 : e = 0 := Decidable.byContradiction he
        subst he0
        rw [if_neg he] at h1 h2
        cases good with
        | false =>
          rw [if_pos rfl] at h2
          repeat' (first
            | refine wo_call rfl rfl rfl (c_Fits14 hfe hv hl hc hs hxn ?_)
            | refine wx_retL [8, 9] ?_
            | refine z00 ?_ | refine z01 ?_ | refine z02 ?_ | refine z04 ?_ | refine z05 ?_ | refine z08 ?_ | refine zp ?_ | refine z0g ?_ | refine z0h ?_ | refine z0j ?_ | refine z0k ?_
            | refine z0l ?_ | refine z0n ?_ | refine z0o ?_ | refine z0p ?_ | refine z0q ?_ | refine z0r ?_ | refine z0s ?_ | refine z0v ?_ | refine z0z ?_ | refine z12 ?_ | refine z14 ?_
            | refine z15 ?_ | refine z1e ?_ | refine z1f (hk := ?_) | refine z1i ?_ | refine z1j ?_ | refine z1k ?_ | refine z1l ?_ | refine z1m ?_ | refine z1n ?_
            | refine z1o (fun hp => ?_) (fun hp => ?_) | refine z1p (fun hp => ?_) (fun hp => ?_) | refine z1q (fun hp => ?_) (fun hp => ?_) | refine z1r ?_ | refine z1s ?_ | refine z1t ?_
            | refine z1u ?_ | refine z1v ?_ | refine z1w ?_ | refine z1x ?_ | refine z1y ?_ | refine z1z ?_ | refine z20 ?_ | refine z21 ?_ | refine z22 ?_ | refine z23 ?_ | refine z24 ?_
            | refine z25 ?_ | refine z26 ?_ | refine z27 ?_ | refine z28 (fun hp => ?_) (fun hp => ?_) | refine z29 (fun hp => ?_) (fun hp => ?_) | refine z2a ?_ | refine z2b ?_)
          exact h2 _ _ rfl
        | true =>
          rw [if_neg (by simp)] at h1 h2
          repeat' (first
            | refine wo_call rfl rfl rfl (c_Fits14 hfe hv hl hc hs hxn ?_)
            | refine z00 ?_ | refine z01 ?_ | refine z02 ?_ | refine z04 ?_ | refine z05 ?_ | refine z08 ?_ | refine zp ?_ | refine z0g ?_ | refine z0h ?_ | refine z0j ?_ | refine z0k ?_
            | refine z0l ?_ | refine z0n ?_ | refine z0o ?_ | refine z0p ?_ | refine z0q ?_ | refine z0r ?_ | refine z0s ?_ | refine z0v ?_ | refine z0z ?_ | refine z12 ?_ | refine z14 ?_
            | refine z15 ?_ | refine z1e ?_ | refine z1f (hk := ?_) | refine z1i ?_ | refine z1j ?_ | refine z1k ?_ | refine z1l ?_ | refine z1m ?_ | refine z1n ?_
            | refine z1o (fun hp => ?_) (fun hp => ?_) | refine z1p (fun hp => ?_) (fun hp => ?_) | refine z1q (fun hp => ?_) (fun hp => ?_) | refine z1r ?_ | refine z1s ?_ | refine z1t ?_
            | refine z1u ?_ | refine z1v ?_ | refine z1w ?_ | refine z1x ?_ | refine z1y ?_ | refine z1z ?_ | refine z20 ?_ | refine z21 ?_ | refine z22 ?_ | refine z23 ?_ | refine z24 ?_
            | refine z25 ?_ | refine z26 ?_ | refine z27 ?_ | refine z28 (fun hp => ?_) (fun hp => ?_) | refine z29 (fun hp => ?_) (fun hp => ?_) | refine z2a ?_ | refine z2b ?_)
          exact wx_loopL (ih (n + 1) (by omega) h1 h2)
  repeat' (first
    | refine z00 ?_ | refine z01 ?_ | refine z02 ?_ | refine z04 ?_ | refine z05 ?_ | refine z08 ?_ | refine zp ?_ | refine z0g ?_ | refine z0h ?_ | refine z0j ?_ | refine z0k ?_
    | refine z0l ?_ | refine z0n ?_ | refine z0o ?_ | refine z0p ?_ | refine z0q ?_ | refine z0r ?_ | refine z0s ?_ | refine z0v ?_ | refine z0z ?_ | refine z12 ?_ | refine z14 ?_
    | refine z15 ?_ | refine z1e ?_ | refine z1f (hk := ?_) | refine z1i ?_ | refine z1j ?_ | refine z1k ?_ | refine z1l ?_ | refine z1m ?_ | refine z1n ?_
    | refine z1o (fun hp => ?_) (fun hp => ?_) | refine z1p (fun hp => ?_) (fun hp => ?_) | refine z1q (fun hp => ?_) (fun hp => ?_) | refine z1r ?_ | refine z1s ?_ | refine z1t ?_
    | refine z1u ?_ | refine z1v ?_ | refine z1w ?_ | refine z1x ?_ | refine z1y ?_ | refine z1z ?_ | refine z20 ?_ | refine z21 ?_ | refine z22 ?_ | refine z23 ?_ | refine z24 ?_
    | refine z25 ?_ | refine z26 ?_ | refine z27 ?_ | refine z28 (fun hp => ?_) (fun hp => ?_) | refine z29 (fun hp => ?_) (fun hp => ?_) | refine z2a ?_ | refine z2b ?_)
  refine wx_loopL ?_
  refine key xs.length 0 (by omega) ?_ ?_
  · intro h
    have e : runG (fits14 l i r) 0 xs = ((xs.length : Int), 0) := h
    rw [e] at hQ
    repeat' (first
      | refine z00 ?_ | refine z01 ?_ | refine z02 ?_ | refine z04 ?_ | refine z05 ?_ | refine z08 ?_ | refine zp ?_ | refine z0g ?_ | refine z0h ?_ | refine z0j ?_ | refine z0k ?_
      | refine z0l ?_ | refine z0n ?_ | refine z0o ?_ | refine z0p ?_ | refine z0q ?_ | refine z0r ?_ | refine z0s ?_ | refine z0v ?_ | refine z0z ?_ | refine z12 ?_ | refine z14 ?_
      | refine z15 ?_ | refine z1e ?_ | refine z1f (hk := ?_) | refine z1i ?_ | refine z1j ?_ | refine z1k ?_ | refine z1l ?_ | refine z1m ?_ | refine z1n ?_
      | refine z1o (fun hp => ?_) (fun hp => ?_) | refine z1p (fun hp => ?_) (fun hp => ?_) | refine z1q (fun hp => ?_) (fun hp => ?_) | refine z1r ?_ | refine z1s ?_ | refine z1t ?_
      | refine z1u ?_ | refine z1v ?_ | refine z1w ?_ | refine z1x ?_ | refine z1y ?_ | refine z1z ?_ | refine z20 ?_ | refine z21 ?_ | refine z22 ?_ | refine z23 ?_ | refine z24 ?_
      | refine z25 ?_ | refine z26 ?_ | refine z27 ?_ | refine z28 (fun hp => ?_) (fun hp => ?_) | refine z29 (fun hp => ?_) (fun hp => ?_) | refine z2a ?_ | refine z2b ?_)
    exact fin_cln rfl hQ
  · intro a b h
    have e : runG (fits14 l i r) 0 xs = (a, b) := h
    rw [e] at hQ
    repeat' (first | refine then_r ?_ | refine block_r ?_)
    refine end_r rfl ?_
    exact fin_cln rfl hQ

theorem c_ahead14 {xs : List Int} {v : MV} {p : Int} (hv : Sl KI64 xs v) (hl : xs.length ≤ 1000001) (hQ : ∀ u, Sl KI64 (nearF xs p) u → Q u m ls) : Wc ip f_ref14_ahead [v, .int .i64 p] m ls Q := by
  refine wc_fn3d rfl fn_ref14_ahead rfl (by simp [deepVs, deepV, hv.deep]) rfl ?_
  have key : ∀ (k j : Nat), j + k = xs.length → ∀ (m : Mem) (u : MV), Hold KI64 0 (nearF (xs.take j) p) m u → ∀ {R : Ex → As → Mem → List LRec → Prop}, (∀ m' u', Hold KI64 0 (nearF xs p) m' u' → R (.exit 0) [(5, u')] m' []) →
      Wx ip i_ref14_ahead.nt (.loop (lv [0, 1, 5, 6] 27) ref14_ahead_b0) [(0, v), (1, .int .i64 p), (5, u), (6, .int .i64 j)] m [] R := by
    intro k
    induction k with
    | zero =>
      intro j hk m u hu R hR
      rw [List.take_of_length_le (by omega)] at hu
      refine wx_roundL rfl ?_
      repeat' (first
        | refine wx_exitL [5] ?_
        | refine z00 ?_ | refine z01 ?_ | refine z02 ?_ | refine z04 ?_ | refine z05 ?_ | refine z08 ?_ | refine zp ?_ | refine z0g ?_ | refine z0h ?_ | refine z0j ?_ | refine z0k ?_
        | refine z0l ?_ | refine z0n ?_ | refine z0o ?_ | refine z0p ?_ | refine z0q ?_ | refine z0r ?_ | refine z0s ?_ | refine z0v ?_ | refine z0z ?_ | refine z12 ?_ | refine z14 ?_
        | refine z15 ?_ | refine z1e ?_ | refine z1f (hk := ?_) | refine z1i ?_ | refine z1j ?_ | refine z1k ?_ | refine z1l ?_ | refine z1m ?_ | refine z1n ?_
        | refine z1o (fun hp => ?_) (fun hp => ?_) | refine z1p (fun hp => ?_) (fun hp => ?_) | refine z1q (fun hp => ?_) (fun hp => ?_) | refine z1r ?_ | refine z1s ?_ | refine z1t ?_
        | refine z1u ?_ | refine z1v ?_ | refine z1w ?_ | refine z1x ?_ | refine z1y ?_ | refine z1z ?_ | refine z20 ?_ | refine z21 ?_ | refine z22 ?_ | refine z23 ?_ | refine z24 ?_
        | refine z25 ?_ | refine z26 ?_ | refine z27 ?_ | refine z28 (fun hp => ?_) (fun hp => ?_) | refine z29 (fun hp => ?_) (fun hp => ?_) | refine z2a ?_ | refine z2b ?_)
      exact hR _ _ hu
    | succ k ih =>
      intro j hk m u hu R hR
      have hlt : j < xs.length := by omega
      have htk : nearF (xs.take (j + 1)) p = nearF (xs.take j) p ++ (if xs[j] < p then [xs[j]] else []) := by
        unfold nearF
        rw [List.take_succ_eq_append_getElem hlt, List.filter_append]
        by_cases hq : xs[j] < p <;> simp [hq]
      refine wx_roundL rfl ?_
      by_cases hq : xs[j] < p
      · rw [if_pos hq] at htk
        have hnl : (nearF (xs.take j) p).length ≤ j := by
          unfold nearF
          exact Nat.le_trans (List.length_filter_le _ _) (by simp; omega)
        obtain ⟨v2, m2, a1, a2, a3, a4⟩ := hu.add1 (bytes := 8) (sz := 1) (y := xs[j]) (cs := [.int .i64 xs[j]]) (kc := some 1) (by omega) (by omega) rfl rfl
        repeat' (first
          | refine wx_ifDT rfl hq ?_
          | refine wo_app rfl rfl a1 rfl ?_
          | refine z00 ?_ | refine z01 ?_ | refine z02 ?_ | refine z04 ?_ | refine z05 ?_ | refine z08 ?_ | refine zp ?_ | refine z0g ?_ | refine z0h ?_ | refine z0j ?_ | refine z0k ?_
          | refine z0l ?_ | refine z0n ?_ | refine z0o ?_ | refine z0p ?_ | refine z0q ?_ | refine z0r ?_ | refine z0s ?_ | refine z0v ?_ | refine z0z ?_ | refine z12 ?_ | refine z14 ?_
          | refine z15 ?_ | refine z1e ?_ | refine z1f (hk := ?_) | refine z1i ?_ | refine z1j ?_ | refine z1k ?_ | refine z1l ?_ | refine z1m ?_ | refine z1n ?_
          | refine z1o (fun hp => ?_) (fun hp => ?_) | refine z1p (fun hp => ?_) (fun hp => ?_) | refine z1q (fun hp => ?_) (fun hp => ?_) | refine z1r ?_ | refine z1s ?_ | refine z1t ?_
          | refine z1u ?_ | refine z1v ?_ | refine z1w ?_ | refine z1x ?_ | refine z1y ?_ | refine z1z ?_ | refine z20 ?_ | refine z21 ?_ | refine z22 ?_ | refine z23 ?_ | refine z24 ?_
          | refine z25 ?_ | refine z26 ?_ | refine z27 ?_ | refine z28 (fun hp => ?_) (fun hp => ?_) | refine z29 (fun hp => ?_) (fun hp => ?_) | refine z2a ?_ | refine z2b ?_)
        refine wx_loopL ?_
        exact ih (j + 1) (by omega) m2 v2 (by rw [htk]; exact a2) hR
      · rw [if_neg hq, List.append_nil] at htk
        repeat' (first
          | refine wx_ifDF rfl hq ?_
          | refine z00 ?_ | refine z01 ?_ | refine z02 ?_ | refine z04 ?_ | refine z05 ?_ | refine z08 ?_ | refine zp ?_ | refine z0g ?_ | refine z0h ?_ | refine z0j ?_ | refine z0k ?_
          | refine z0l ?_ | refine z0n ?_ | refine z0o ?_ | refine z0p ?_ | refine z0q ?_ | refine z0r ?_ | refine z0s ?_ | refine z0v ?_ | refine z0z ?_ | refine z12 ?_ | refine z14 ?_
          | refine z15 ?_ | refine z1e ?_ | refine z1f (hk := ?_) | refine z1i ?_ | refine z1j ?_ | refine z1k ?_ | refine z1l ?_ | refine z1m ?_ | refine z1n ?_
          | refine z1o (fun hp => ?_) (fun hp => ?_) | refine z1p (fun hp => ?_) (fun hp => ?_) | refine z1q (fun hp => ?_) (fun hp => ?_) | refine z1r ?_ | refine z1s ?_ | refine z1t ?_
          | refine z1u ?_ | refine z1v ?_ | refine z1w ?_ | refine z1x ?_ | refine z1y ?_ | refine z1z ?_ | refine z20 ?_ | refine z21 ?_ | refine z22 ?_ | refine z23 ?_ | refine z24 ?_
          | refine z25 ?_ | refine z26 ?_ | refine z27 ?_ | refine z28 (fun hp => ?_) (fun hp => ?_) | refine z29 (fun hp => ?_) (fun hp => ?_) | refine z2a ?_ | refine z2b ?_)
        refine wx_loopL ?_
        exact ih (j + 1) (by omega) m u (by rw [htk]; exact hu) hR
  repeat' (first
    | refine z00 ?_ | refine z01 ?_ | refine z02 ?_ | refine z04 ?_ | refine z05 ?_ | refine z08 ?_ | refine zp ?_ | refine z0g ?_ | refine z0h ?_ | refine z0j ?_ | refine z0k ?_
    | refine z0l ?_ | refine z0n ?_ | refine z0o ?_ | refine z0p ?_ | refine z0q ?_ | refine z0r ?_ | refine z0s ?_ | refine z0v ?_ | refine z0z ?_ | refine z12 ?_ | refine z14 ?_
    | refine z15 ?_ | refine z1e ?_ | refine z1f (hk := ?_) | refine z1i ?_ | refine z1j ?_ | refine z1k ?_ | refine z1l ?_ | refine z1m ?_ | refine z1n ?_
    | refine z1o (fun hp => ?_) (fun hp => ?_) | refine z1p (fun hp => ?_) (fun hp => ?_) | refine z1q (fun hp => ?_) (fun hp => ?_) | refine z1r ?_ | refine z1s ?_ | refine z1t ?_
    | refine z1u ?_ | refine z1v ?_ | refine z1w ?_ | refine z1x ?_ | refine z1y ?_ | refine z1z ?_ | refine z20 ?_ | refine z21 ?_ | refine z22 ?_ | refine z23 ?_ | refine z24 ?_
    | refine z25 ?_ | refine z26 ?_ | refine z27 ?_ | refine z28 (fun hp => ?_) (fun hp => ?_) | refine z29 (fun hp => ?_) (fun hp => ?_) | refine z2a ?_ | refine z2b ?_)
  refine wx_loopL ?_
  refine key xs.length 0 (by omega) [] .nils .nil ?_
  intro m' u' hu'
  repeat' (first
    | refine z00 ?_ | refine z01 ?_ | refine z02 ?_ | refine z04 ?_ | refine z05 ?_ | refine z08 ?_ | refine zp ?_ | refine z0g ?_ | refine z0h ?_ | refine z0j ?_ | refine z0k ?_
    | refine z0l ?_ | refine z0n ?_ | refine z0o ?_ | refine z0p ?_ | refine z0q ?_ | refine z0r ?_ | refine z0s ?_ | refine z0v ?_ | refine z0z ?_ | refine z12 ?_ | refine z14 ?_
    | refine z15 ?_ | refine z1e ?_ | refine z1f (hk := ?_) | refine z1i ?_ | refine z1j ?_ | refine z1k ?_ | refine z1l ?_ | refine z1m ?_ | refine z1n ?_
    | refine z1o (fun hp => ?_) (fun hp => ?_) | refine z1p (fun hp => ?_) (fun hp => ?_) | refine z1q (fun hp => ?_) (fun hp => ?_) | refine z1r ?_ | refine z1s ?_ | refine z1t ?_
    | refine z1u ?_ | refine z1v ?_ | refine z1w ?_ | refine z1x ?_ | refine z1y ?_ | refine z1z ?_ | refine z20 ?_ | refine z21 ?_ | refine z22 ?_ | refine z23 ?_ | refine z24 ?_
    | refine z25 ?_ | refine z26 ?_ | refine z27 ?_ | refine z28 (fun hp => ?_) (fun hp => ?_) | refine z29 (fun hp => ?_) (fun hp => ?_) | refine z2a ?_ | refine z2b ?_)
  exact fin_own hu'.own hQ

end
end Go.Proofs.Ytnekgoanadbmmaa
