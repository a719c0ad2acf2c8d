/-
The document's lines are the program's: ref14.One, ref14.Lines.
-/
import Derived.Test.YtnekgoanadbmmaaHd
namespace Go.Proofs.Ytnekgoanadbmmaa
open Go.Mini
set_option linter.unusedSimpArgs false
set_option linter.unusedVariables false
set_option maxHeartbeats 4000000

section
variable {m : Mem} {ls : List LRec} {Q : MV → Mem → List LRec → Prop}

/-! ### Plainly -/

theorem fits14_eq {l : List Cell} {i : Nat} {r : Room} {q : Int} (h : (fitsF l i r q).2 = 0) : fits14 l i r q = fitsF l i r q := by
  unfold fits14
  rw [h]
  exact Prod.ext (by simp) h.symm

/-- How far one comes, counted, is how far one comes. -/
theorem run_reach {l : List Cell} {i : Nat} {r : Room} : ∀ (xs : List Int) (n : Nat) (p : Int) (b : Bool), (b = true ↔ n = 0) →
    (∃ e, e ≠ 0 ∧ runG (fits14 l i r) n xs = (0, e) ∧ (reachG (fitsF l i r) p b xs) = (0, false, e)) ∨
    (∃ k : Nat, k ≤ xs.length ∧ runG (fits14 l i r) n xs = (((n + k : Nat) : Int), (0 : Int)) ∧ reachG (fitsF l i r) p b xs = (if k = 0 then (if b = true then (match xs with | [] => (p, true, (0 : Int)) | q :: _ => (q, false, (0 : Int))) else (p, true, (0 : Int))) else (xs.getD (k - 1) 0, true, (0 : Int))))
  | [], n, p, b, hb => by
    right
    refine ⟨0, by simp, rfl, ?_⟩
    simp [reachG]
  | q :: qs, n, p, b, hb => by
    by_cases he : (fitsF l i r q).2 ≠ 0
    · left
      refine ⟨(fitsF l i r q).2, he, ?_, ?_⟩
      · simp only [runG]
        rw [if_pos (show (fits14 l i r q).2 ≠ 0 from he)]; rfl
      · simp only [reachG]
        rw [if_pos he]
    · have he0 : (fitsF l i r q).2 = 0 := Decidable.byContradiction he
      have hf := fits14_eq he0
      by_cases hg : (fitsF l i r q).1 = false
      · right
        refine ⟨0, by simp, ?_, ?_⟩
        · simp only [runG, hf]
          rw [if_neg he, if_pos hg]; rfl
        · simp only [reachG]
          rw [if_neg he, if_pos hg]
          simp
      · rcases run_reach qs (n + 1) q false (by simp) with ⟨e, h1, h2, h3⟩ | ⟨k, h1, h2, h3⟩
        · left
          refine ⟨e, h1, ?_, ?_⟩
          · simp only [runG, hf]
            rw [if_neg he, if_neg hg]; exact h2
          · simp only [reachG]
            rw [if_neg he, if_neg hg]; exact h3
        · right
          refine ⟨k + 1, by simp; omega, ?_, ?_⟩
          · simp only [runG, hf]
            rw [if_neg he, if_neg hg, h2]
            congr 2; omega
          · simp only [reachG]
            rw [if_neg he, if_neg hg, h3, if_neg (show ¬ k + 1 = 0 by omega)]
            by_cases hk : k = 0
            · subst hk; simp
            · rw [if_neg hk]
              obtain ⟨j, rfl⟩ : ∃ j, k = j + 1 := ⟨k - 1, by omega⟩
              simp

theorem run_cases {l : List Cell} {i : Nat} {r : Room} {xs : List Int} (hne : xs ≠ []) :
    (∃ e, e ≠ 0 ∧ runG (fits14 l i r) 0 xs = (0, e) ∧ reachF (fitsF l i r) xs = (0, false, e)) ∨
    (runG (fits14 l i r) 0 xs = (0, 0) ∧ reachF (fitsF l i r) xs = (xs.getD 0 0, false, 0)) ∨
    (∃ k : Nat, k + 1 ≤ xs.length ∧ runG (fits14 l i r) 0 xs = (((k + 1 : Nat) : Int), (0 : Int)) ∧ reachF (fitsF l i r) xs = (xs.getD k 0, true, 0)) := by
  unfold reachF
  rcases run_reach (l := l) (i := i) (r := r) xs 0 0 true (by simp) with h | ⟨k, h1, h2, h3⟩
  · exact .inl h
  · right
    by_cases hk : k = 0
    · subst hk
      left
      refine ⟨h2, ?_⟩
      rw [h3]
      cases xs with
      | nil => exact absurd rfl hne
      | cons q qs => simp
    · right
      refine ⟨k - 1, by omega, ?_, ?_⟩
      · rw [h2]; congr 2; omega
      · rw [h3, if_neg hk]

/-! ### ref14.One -/

theorem wo_mxV {P : IProg} {nt : Nat} {A : As} {d : Option Nat} {l : List IOper} {Q : As → Mem → List LRec → Prop} {x y : Opd} {k j : IntKind} {a b c : Int} (h : max a b = c) (hx : lk A x = some (.int k a)) (hy : lk A y = some (.int j b)) (hd : okD nt d = true) (hk : Wo P nt l (putA A d (.int k c)) m ls Q) : Wo P nt (⟨d, none, .mx x y⟩ :: l) A m ls Q := by
  subst h
  exact wo_mx hx hy hd hk

theorem max_pred (k : Nat) : max (((k + 1 : Nat) : Int) - 1) 0 = (k : Int) := by omega
theorem max_neg : max ((0 : Int) - 1) 0 = ((0 : Nat) : Int) := by decide

theorem c_One14 {l : List Cell} {v : MV} {i : Nat} {r : Room} {p : Line × Int} (hp : oneF l i r = p) (hv : Sl KCell l v) (hl : l.length ≤ 1000000) (hc : ∀ c ∈ l, c.ok) (hs : I64 r.start) (hi : i ≤ l.length) (hQ : Q (lineE p) m ls) :
    Wc ip f_ref14_One [v, .int .i64 i, .agg r.mv] m ls Q := by
  subst hp
  refine wc_fn3d rfl fn_ref14_One rfl (by simp [deepVs, hv.deep, deepV, Room.mv]) rfl ?_
  cases hb : l.any badTab with
  | true =>
    have e : oneF l i r = (badLine, 2) := by unfold oneF; rw [if_pos (.inl hb)]
    rw [e] at hQ
    repeat' (first
      | refine wo_call rfl rfl rfl (c_Ends14 hv hl hi (fun _ => ?_) (fun h => absurd h (by rw [hb]; simp)))
      | refine z00 ?_ | refine z01 ?_ | refine z02 ?_ | refine z04 ?_ | refine z05 ?_ | refine z08 ?_ | refine zp ?_ | refine z0g ?_ | refine z0h ?_ | refine z0j ?_ | refine z0k ?_
      | refine z0l ?_ | refine z0n ?_ | refine z0o ?_ | refine z0p ?_ | refine z0q ?_ | refine z0r ?_ | refine z0s ?_ | refine z0v ?_ | refine z0z ?_ | refine z12 ?_ | refine z14 ?_
      | refine z15 ?_ | refine z1e ?_ | refine z1f (hk := ?_) | refine z1i ?_ | refine z1j ?_ | refine z1k ?_ | refine z1l ?_ | refine z1m ?_ | refine z1n ?_
      | refine z1o (fun hp => ?_) (fun hp => ?_) | refine z1p (fun hp => ?_) (fun hp => ?_) | refine z1q (fun hp => ?_) (fun hp => ?_) | refine z1r ?_ | refine z1s ?_ | refine z1t ?_
      | refine z1u ?_ | refine z1v ?_ | refine z1w ?_ | refine z1x ?_ | refine z1y ?_ | refine z1z ?_ | refine z20 ?_ | refine z21 ?_ | refine z22 ?_ | refine z23 ?_ | refine z24 ?_
      | refine z25 ?_ | refine z26 ?_ | refine z27 ?_ | refine z28 (fun hp => ?_) (fun hp => ?_) | refine z29 (fun hp => ?_) (fun hp => ?_) | refine z2a ?_ | refine z2b ?_)
    exact fin_cln rfl hQ
  | false =>
    by_cases hw : r.width < 0
    · have e : oneF l i r = (badLine, 2) := by unfold oneF; rw [if_pos (.inr hw)]
      rw [e] at hQ
      repeat' (first
        | refine wo_call rfl rfl rfl (c_Ends14 hv hl hi (fun h => absurd h (by rw [hb]; simp)) (fun _ a b ha hb2 => ?_))
        | refine z00 ?_ | refine z01 ?_ | refine z02 ?_ | refine z04 ?_ | refine z05 ?_ | refine z08 ?_ | refine zp ?_ | refine z0g ?_ | refine z0h ?_ | refine z0j ?_ | refine z0k ?_
        | refine z0l ?_ | refine z0n ?_ | refine z0o ?_ | refine z0p ?_ | refine z0q ?_ | refine z0r ?_ | refine z0s ?_ | refine z0v ?_ | refine z0z ?_ | refine z12 ?_ | refine z14 ?_
        | refine z15 ?_ | refine z1e ?_ | refine z1f (hk := ?_) | refine z1i ?_ | refine z1j ?_ | refine z1k ?_ | refine z1l ?_ | refine z1m ?_ | refine z1n ?_
        | refine z1o (fun hp => ?_) (fun hp => ?_) | refine z1p (fun hp => ?_) (fun hp => ?_) | refine z1q (fun hp => ?_) (fun hp => ?_) | refine z1r ?_ | refine z1s ?_ | refine z1t ?_
        | refine z1u ?_ | refine z1v ?_ | refine z1w ?_ | refine z1x ?_ | refine z1y ?_ | refine z1z ?_ | refine z20 ?_ | refine z21 ?_ | refine z22 ?_ | refine z23 ?_ | refine z24 ?_
        | refine z25 ?_ | refine z26 ?_ | refine z27 ?_ | refine z28 (fun hp => ?_) (fun hp => ?_) | refine z29 (fun hp => ?_) (fun hp => ?_) | refine z2a ?_ | refine z2b ?_)
      exact fin_cln rfl hQ
    · have hm1 : ∀ q ∈ softs l i, (i : Int) ≤ q ∧ q ≤ l.length := fun q hq => ⟨(softs_mem hi hq).1, (softs_mem hi hq).2.1⟩
      have hm2 : ∀ q ∈ emergs l i, (i : Int) ≤ q ∧ q ≤ l.length := fun q hq => by have := emergs_mem hi hq; omega
      have hle := lastF_le hi
      have hln1 : (softs l i).length ≤ 1000001 := by
        have := endsF_len (l := l) (is := (·.soft)) (i := i) (to := (lastF l i).1)
        unfold softs; rw [List.length_append]; simp; omega
      have hln2 : (emergs l i).length ≤ 1000000 := by
        have := endsF_len (l := l) (is := (·.emerg)) (i := i) (to := (lastF l i).1)
        unfold emergs; omega
      have hsne : softs l i ≠ [] := by unfold softs; simp
      have hs0 : 0 < (softs l i).length := List.length_pos_iff.2 hsne
      have hone : oneF l i r = if (onePick l i r).2 ≠ 0 then (badLine, (onePick l i r).2) else (⟨i, (onePick l i r).1, (lastF l i).2 && decide ((onePick l i r).1 = (lastF l i).1)⟩, 0) := by
        unfold oneF; rw [if_neg (by rw [hb]; simp [hw])]
      rw [hone] at hQ
      clear hone
      have hpick : ∀ a b c, reachF (fitsF l i r) (softs l i) = (a, b, c) → onePick l i r = if c = 0 ∧ b = false ∧ nearF (emergs l i) a ≠ [] then ((reachF (fitsF l i r) (nearF (emergs l i) a)).1, (reachF (fitsF l i r) (nearF (emergs l i) a)).2.2) else (a, c) := by
        intro a b c h
        unfold onePick; rw [h]
      rcases run_cases (l := l) (i := i) (r := r) hsne with ⟨e, he, h1, h2⟩ | ⟨h1, h2⟩ | ⟨k, hk, h1, h2⟩
      · have hp1 : onePick l i r = (0, e) := by rw [hpick _ _ _ h2, if_neg (fun c => he c.1)]
        rw [hp1, if_pos he] at hQ
        repeat' (first
          | refine wo_call rfl rfl rfl (c_Ends14 hv hl hi (fun h => absurd h (by rw [hb]; simp)) (fun _ a b ha hb2 => ?_))
          | refine wo_call rfl rfl rfl (c_run14 h1 hv ha hl hln1 hc hs hm1 ?_)
          | refine wx_ifDT rfl he ?_
          | refine z00 ?_ | refine z01 ?_ | refine z02 ?_ | refine z04 ?_ | refine z05 ?_ | refine z08 ?_ | refine zp ?_ | refine z0g ?_ | refine z0h ?_ | refine z0j ?_ | refine z0k ?_
          | refine z0l ?_ | refine z0n ?_ | refine z0o ?_ | refine z0p ?_ | refine z0q ?_ | refine z0r ?_ | refine z0s ?_ | refine z0v ?_ | refine z0z ?_ | refine z12 ?_ | refine z14 ?_
          | refine z15 ?_ | refine z1e ?_ | refine z1f (hk := ?_) | refine z1i ?_ | refine z1j ?_ | refine z1k ?_ | refine z1l ?_ | refine z1m ?_ | refine z1n ?_
          | refine z1o (fun hp => ?_) (fun hp => ?_) | refine z1p (fun hp => ?_) (fun hp => ?_) | refine z1q (fun hp => ?_) (fun hp => ?_) | refine z1r ?_ | refine z1s ?_ | refine z1t ?_
          | refine z1u ?_ | refine z1v ?_ | refine z1w ?_ | refine z1x ?_ | refine z1y ?_ | refine z1z ?_ | refine z20 ?_ | refine z21 ?_ | refine z22 ?_ | refine z23 ?_ | refine z24 ?_
          | refine z25 ?_ | refine z26 ?_ | refine z27 ?_ | refine z28 (fun hp => ?_) (fun hp => ?_) | refine z29 (fun hp => ?_) (fun hp => ?_) | refine z2a ?_ | refine z2b ?_)
        exact fin_cln rfl hQ
      · rw [getD_lt hs0] at h2
        generalize hs1 : (softs l i)[0] = s1 at h2
        have hpk := hpick _ _ _ h2
        by_cases hne : nearF (emergs l i) s1 = []
        · rw [if_neg (fun c => c.2.2 hne)] at hpk
          rw [hpk, if_neg (by simp)] at hQ
          repeat' (first
            | refine wo_call rfl rfl rfl (c_Ends14 hv hl hi (fun h => absurd h (by rw [hb]; simp)) (fun _ a b ha hb2 => ?_))
            | refine wo_call rfl rfl rfl (c_run14 h1 hv ha hl hln1 hc hs hm1 ?_)
            | refine wo_mxV max_neg rfl rfl rfl ?_
            | refine wo_loadc (K := KI64) (u := .int .i64 s1) rfl hs0 (congrArg (fun n => some (MV.int .i64 n)) hs1) rfl ?_
            | refine wo_call rfl rfl rfl (c_ahead14 hb2 (by omega) ?_)
            | refine z00 ?_ | refine z01 ?_ | refine z02 ?_ | refine z04 ?_ | refine z05 ?_ | refine z08 ?_ | refine zp ?_ | refine z0g ?_ | refine z0h ?_ | refine z0j ?_ | refine z0k ?_
            | refine z0l ?_ | refine z0n ?_ | refine z0o ?_ | refine z0p ?_ | refine z0q ?_ | refine z0r ?_ | refine z0s ?_ | refine z0v ?_ | refine z0z ?_ | refine z12 ?_ | refine z14 ?_
            | refine z15 ?_ | refine z1e ?_ | refine z1f (hk := ?_) | refine z1i ?_ | refine z1j ?_ | refine z1k ?_ | refine z1l ?_ | refine z1m ?_ | refine z1n ?_
            | refine z1o (fun hp => ?_) (fun hp => ?_) | refine z1p (fun hp => ?_) (fun hp => ?_) | refine z1q (fun hp => ?_) (fun hp => ?_) | refine z1r ?_ | refine z1s ?_ | refine z1t ?_
            | refine z1u ?_ | refine z1v ?_ | refine z1w ?_ | refine z1x ?_ | refine z1y ?_ | refine z1z ?_ | refine z20 ?_ | refine z21 ?_ | refine z22 ?_ | refine z23 ?_ | refine z24 ?_
            | refine z25 ?_ | refine z26 ?_ | refine z27 ?_ | refine z28 (fun hp => ?_) (fun hp => ?_) | refine z29 (fun hp => ?_) (fun hp => ?_) | refine z2a ?_ | refine z2b ?_)
          rw [hne]
          intro u hu
          have hul := hu.len
          have h00 : ¬ (0 : Int) < ((([] : List Int).length : Nat) : Int) := by simp
          repeat' (first
            | refine wo_len rfl hul rfl ?_
            | refine wx_ifDF rfl h00 ?_
            | refine wo_call rfl rfl rfl (c_Last14 hv hl hi ?_)
            | refine z00 ?_ | refine z01 ?_ | refine z02 ?_ | refine z04 ?_ | refine z05 ?_ | refine z08 ?_ | refine zp ?_ | refine z0g ?_ | refine z0h ?_ | refine z0j ?_ | refine z0k ?_
            | refine z0l ?_ | refine z0n ?_ | refine z0o ?_ | refine z0p ?_ | refine z0q ?_ | refine z0r ?_ | refine z0s ?_ | refine z0v ?_ | refine z0z ?_ | refine z12 ?_ | refine z14 ?_
            | refine z15 ?_ | refine z1e ?_ | refine z1f (hk := ?_) | refine z1i ?_ | refine z1j ?_ | refine z1k ?_ | refine z1l ?_ | refine z1m ?_ | refine z1n ?_
            | refine z1o (fun hp => ?_) (fun hp => ?_) | refine z1p (fun hp => ?_) (fun hp => ?_) | refine z1q (fun hp => ?_) (fun hp => ?_) | refine z1r ?_ | refine z1s ?_ | refine z1t ?_
            | refine z1u ?_ | refine z1v ?_ | refine z1w ?_ | refine z1x ?_ | refine z1y ?_ | refine z1z ?_ | refine z20 ?_ | refine z21 ?_ | refine z22 ?_ | refine z23 ?_ | refine z24 ?_
            | refine z25 ?_ | refine z26 ?_ | refine z27 ?_ | refine z28 (fun hp => ?_) (fun hp => ?_) | refine z29 (fun hp => ?_) (fun hp => ?_) | refine z2a ?_ | refine z2b ?_)
          all_goals
            refine fin_cln rfl ?_
            simp [lineE, Line.mv, hp] at hQ
            exact hQ
        · rw [if_pos ⟨rfl, rfl, hne⟩] at hpk
          have hnl : 0 < (nearF (emergs l i) s1).length := List.length_pos_iff.2 hne
          have hnl2 : (nearF (emergs l i) s1).length ≤ 1000001 := by
            have := List.length_filter_le (fun p => decide (p < s1)) (emergs l i)
            unfold nearF; omega
          have hm3 : ∀ q ∈ nearF (emergs l i) s1, (i : Int) ≤ q ∧ q ≤ l.length := fun q hq => hm2 q (List.mem_filter.1 hq).1
          rcases run_cases (l := l) (i := i) (r := r) hne with ⟨e, he, g1, g2⟩ | ⟨g1, g2⟩ | ⟨k, hk, g1, g2⟩
          · rw [g2] at hpk
            rw [hpk, if_pos he] at hQ
            repeat' (first
              | refine wo_call rfl rfl rfl (c_Ends14 hv hl hi (fun h => absurd h (by rw [hb]; simp)) (fun _ a b ha hb2 => ?_))
              | refine wo_call rfl rfl rfl (c_run14 h1 hv ha hl hln1 hc hs hm1 ?_)
              | refine wo_mxV max_neg rfl rfl rfl ?_
              | refine wo_loadc (K := KI64) (u := .int .i64 s1) rfl hs0 (congrArg (fun n => some (MV.int .i64 n)) hs1) rfl ?_
              | refine wo_call rfl rfl rfl (c_ahead14 hb2 (by omega) ?_)
              | refine z00 ?_ | refine z01 ?_ | refine z02 ?_ | refine z04 ?_ | refine z05 ?_ | refine z08 ?_ | refine zp ?_ | refine z0g ?_ | refine z0h ?_ | refine z0j ?_ | refine z0k ?_
              | refine z0l ?_ | refine z0n ?_ | refine z0o ?_ | refine z0p ?_ | refine z0q ?_ | refine z0r ?_ | refine z0s ?_ | refine z0v ?_ | refine z0z ?_ | refine z12 ?_ | refine z14 ?_
              | refine z15 ?_ | refine z1e ?_ | refine z1f (hk := ?_) | refine z1i ?_ | refine z1j ?_ | refine z1k ?_ | refine z1l ?_ | refine z1m ?_ | refine z1n ?_
              | refine z1o (fun hp => ?_) (fun hp => ?_) | refine z1p (fun hp => ?_) (fun hp => ?_) | refine z1q (fun hp => ?_) (fun hp => ?_) | refine z1r ?_ | refine z1s ?_ | refine z1t ?_
              | refine z1u ?_ | refine z1v ?_ | refine z1w ?_ | refine z1x ?_ | refine z1y ?_ | refine z1z ?_ | refine z20 ?_ | refine z21 ?_ | refine z22 ?_ | refine z23 ?_ | refine z24 ?_
              | refine z25 ?_ | refine z26 ?_ | refine z27 ?_ | refine z28 (fun hp => ?_) (fun hp => ?_) | refine z29 (fun hp => ?_) (fun hp => ?_) | refine z2a ?_ | refine z2b ?_)
            intro u hu
            repeat' (first
              | refine wo_call rfl rfl rfl (c_run14 g1 hv hu hl hnl2 hc hs hm3 ?_)
              | refine wx_ifDT rfl he ?_
              | refine z00 ?_ | refine z01 ?_ | refine z02 ?_ | refine z04 ?_ | refine z05 ?_ | refine z08 ?_ | refine zp ?_ | refine z0g ?_ | refine z0h ?_ | refine z0j ?_ | refine z0k ?_
              | refine z0l ?_ | refine z0n ?_ | refine z0o ?_ | refine z0p ?_ | refine z0q ?_ | refine z0r ?_ | refine z0s ?_ | refine z0v ?_ | refine z0z ?_ | refine z12 ?_ | refine z14 ?_
              | refine z15 ?_ | refine z1e ?_ | refine z1f (hk := ?_) | refine z1i ?_ | refine z1j ?_ | refine z1k ?_ | refine z1l ?_ | refine z1m ?_ | refine z1n ?_
              | refine z1o (fun hp => ?_) (fun hp => ?_) | refine z1p (fun hp => ?_) (fun hp => ?_) | refine z1q (fun hp => ?_) (fun hp => ?_) | refine z1r ?_ | refine z1s ?_ | refine z1t ?_
              | refine z1u ?_ | refine z1v ?_ | refine z1w ?_ | refine z1x ?_ | refine z1y ?_ | refine z1z ?_ | refine z20 ?_ | refine z21 ?_ | refine z22 ?_ | refine z23 ?_ | refine z24 ?_
              | refine z25 ?_ | refine z26 ?_ | refine z27 ?_ | refine z28 (fun hp => ?_) (fun hp => ?_) | refine z29 (fun hp => ?_) (fun hp => ?_) | refine z2a ?_ | refine z2b ?_)
            exact fin_cln rfl hQ
          · rw [g2, getD_lt hnl] at hpk
            generalize hs2 : (nearF (emergs l i) s1)[0] = s2 at hpk
            rw [hpk, if_neg (by simp)] at hQ
            repeat' (first
              | refine wo_call rfl rfl rfl (c_Ends14 hv hl hi (fun h => absurd h (by rw [hb]; simp)) (fun _ a b ha hb2 => ?_))
              | refine wo_call rfl rfl rfl (c_run14 h1 hv ha hl hln1 hc hs hm1 ?_)
              | refine wo_mxV max_neg rfl rfl rfl ?_
              | refine wo_loadc (K := KI64) (u := .int .i64 s1) rfl hs0 (congrArg (fun n => some (MV.int .i64 n)) hs1) rfl ?_
              | refine wo_call rfl rfl rfl (c_ahead14 hb2 (by omega) ?_)
              | refine z00 ?_ | refine z01 ?_ | refine z02 ?_ | refine z04 ?_ | refine z05 ?_ | refine z08 ?_ | refine zp ?_ | refine z0g ?_ | refine z0h ?_ | refine z0j ?_ | refine z0k ?_
              | refine z0l ?_ | refine z0n ?_ | refine z0o ?_ | refine z0p ?_ | refine z0q ?_ | refine z0r ?_ | refine z0s ?_ | refine z0v ?_ | refine z0z ?_ | refine z12 ?_ | refine z14 ?_
              | refine z15 ?_ | refine z1e ?_ | refine z1f (hk := ?_) | refine z1i ?_ | refine z1j ?_ | refine z1k ?_ | refine z1l ?_ | refine z1m ?_ | refine z1n ?_
              | refine z1o (fun hp => ?_) (fun hp => ?_) | refine z1p (fun hp => ?_) (fun hp => ?_) | refine z1q (fun hp => ?_) (fun hp => ?_) | refine z1r ?_ | refine z1s ?_ | refine z1t ?_
              | refine z1u ?_ | refine z1v ?_ | refine z1w ?_ | refine z1x ?_ | refine z1y ?_ | refine z1z ?_ | refine z20 ?_ | refine z21 ?_ | refine z22 ?_ | refine z23 ?_ | refine z24 ?_
              | refine z25 ?_ | refine z26 ?_ | refine z27 ?_ | refine z28 (fun hp => ?_) (fun hp => ?_) | refine z29 (fun hp => ?_) (fun hp => ?_) | refine z2a ?_ | refine z2b ?_)
            intro u hu
            repeat' (first
              | refine wo_call rfl rfl rfl (c_run14 g1 hv hu hl hnl2 hc hs hm3 ?_)
              | refine wo_mxV max_neg rfl rfl rfl ?_
              | refine wo_loadc (K := KI64) (u := .int .i64 s2) rfl hnl (congrArg (fun n => some (MV.int .i64 n)) hs2) rfl ?_
              | refine wo_call rfl rfl rfl (c_Last14 hv hl hi ?_)
              | refine z00 ?_ | refine z01 ?_ | refine z02 ?_ | refine z04 ?_ | refine z05 ?_ | refine z08 ?_ | refine zp ?_ | refine z0g ?_ | refine z0h ?_ | refine z0j ?_ | refine z0k ?_
              | refine z0l ?_ | refine z0n ?_ | refine z0o ?_ | refine z0p ?_ | refine z0q ?_ | refine z0r ?_ | refine z0s ?_ | refine z0v ?_ | refine z0z ?_ | refine z12 ?_ | refine z14 ?_
              | refine z15 ?_ | refine z1e ?_ | refine z1f (hk := ?_) | refine z1i ?_ | refine z1j ?_ | refine z1k ?_ | refine z1l ?_ | refine z1m ?_ | refine z1n ?_
              | refine z1o (fun hp => ?_) (fun hp => ?_) | refine z1p (fun hp => ?_) (fun hp => ?_) | refine z1q (fun hp => ?_) (fun hp => ?_) | refine z1r ?_ | refine z1s ?_ | refine z1t ?_
              | refine z1u ?_ | refine z1v ?_ | refine z1w ?_ | refine z1x ?_ | refine z1y ?_ | refine z1z ?_ | refine z20 ?_ | refine z21 ?_ | refine z22 ?_ | refine z23 ?_ | refine z24 ?_
              | refine z25 ?_ | refine z26 ?_ | refine z27 ?_ | refine z28 (fun hp => ?_) (fun hp => ?_) | refine z29 (fun hp => ?_) (fun hp => ?_) | refine z2a ?_ | refine z2b ?_)
            all_goals
              refine fin_cln rfl ?_
              simp [lineE, Line.mv, hp] at hQ
              exact hQ
          · have hkl : k < (nearF (emergs l i) s1).length := by omega
            rw [g2, getD_lt hkl] at hpk
            generalize hs2 : (nearF (emergs l i) s1)[k] = s2 at hpk
            rw [hpk, if_neg (by simp)] at hQ
            repeat' (first
              | refine wo_call rfl rfl rfl (c_Ends14 hv hl hi (fun h => absurd h (by rw [hb]; simp)) (fun _ a b ha hb2 => ?_))
              | refine wo_call rfl rfl rfl (c_run14 h1 hv ha hl hln1 hc hs hm1 ?_)
              | refine wo_mxV max_neg rfl rfl rfl ?_
              | refine wo_loadc (K := KI64) (u := .int .i64 s1) rfl hs0 (congrArg (fun n => some (MV.int .i64 n)) hs1) rfl ?_
              | refine wo_call rfl rfl rfl (c_ahead14 hb2 (by omega) ?_)
              | refine z00 ?_ | refine z01 ?_ | refine z02 ?_ | refine z04 ?_ | refine z05 ?_ | refine z08 ?_ | refine zp ?_ | refine z0g ?_ | refine z0h ?_ | refine z0j ?_ | refine z0k ?_
              | refine z0l ?_ | refine z0n ?_ | refine z0o ?_ | refine z0p ?_ | refine z0q ?_ | refine z0r ?_ | refine z0s ?_ | refine z0v ?_ | refine z0z ?_ | refine z12 ?_ | refine z14 ?_
              | refine z15 ?_ | refine z1e ?_ | refine z1f (hk := ?_) | refine z1i ?_ | refine z1j ?_ | refine z1k ?_ | refine z1l ?_ | refine z1m ?_ | refine z1n ?_
              | refine z1o (fun hp => ?_) (fun hp => ?_) | refine z1p (fun hp => ?_) (fun hp => ?_) | refine z1q (fun hp => ?_) (fun hp => ?_) | refine z1r ?_ | refine z1s ?_ | refine z1t ?_
              | refine z1u ?_ | refine z1v ?_ | refine z1w ?_ | refine z1x ?_ | refine z1y ?_ | refine z1z ?_ | refine z20 ?_ | refine z21 ?_ | refine z22 ?_ | refine z23 ?_ | refine z24 ?_
              | refine z25 ?_ | refine z26 ?_ | refine z27 ?_ | refine z28 (fun hp => ?_) (fun hp => ?_) | refine z29 (fun hp => ?_) (fun hp => ?_) | refine z2a ?_ | refine z2b ?_)
            intro u hu
            repeat' (first
              | refine wo_call rfl rfl rfl (c_run14 g1 hv hu hl hnl2 hc hs hm3 ?_)
              | refine wo_mxV (max_pred k) rfl rfl rfl ?_
              | refine wo_loadc (K := KI64) (u := .int .i64 s2) rfl hkl (congrArg (fun n => some (MV.int .i64 n)) hs2) rfl ?_
              | refine wo_call rfl rfl rfl (c_Last14 hv hl hi ?_)
              | refine z00 ?_ | refine z01 ?_ | refine z02 ?_ | refine z04 ?_ | refine z05 ?_ | refine z08 ?_ | refine zp ?_ | refine z0g ?_ | refine z0h ?_ | refine z0j ?_ | refine z0k ?_
              | refine z0l ?_ | refine z0n ?_ | refine z0o ?_ | refine z0p ?_ | refine z0q ?_ | refine z0r ?_ | refine z0s ?_ | refine z0v ?_ | refine z0z ?_ | refine z12 ?_ | refine z14 ?_
              | refine z15 ?_ | refine z1e ?_ | refine z1f (hk := ?_) | refine z1i ?_ | refine z1j ?_ | refine z1k ?_ | refine z1l ?_ | refine z1m ?_ | refine z1n ?_
              | refine z1o (fun hp => ?_) (fun hp => ?_) | refine z1p (fun hp => ?_) (fun hp => ?_) | refine z1q (fun hp => ?_) (fun hp => ?_) | refine z1r ?_ | refine z1s ?_ | refine z1t ?_
              | refine z1u ?_ | refine z1v ?_ | refine z1w ?_ | refine z1x ?_ | refine z1y ?_ | refine z1z ?_ | refine z20 ?_ | refine z21 ?_ | refine z22 ?_ | refine z23 ?_ | refine z24 ?_
              | refine z25 ?_ | refine z26 ?_ | refine z27 ?_ | refine z28 (fun hp => ?_) (fun hp => ?_) | refine z29 (fun hp => ?_) (fun hp => ?_) | refine z2a ?_ | refine z2b ?_)
            all_goals
              refine fin_cln rfl ?_
              simp [lineE, Line.mv, hp] at hQ
              exact hQ
      · have hkl : k < (softs l i).length := by omega
        rw [getD_lt hkl] at h2
        generalize hs1 : (softs l i)[k] = s1 at h2
        have hpk := hpick _ _ _ h2
        rw [if_neg (by simp)] at hpk
        rw [hpk, if_neg (by simp)] at hQ
        have hn0 : ¬ ((k + 1 : Nat) : Int) = 0 := by omega
        repeat' (first
          | refine wo_call rfl rfl rfl (c_Ends14 hv hl hi (fun h => absurd h (by rw [hb]; simp)) (fun _ a b ha hb2 => ?_))
          | refine wo_call rfl rfl rfl (c_run14 h1 hv ha hl hln1 hc hs hm1 ?_)
          | refine wo_mxV (max_pred k) rfl rfl rfl ?_
          | refine wo_loadc (K := KI64) (u := .int .i64 s1) rfl hkl (congrArg (fun n => some (MV.int .i64 n)) hs1) rfl ?_
          | refine wo_call rfl rfl rfl (c_ahead14 hb2 (by omega) ?_)
          | refine z00 ?_ | refine z01 ?_ | refine z02 ?_ | refine z04 ?_ | refine z05 ?_ | refine z08 ?_ | refine zp ?_ | refine z0g ?_ | refine z0h ?_ | refine z0j ?_ | refine z0k ?_
          | refine z0l ?_ | refine z0n ?_ | refine z0o ?_ | refine z0p ?_ | refine z0q ?_ | refine z0r ?_ | refine z0s ?_ | refine z0v ?_ | refine z0z ?_ | refine z12 ?_ | refine z14 ?_
          | refine z15 ?_ | refine z1e ?_ | refine z1f (hk := ?_) | refine z1i ?_ | refine z1j ?_ | refine z1k ?_ | refine z1l ?_ | refine z1m ?_ | refine z1n ?_
          | refine z1o (fun hp => ?_) (fun hp => ?_) | refine z1p (fun hp => ?_) (fun hp => ?_) | refine z1q (fun hp => ?_) (fun hp => ?_) | refine z1r ?_ | refine z1s ?_ | refine z1t ?_
          | refine z1u ?_ | refine z1v ?_ | refine z1w ?_ | refine z1x ?_ | refine z1y ?_ | refine z1z ?_ | refine z20 ?_ | refine z21 ?_ | refine z22 ?_ | refine z23 ?_ | refine z24 ?_
          | refine z25 ?_ | refine z26 ?_ | refine z27 ?_ | refine z28 (fun hp => ?_) (fun hp => ?_) | refine z29 (fun hp => ?_) (fun hp => ?_) | refine z2a ?_ | refine z2b ?_)
        intro u hu
        repeat' (first
          | refine wo_guardDF rfl hn0 rfl ?_
          | refine wo_call rfl rfl rfl (c_Last14 hv hl hi ?_)
          | refine z00 ?_ | refine z01 ?_ | refine z02 ?_ | refine z04 ?_ | refine z05 ?_ | refine z08 ?_ | refine zp ?_ | refine z0g ?_ | refine z0h ?_ | refine z0j ?_ | refine z0k ?_
          | refine z0l ?_ | refine z0n ?_ | refine z0o ?_ | refine z0p ?_ | refine z0q ?_ | refine z0r ?_ | refine z0s ?_ | refine z0v ?_ | refine z0z ?_ | refine z12 ?_ | refine z14 ?_
          | refine z15 ?_ | refine z1e ?_ | refine z1f (hk := ?_) | refine z1i ?_ | refine z1j ?_ | refine z1k ?_ | refine z1l ?_ | refine z1m ?_ | refine z1n ?_
          | refine z1o (fun hp => ?_) (fun hp => ?_) | refine z1p (fun hp => ?_) (fun hp => ?_) | refine z1q (fun hp => ?_) (fun hp => ?_) | refine z1r ?_ | refine z1s ?_ | refine z1t ?_
          | refine z1u ?_ | refine z1v ?_ | refine z1w ?_ | refine z1x ?_ | refine z1y ?_ | refine z1z ?_ | refine z20 ?_ | refine z21 ?_ | refine z22 ?_ | refine z23 ?_ | refine z24 ?_
          | refine z25 ?_ | refine z26 ?_ | refine z27 ?_ | refine z28 (fun hp => ?_) (fun hp => ?_) | refine z29 (fun hp => ?_) (fun hp => ?_) | refine z2a ?_ | refine z2b ?_)
        all_goals
          refine fin_cln rfl ?_
          simp [lineE, Line.mv, hp] at hQ
          exact hQ

end
end Go.Proofs.Ytnekgoanadbmmaa
