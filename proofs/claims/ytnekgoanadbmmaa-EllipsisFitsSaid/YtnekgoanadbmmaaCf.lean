/-
Where lines are cut: ellipsis.Cut.
-/
import Derived.Test.YtnekgoanadbmmaaCe
namespace Go.Proofs.Ytnekgoanadbmmaa
open Go.Mini
set_option linter.unusedSimpArgs false
set_option linter.unusedVariables false
set_option maxHeartbeats 4000000

section
variable {m : Mem} {ls : List LRec} {Q : MV → Mem → List LRec → Prop}

/-- No further from 0 than what fits. -/
def Bd (n : Int) : Prop := -4611686018427387904 ≤ n ∧ n ≤ 4611686018427387904

theorem fits_Bd (n : Int) : Bd (fits n).1 := by
  unfold fits Bd; split <;> simp <;> omega
theorem fits_ok {n : Int} (h : (fits n).2 = 0) : Bd n := by
  unfold fits at h; unfold Bd; split at h
  · simp at h
  · omega
theorem step_Bd {c : Cell} {x : Int} (h : Bd x) : Bd (stepF c x).1 := by
  unfold stepF stopF
  repeat' split
  all_goals first | exact fits_Bd _ | exact h | (unfold Bd; simp)
theorem pen_Bd {c : Cell} {r x : Int} (h : Bd x) : Bd (penF c r x).1 := by
  unfold penF; split
  · exact step_Bd h
  · exact h

theorem pensF_Bd {roles : List Int} : ∀ {l : List Cell} {i : Nat} {x : Int}, Bd x → ∀ p ∈ pensF roles i l x, Bd p.1
  | [], _, _, _, p, h => by simp [pensF] at h
  | c :: cs, i, x, hx, p, h => by
    simp only [pensF] at h
    rcases List.mem_cons.1 h with rfl | h
    · exact pen_Bd hx
    · split at h
      · cases h
      · exact pensF_Bd (pen_Bd hx) p h

theorem pensF_len {roles : List Int} : ∀ {l : List Cell} {i : Nat} {x : Int}, (pensF roles i l x).find? (fun p => decide (p.2 ≠ 0)) = none → (pensF roles i l x).length = l.length
  | [], _, _, _ => rfl
  | c :: cs, i, x, h => by
    simp only [pensF] at h ⊢
    rw [List.find?_eq_none] at h
    have h0 := h _ (by simp : penF c (roles.getD i 0) x ∈ _)
    simp only [decide_eq_true_eq, Decidable.not_not] at h0
    have h0' : ¬ (penF c (roles.getD i 0) x).2 ≠ 0 := fun c => c h0
    rw [if_neg h0'] at h ⊢
    simp only [List.length_cons]
    congr 1
    refine pensF_len ?_
    rw [List.find?_eq_none]
    exact fun p hp => h p (List.mem_cons_of_mem _ hp)

theorem pensL_ok {l : List Cell} {roles : List Int} {x : Int} (h : (pensL l roles x).2 = 0) : (pensL l roles x).1.length = l.length + 1 ∧ (∀ a ∈ (pensL l roles x).1, Bd a) := by
  have e := pensL_ne h
  by_cases h1 : l.any badTab = true
  · unfold pensL at h; rw [if_pos h1] at h; simp at h
  · by_cases h2 : (fits x).2 ≠ 0
    · unfold pensL at h; rw [if_neg h1, if_pos h2] at h; exact absurd h h2
    · have hx := fits_ok (Decidable.byContradiction h2)
      have h3 : (pensF roles 0 l x).find? (fun p => decide (p.2 ≠ 0)) = none := by
        cases h3 : (pensF roles 0 l x).find? (fun p => decide (p.2 ≠ 0)) with
        | none => rfl
        | some p =>
          unfold pensL at h
          rw [if_neg h1, if_neg h2, h3] at h
          have := List.find?_some h3
          simp at this
          exact absurd h this
      rw [e]
      constructor
      · simp [pensF_len h3]
      · intro a ha
        rcases List.mem_cons.1 ha with rfl | ha
        · exact hx
        · obtain ⟨p, hp, rfl⟩ := List.mem_map.1 ha
          exact pensF_Bd hx p hp

theorem back_mem {whole : List Bool} {to : Int} : ∀ {n : Nat} {p : Int}, ∀ q ∈ backF whole to n p, p - n < q ∧ q ≤ p
  | 0, _, q, h => by simp [backF] at h
  | n + 1, p, q, h => by
    simp only [backF] at h
    split at h
    · rcases List.mem_cons.1 h with rfl | h
      · omega
      · have := back_mem q h; omega
    · have := back_mem q h; omega

/-- A line's own cells. -/
def ownF (l : List Cell) (x : Line) : List Cell := (l.drop x.fr.toNat).take (x.to.toNat - x.fr.toNat)

structure CutR where
  to : Int
  at' : Int
  cut : Bool
  err : Int

def CutR.mv (c : CutR) : MV := .tup [.int .i64 c.to, .int .i64 c.at', .bool c.cut, .int .i64 c.err]

def cutTo (l : List Cell) (whole : List Bool) (x : Line) (r : Room) (dots : Int) : Int :=
  if (fitL (ownF l x) r.start).1 > r.width then
    ((backF whole x.to (x.to - x.fr + 1).toNat x.to).find? fun p => decide ((pensL (ownF l x) (rolesF (ownF l x)) r.start).1.getD (p - x.fr).toNat 0 + dots ≤ r.width)).getD x.fr
  else x.to

/-- Where a line is cut. -/
def cutF (l : List Cell) (whole : List Bool) (x : Line) (r : Room) (dots : Int) : CutR :=
  if withinF l whole x = false ∨ r.width < 0 ∨ dots < 0 ∨ dots > 1073741824 then ⟨0, 0, false, 2⟩
  else if (fitL (ownF l x) r.start).2 ≠ 0 then ⟨0, 0, false, (fitL (ownF l x) r.start).2⟩
  else if (pensL (ownF l x) (rolesF (ownF l x)) r.start).2 ≠ 0 then ⟨0, 0, false, (pensL (ownF l x) (rolesF (ownF l x)) r.start).2⟩
  else ⟨cutTo l whole x r dots, (pensL (ownF l x) (rolesF (ownF l x)) r.start).1.getD (cutTo l whole x r dots - x.fr).toNat 0, decide ((fitL (ownF l x) r.start).1 > r.width), 0⟩

theorem cutTo_in {l : List Cell} {whole : List Bool} {x : Line} {r : Room} {dots : Int} (h : x.fr ≤ x.to) : x.fr ≤ cutTo l whole x r dots ∧ cutTo l whole x r dots ≤ x.to := by
  unfold cutTo
  split
  · cases hf : (backF whole x.to (x.to - x.fr + 1).toNat x.to).find? fun p => decide ((pensL (ownF l x) (rolesF (ownF l x)) r.start).1.getD (p - x.fr).toNat 0 + dots ≤ r.width) with
    | none => simp; omega
    | some p =>
      have := back_mem p (List.mem_of_find?_eq_some hf)
      simp; omega
  · omega

theorem c_Cut {l : List Cell} {whole : List Bool} {v w : MV} {x : Line} {r : Room} {dots : Int} {args : List MV} (hz : frzs m frzFuel args = some [v, w, .agg x.mv, .agg r.mv, .int .i64 dots]) (hv : Sl KCell l v) (hw : Sl KBool whole w) (hl : l.length ≤ 1000000) (hc : ∀ c ∈ l, c.ok) (hs : I64 r.start)
    (hQ : Q (cutF l whole x r dots).mv m ls) : Wc ip f_ellipsis_Cut args m ls Q := by
  refine wc_fn3 rfl fn_ellipsis_Cut rfl hz rfl ?_
  by_cases hbad : withinF l whole x = false ∨ r.width < 0 ∨ dots < 0 ∨ dots > 1073741824
  · have e : cutF l whole x r dots = ⟨0, 0, false, 2⟩ := by unfold cutF; rw [if_pos hbad]
    rw [e] at hQ
    cases hwi : withinF l whole x with
    | false =>
      repeat' (first
        | refine wo_call rfl rfl rfl (c_within hv hw ?_)
        | refine wo_not (t := false) (by rw [← hwi]; rfl) rfl ?_
        | refine z00 ?_ | refine z01 ?_ | refine z02 ?_ | refine z03 ?_ | refine z04 ?_ | refine z05 ?_ | refine z06 ?_ | refine z07 ?_ | refine z08 ?_ | refine z09 ?_ | refine z0a ?_
        | refine z0b ?_ | refine z0c ?_ | refine z0d ?_ | refine z0e ?_ | refine z0f ?_ | refine z0g ?_ | refine z0h ?_ | refine z0i ?_ | refine z0j ?_ | refine z0k ?_ | refine z0l ?_
        | refine z0m ?_ | refine z0n ?_ | refine z0o ?_ | refine z0p ?_ | refine z0q ?_ | refine z0r ?_ | refine z0s ?_ | refine z0t ?_ | refine z0u ?_ | refine z0v ?_ | refine z0w ?_
        | refine z0x ?_ | refine z0y ?_ | refine z0z ?_ | refine z10 ?_ | refine z11 ?_ | refine z12 ?_ | refine z13 ?_ | refine z14 ?_ | refine z15 ?_ | refine z16 ?_ | refine z17 ?_
        | refine z18 ?_ | refine z19 ?_ | refine z1a ?_ | refine z1b ?_ | refine z1c ?_ | refine z1d ?_ | refine z1e ?_ | refine z1f (hk := ?_) | refine z1g ?_ | refine z1h ?_ | refine z1i ?_
        | refine z1j ?_ | refine z1k ?_ | refine z1l ?_ | refine z1m ?_ | refine z1n ?_ | refine z1o (fun hp => ?_) (fun hp => ?_) | refine z1p (fun hp => ?_) (fun hp => ?_)
        | refine z1q (fun hp => ?_) (fun hp => ?_) | refine z1r ?_ | refine z1s ?_ | refine z1t ?_ | refine z1u ?_ | refine z1v ?_ | refine z1w ?_ | refine z1x ?_ | refine z1y ?_
        | refine z1z ?_ | refine z20 ?_ | refine z21 ?_ | refine z22 ?_ | refine z23 ?_ | refine z24 ?_ | refine z25 ?_ | refine z26 ?_ | refine z27 ?_
        | refine z28 (fun hp => ?_) (fun hp => ?_) | refine z29 (fun hp => ?_) (fun hp => ?_) | refine z2a ?_ | refine z2b ?_)
      exact fin_cln rfl hQ
    | true =>
      have hb2 : r.width < 0 ∨ dots < 0 ∨ dots > 1073741824 := by
        rcases hbad with h | h
        · rw [hwi] at h; cases h
        · exact h
      by_cases h1 : r.width < 0
      · repeat' (first
          | refine wo_call rfl rfl rfl (c_within hv hw ?_)
          | refine wo_not (t := true) (by rw [← hwi]; rfl) rfl ?_
          | refine z00 ?_ | refine z01 ?_ | refine z02 ?_ | refine z03 ?_ | refine z04 ?_ | refine z05 ?_ | refine z06 ?_ | refine z07 ?_ | refine z08 ?_ | refine z09 ?_ | refine z0a ?_
          | refine z0b ?_ | refine z0c ?_ | refine z0d ?_ | refine z0e ?_ | refine z0f ?_ | refine z0g ?_ | refine z0h ?_ | refine z0i ?_ | refine z0j ?_ | refine z0k ?_ | refine z0l ?_
          | refine z0m ?_ | refine z0n ?_ | refine z0o ?_ | refine z0p ?_ | refine z0q ?_ | refine z0r ?_ | refine z0s ?_ | refine z0t ?_ | refine z0u ?_ | refine z0v ?_ | refine z0w ?_
          | refine z0x ?_ | refine z0y ?_ | refine z0z ?_ | refine z10 ?_ | refine z11 ?_ | refine z12 ?_ | refine z13 ?_ | refine z14 ?_ | refine z15 ?_ | refine z16 ?_ | refine z17 ?_
          | refine z18 ?_ | refine z19 ?_ | refine z1a ?_ | refine z1b ?_ | refine z1c ?_ | refine z1d ?_ | refine z1e ?_ | refine z1f (hk := ?_) | refine z1g ?_ | refine z1h ?_
          | refine z1i ?_ | refine z1j ?_ | refine z1k ?_ | refine z1l ?_ | refine z1m ?_ | refine z1n ?_ | refine z1o (fun hp => ?_) (fun hp => ?_) | refine z1p (fun hp => ?_) (fun hp => ?_)
          | refine z1q (fun hp => ?_) (fun hp => ?_) | refine z1r ?_ | refine z1s ?_ | refine z1t ?_ | refine z1u ?_ | refine z1v ?_ | refine z1w ?_ | refine z1x ?_ | refine z1y ?_
          | refine z1z ?_ | refine z20 ?_ | refine z21 ?_ | refine z22 ?_ | refine z23 ?_ | refine z24 ?_ | refine z25 ?_ | refine z26 ?_ | refine z27 ?_
          | refine z28 (fun hp => ?_) (fun hp => ?_) | refine z29 (fun hp => ?_) (fun hp => ?_) | refine z2a ?_ | refine z2b ?_)
        exact fin_cln rfl hQ
      · by_cases h2 : dots < 0
        · repeat' (first
            | refine wo_call rfl rfl rfl (c_within hv hw ?_)
            | refine wo_not (t := true) (by rw [← hwi]; rfl) rfl ?_
            | refine z00 ?_ | refine z01 ?_ | refine z02 ?_ | refine z03 ?_ | refine z04 ?_ | refine z05 ?_ | refine z06 ?_ | refine z07 ?_ | refine z08 ?_ | refine z09 ?_ | refine z0a ?_
            | refine z0b ?_ | refine z0c ?_ | refine z0d ?_ | refine z0e ?_ | refine z0f ?_ | refine z0g ?_ | refine z0h ?_ | refine z0i ?_ | refine z0j ?_ | refine z0k ?_ | refine z0l ?_
            | refine z0m ?_ | refine z0n ?_ | refine z0o ?_ | refine z0p ?_ | refine z0q ?_ | refine z0r ?_ | refine z0s ?_ | refine z0t ?_ | refine z0u ?_ | refine z0v ?_ | refine z0w ?_
            | refine z0x ?_ | refine z0y ?_ | refine z0z ?_ | refine z10 ?_ | refine z11 ?_ | refine z12 ?_ | refine z13 ?_ | refine z14 ?_ | refine z15 ?_ | refine z16 ?_ | refine z17 ?_
            | refine z18 ?_ | refine z19 ?_ | refine z1a ?_ | refine z1b ?_ | refine z1c ?_ | refine z1d ?_ | refine z1e ?_ | refine z1f (hk := ?_) | refine z1g ?_ | refine z1h ?_
            | refine z1i ?_ | refine z1j ?_ | refine z1k ?_ | refine z1l ?_ | refine z1m ?_ | refine z1n ?_ | refine z1o (fun hp => ?_) (fun hp => ?_)
            | refine z1p (fun hp => ?_) (fun hp => ?_) | refine z1q (fun hp => ?_) (fun hp => ?_) | refine z1r ?_ | refine z1s ?_ | refine z1t ?_ | refine z1u ?_ | refine z1v ?_
            | refine z1w ?_ | refine z1x ?_ | refine z1y ?_ | refine z1z ?_ | refine z20 ?_ | refine z21 ?_ | refine z22 ?_ | refine z23 ?_ | refine z24 ?_ | refine z25 ?_ | refine z26 ?_
            | refine z27 ?_ | refine z28 (fun hp => ?_) (fun hp => ?_) | refine z29 (fun hp => ?_) (fun hp => ?_) | refine z2a ?_ | refine z2b ?_)
          exact fin_cln rfl hQ
        · have h3 : dots > 1073741824 := by omega
          repeat' (first
            | refine wo_call rfl rfl rfl (c_within hv hw ?_)
            | refine wo_not (t := true) (by rw [← hwi]; rfl) rfl ?_
            | refine z00 ?_ | refine z01 ?_ | refine z02 ?_ | refine z03 ?_ | refine z04 ?_ | refine z05 ?_ | refine z06 ?_ | refine z07 ?_ | refine z08 ?_ | refine z09 ?_ | refine z0a ?_
            | refine z0b ?_ | refine z0c ?_ | refine z0d ?_ | refine z0e ?_ | refine z0f ?_ | refine z0g ?_ | refine z0h ?_ | refine z0i ?_ | refine z0j ?_ | refine z0k ?_ | refine z0l ?_
            | refine z0m ?_ | refine z0n ?_ | refine z0o ?_ | refine z0p ?_ | refine z0q ?_ | refine z0r ?_ | refine z0s ?_ | refine z0t ?_ | refine z0u ?_ | refine z0v ?_ | refine z0w ?_
            | refine z0x ?_ | refine z0y ?_ | refine z0z ?_ | refine z10 ?_ | refine z11 ?_ | refine z12 ?_ | refine z13 ?_ | refine z14 ?_ | refine z15 ?_ | refine z16 ?_ | refine z17 ?_
            | refine z18 ?_ | refine z19 ?_ | refine z1a ?_ | refine z1b ?_ | refine z1c ?_ | refine z1d ?_ | refine z1e ?_ | refine z1f (hk := ?_) | refine z1g ?_ | refine z1h ?_
            | refine z1i ?_ | refine z1j ?_ | refine z1k ?_ | refine z1l ?_ | refine z1m ?_ | refine z1n ?_ | refine z1o (fun hp => ?_) (fun hp => ?_)
            | refine z1p (fun hp => ?_) (fun hp => ?_) | refine z1q (fun hp => ?_) (fun hp => ?_) | refine z1r ?_ | refine z1s ?_ | refine z1t ?_ | refine z1u ?_ | refine z1v ?_
            | refine z1w ?_ | refine z1x ?_ | refine z1y ?_ | refine z1z ?_ | refine z20 ?_ | refine z21 ?_ | refine z22 ?_ | refine z23 ?_ | refine z24 ?_ | refine z25 ?_ | refine z26 ?_
            | refine z27 ?_ | refine z28 (fun hp => ?_) (fun hp => ?_) | refine z29 (fun hp => ?_) (fun hp => ?_) | refine z2a ?_ | refine z2b ?_)
          exact fin_cln rfl hQ
  · have hwi : withinF l whole x = true := by
      cases h : withinF l whole x with
      | true => rfl
      | false => exact absurd (.inl h) hbad
    have hwi2 := hwi
    unfold withinF at hwi2
    rw [decide_eq_true_eq] at hwi2
    obtain ⟨w1, w2, w3, w4⟩ := hwi2
    have h1 : ¬ r.width < 0 := fun h => hbad (.inr (.inl h))
    have h2 : ¬ dots < 0 := fun h => hbad (.inr (.inr (.inl h)))
    have h3 : ¬ dots > 1073741824 := fun h => hbad (.inr (.inr (.inr h)))
    have hol : (ownF l x).length = x.to.toNat - x.fr.toNat := by unfold ownF; simp; omega
    have hoc : ∀ c ∈ ownF l x, c.ok := fun c h => hc c (List.mem_of_mem_drop (List.mem_of_mem_take h))
    repeat' (first
      | refine wo_call rfl rfl rfl (c_within hv hw ?_)
      | refine wo_not (t := true) (by rw [← hwi]; rfl) rfl ?_
      | refine z00 ?_ | refine z01 ?_ | refine z02 ?_ | refine z03 ?_ | refine z04 ?_ | refine z05 ?_ | refine z06 ?_ | refine z07 ?_ | refine z08 ?_ | refine z09 ?_ | refine z0a ?_
      | refine z0b ?_ | refine z0c ?_ | refine z0d ?_ | refine z0e ?_ | refine z0f ?_ | refine z0g ?_ | refine z0h ?_ | refine z0i ?_ | refine z0j ?_ | refine z0k ?_ | refine z0l ?_
      | refine z0m ?_ | refine z0n ?_ | refine z0o ?_ | refine z0p ?_ | refine z0q ?_ | refine z0r ?_ | refine z0s ?_ | refine z0t ?_ | refine z0u ?_ | refine z0v ?_ | refine z0w ?_
      | refine z0x ?_ | refine z0y ?_ | refine z0z ?_ | refine z10 ?_ | refine z11 ?_ | refine z12 ?_ | refine z13 ?_ | refine z14 ?_ | refine z15 ?_ | refine z16 ?_ | refine z17 ?_
      | refine z18 ?_ | refine z19 ?_ | refine z1a ?_ | refine z1b ?_ | refine z1c ?_ | refine z1d ?_ | refine z1e ?_ | refine z1f (hk := ?_) | refine z1g ?_ | refine z1h ?_ | refine z1i ?_
      | refine z1j ?_ | refine z1k ?_ | refine z1l ?_ | refine z1m ?_ | refine z1n ?_ | refine z1o (fun hp => ?_) (fun hp => ?_) | refine z1p (fun hp => ?_) (fun hp => ?_)
      | refine z1q (fun hp => ?_) (fun hp => ?_) | refine z1r ?_ | refine z1s ?_ | refine z1t ?_ | refine z1u ?_ | refine z1v ?_ | refine z1w ?_ | refine z1x ?_ | refine z1y ?_ | refine z1z ?_
      | refine z20 ?_ | refine z21 ?_ | refine z22 ?_ | refine z23 ?_ | refine z24 ?_ | refine z25 ?_ | refine z26 ?_ | refine z27 ?_ | refine z28 (fun hp => ?_) (fun hp => ?_)
      | refine z29 (fun hp => ?_) (fun hp => ?_) | refine z2a ?_ | refine z2b ?_)
    refine wo_sliceS rfl hv rfl rfl (by omega) rfl rfl fun v' hv' => ?_
    have hv'' : Sl KCell (ownF l x) v' := hv'
    by_cases he : (fitL (ownF l x) r.start).2 ≠ 0
    · have e : cutF l whole x r dots = ⟨0, 0, false, (fitL (ownF l x) r.start).2⟩ := by unfold cutF; rw [if_neg hbad, if_pos he]
      rw [e] at hQ
      repeat' (first
        | refine wo_call rfl rfl rfl (c_Fits hv'' (by omega) hoc hs ?_)
        | refine wx_ifDT rfl he ?_
        | refine z00 ?_ | refine z01 ?_ | refine z02 ?_ | refine z03 ?_ | refine z04 ?_ | refine z05 ?_ | refine z06 ?_ | refine z07 ?_ | refine z08 ?_ | refine z09 ?_ | refine z0a ?_
        | refine z0b ?_ | refine z0c ?_ | refine z0d ?_ | refine z0e ?_ | refine z0f ?_ | refine z0g ?_ | refine z0h ?_ | refine z0i ?_ | refine z0j ?_ | refine z0k ?_ | refine z0l ?_
        | refine z0m ?_ | refine z0n ?_ | refine z0o ?_ | refine z0p ?_ | refine z0q ?_ | refine z0r ?_ | refine z0s ?_ | refine z0t ?_ | refine z0u ?_ | refine z0v ?_ | refine z0w ?_
        | refine z0x ?_ | refine z0y ?_ | refine z0z ?_ | refine z10 ?_ | refine z11 ?_ | refine z12 ?_ | refine z13 ?_ | refine z14 ?_ | refine z15 ?_ | refine z16 ?_ | refine z17 ?_
        | refine z18 ?_ | refine z19 ?_ | refine z1a ?_ | refine z1b ?_ | refine z1c ?_ | refine z1d ?_ | refine z1e ?_ | refine z1f (hk := ?_) | refine z1g ?_ | refine z1h ?_ | refine z1i ?_
        | refine z1j ?_ | refine z1k ?_ | refine z1l ?_ | refine z1m ?_ | refine z1n ?_ | refine z1o (fun hp => ?_) (fun hp => ?_) | refine z1p (fun hp => ?_) (fun hp => ?_)
        | refine z1q (fun hp => ?_) (fun hp => ?_) | refine z1r ?_ | refine z1s ?_ | refine z1t ?_ | refine z1u ?_ | refine z1v ?_ | refine z1w ?_ | refine z1x ?_ | refine z1y ?_
        | refine z1z ?_ | refine z20 ?_ | refine z21 ?_ | refine z22 ?_ | refine z23 ?_ | refine z24 ?_ | refine z25 ?_ | refine z26 ?_ | refine z27 ?_
        | refine z28 (fun hp => ?_) (fun hp => ?_) | refine z29 (fun hp => ?_) (fun hp => ?_) | refine z2a ?_ | refine z2b ?_)
      exact fin_cln rfl hQ
    · repeat' (first
        | refine wo_call rfl rfl rfl (c_Fits hv'' (by omega) hoc hs ?_)
        | refine wx_ifDF rfl he ?_
        | refine wo_call rfl rfl rfl (c_Roles hv'' (by omega) ?_)
        | refine z00 ?_ | refine z01 ?_ | refine z02 ?_ | refine z03 ?_ | refine z04 ?_ | refine z05 ?_ | refine z06 ?_ | refine z07 ?_ | refine z08 ?_ | refine z09 ?_ | refine z0a ?_
        | refine z0b ?_ | refine z0c ?_ | refine z0d ?_ | refine z0e ?_ | refine z0f ?_ | refine z0g ?_ | refine z0h ?_ | refine z0i ?_ | refine z0j ?_ | refine z0k ?_ | refine z0l ?_
        | refine z0m ?_ | refine z0n ?_ | refine z0o ?_ | refine z0p ?_ | refine z0q ?_ | refine z0r ?_ | refine z0s ?_ | refine z0t ?_ | refine z0u ?_ | refine z0v ?_ | refine z0w ?_
        | refine z0x ?_ | refine z0y ?_ | refine z0z ?_ | refine z10 ?_ | refine z11 ?_ | refine z12 ?_ | refine z13 ?_ | refine z14 ?_ | refine z15 ?_ | refine z16 ?_ | refine z17 ?_
        | refine z18 ?_ | refine z19 ?_ | refine z1a ?_ | refine z1b ?_ | refine z1c ?_ | refine z1d ?_ | refine z1e ?_ | refine z1f (hk := ?_) | refine z1g ?_ | refine z1h ?_ | refine z1i ?_
        | refine z1j ?_ | refine z1k ?_ | refine z1l ?_ | refine z1m ?_ | refine z1n ?_ | refine z1o (fun hp => ?_) (fun hp => ?_) | refine z1p (fun hp => ?_) (fun hp => ?_)
        | refine z1q (fun hp => ?_) (fun hp => ?_) | refine z1r ?_ | refine z1s ?_ | refine z1t ?_ | refine z1u ?_ | refine z1v ?_ | refine z1w ?_ | refine z1x ?_ | refine z1y ?_
        | refine z1z ?_ | refine z20 ?_ | refine z21 ?_ | refine z22 ?_ | refine z23 ?_ | refine z24 ?_ | refine z25 ?_ | refine z26 ?_ | refine z27 ?_
        | refine z28 (fun hp => ?_) (fun hp => ?_) | refine z29 (fun hp => ?_) (fun hp => ?_) | refine z2a ?_ | refine z2b ?_)
      intro u hu
      repeat' (first
        | refine wo_call rfl rfl rfl (c_Pens hv'' hu (by omega) hoc hs ?_)
        | refine z00 ?_ | refine z01 ?_ | refine z02 ?_ | refine z03 ?_ | refine z04 ?_ | refine z05 ?_ | refine z06 ?_ | refine z07 ?_ | refine z08 ?_ | refine z09 ?_ | refine z0a ?_
        | refine z0b ?_ | refine z0c ?_ | refine z0d ?_ | refine z0e ?_ | refine z0f ?_ | refine z0g ?_ | refine z0h ?_ | refine z0i ?_ | refine z0j ?_ | refine z0k ?_ | refine z0l ?_
        | refine z0m ?_ | refine z0n ?_ | refine z0o ?_ | refine z0p ?_ | refine z0q ?_ | refine z0r ?_ | refine z0s ?_ | refine z0t ?_ | refine z0u ?_ | refine z0v ?_ | refine z0w ?_
        | refine z0x ?_ | refine z0y ?_ | refine z0z ?_ | refine z10 ?_ | refine z11 ?_ | refine z12 ?_ | refine z13 ?_ | refine z14 ?_ | refine z15 ?_ | refine z16 ?_ | refine z17 ?_
        | refine z18 ?_ | refine z19 ?_ | refine z1a ?_ | refine z1b ?_ | refine z1c ?_ | refine z1d ?_ | refine z1e ?_ | refine z1f (hk := ?_) | refine z1g ?_ | refine z1h ?_ | refine z1i ?_
        | refine z1j ?_ | refine z1k ?_ | refine z1l ?_ | refine z1m ?_ | refine z1n ?_ | refine z1o (fun hp => ?_) (fun hp => ?_) | refine z1p (fun hp => ?_) (fun hp => ?_)
        | refine z1q (fun hp => ?_) (fun hp => ?_) | refine z1r ?_ | refine z1s ?_ | refine z1t ?_ | refine z1u ?_ | refine z1v ?_ | refine z1w ?_ | refine z1x ?_ | refine z1y ?_
        | refine z1z ?_ | refine z20 ?_ | refine z21 ?_ | refine z22 ?_ | refine z23 ?_ | refine z24 ?_ | refine z25 ?_ | refine z26 ?_ | refine z27 ?_
        | refine z28 (fun hp => ?_) (fun hp => ?_) | refine z29 (fun hp => ?_) (fun hp => ?_) | refine z2a ?_ | refine z2b ?_)
      intro z hz2
      have hzc := hz2.cells
      have hzd : deepVs [z] = true := by simp [deepVs, hz2.deep]
      by_cases he2 : (pensL (ownF l x) (rolesF (ownF l x)) r.start).2 ≠ 0
      · have e : cutF l whole x r dots = ⟨0, 0, false, (pensL (ownF l x) (rolesF (ownF l x)) r.start).2⟩ := by unfold cutF; rw [if_neg hbad, if_neg he, if_pos he2]
        rw [e] at hQ
        repeat' (first
          | refine wx_ifDT rfl he2 ?_
          | refine z00 ?_ | refine z01 ?_ | refine z02 ?_ | refine z03 ?_ | refine z04 ?_ | refine z05 ?_ | refine z06 ?_ | refine z07 ?_ | refine z08 ?_ | refine z09 ?_ | refine z0a ?_
          | refine z0b ?_ | refine z0c ?_ | refine z0d ?_ | refine z0e ?_ | refine z0f ?_ | refine z0g ?_ | refine z0h ?_ | refine z0i ?_ | refine z0j ?_ | refine z0k ?_ | refine z0l ?_
          | refine z0m ?_ | refine z0n ?_ | refine z0o ?_ | refine z0p ?_ | refine z0q ?_ | refine z0r ?_ | refine z0s ?_ | refine z0t ?_ | refine z0u ?_ | refine z0v ?_ | refine z0w ?_
          | refine z0x ?_ | refine z0y ?_ | refine z0z ?_ | refine z10 ?_ | refine z11 ?_ | refine z12 ?_ | refine z13 ?_ | refine z14 ?_ | refine z15 ?_ | refine z16 ?_ | refine z17 ?_
          | refine z18 ?_ | refine z19 ?_ | refine z1a ?_ | refine z1b ?_ | refine z1c ?_ | refine z1d ?_ | refine z1e ?_ | refine z1f (hk := ?_) | refine z1g ?_ | refine z1h ?_
          | refine z1i ?_ | refine z1j ?_ | refine z1k ?_ | refine z1l ?_ | refine z1m ?_ | refine z1n ?_ | refine z1o (fun hp => ?_) (fun hp => ?_) | refine z1p (fun hp => ?_) (fun hp => ?_)
          | refine z1q (fun hp => ?_) (fun hp => ?_) | refine z1r ?_ | refine z1s ?_ | refine z1t ?_ | refine z1u ?_ | refine z1v ?_ | refine z1w ?_ | refine z1x ?_ | refine z1y ?_
          | refine z1z ?_ | refine z20 ?_ | refine z21 ?_ | refine z22 ?_ | refine z23 ?_ | refine z24 ?_ | refine z25 ?_ | refine z26 ?_ | refine z27 ?_
          | refine z28 (fun hp => ?_) (fun hp => ?_) | refine z29 (fun hp => ?_) (fun hp => ?_) | refine z2a ?_ | refine z2b ?_)
        exact fin_cln rfl hQ
      · have e : cutF l whole x r dots = ⟨cutTo l whole x r dots, (pensL (ownF l x) (rolesF (ownF l x)) r.start).1.getD (cutTo l whole x r dots - x.fr).toNat 0, decide ((fitL (ownF l x) r.start).1 > r.width), 0⟩ := by unfold cutF; rw [if_neg hbad, if_neg he, if_neg he2]
        rw [e] at hQ
        obtain ⟨hpl, hpb⟩ := pensL_ok (Decidable.byContradiction he2)
        have hct := cutTo_in (l := l) (whole := whole) (r := r) (dots := dots) w3
        have hlt : (cutTo l whole x r dots - x.fr).toNat < (pensL (ownF l x) (rolesF (ownF l x)) r.start).1.length := by omega
        have hsz : (0 : Int) ≤ cutTo l whole x r dots - x.fr ∧ (cutTo l whole x r dots - x.fr).toNat < (pensL (ownF l x) (rolesF (ownF l x)) r.start).1.length := ⟨by omega, hlt⟩
        by_cases hcut : (fitL (ownF l x) r.start).1 > r.width
        · rw [getD_lt hlt] at hQ
          have ect : cutTo l whole x r dots = ((backF whole x.to (x.to - x.fr + 1).toNat x.to).find? fun p => decide ((pensL (ownF l x) (rolesF (ownF l x)) r.start).1.getD (p - x.fr).toNat 0 + dots ≤ r.width)).getD x.fr := by unfold cutTo; rw [if_pos hcut]
          repeat' (first
            | refine wx_ifDF rfl he2 ?_
            | refine wx_ifDT rfl hcut ?_
            | refine wo_call rfl rfl rfl (c_back hw ?_)
            | refine z00 ?_ | refine z01 ?_ | refine z02 ?_ | refine z03 ?_ | refine z04 ?_ | refine z05 ?_ | refine z06 ?_ | refine z07 ?_ | refine z08 ?_ | refine z09 ?_ | refine z0a ?_
            | refine z0b ?_ | refine z0c ?_ | refine z0d ?_ | refine z0e ?_ | refine z0f ?_ | refine z0g ?_ | refine z0h ?_ | refine z0i ?_ | refine z0j ?_ | refine z0k ?_ | refine z0l ?_
            | refine z0m ?_ | refine z0n ?_ | refine z0o ?_ | refine z0p ?_ | refine z0q ?_ | refine z0r ?_ | refine z0s ?_ | refine z0t ?_ | refine z0u ?_ | refine z0v ?_ | refine z0w ?_
            | refine z0x ?_ | refine z0y ?_ | refine z0z ?_ | refine z10 ?_ | refine z11 ?_ | refine z12 ?_ | refine z13 ?_ | refine z14 ?_ | refine z15 ?_ | refine z16 ?_ | refine z17 ?_
            | refine z18 ?_ | refine z19 ?_ | refine z1a ?_ | refine z1b ?_ | refine z1c ?_ | refine z1d ?_ | refine z1e ?_ | refine z1f (hk := ?_) | refine z1g ?_ | refine z1h ?_
            | refine z1i ?_ | refine z1j ?_ | refine z1k ?_ | refine z1l ?_ | refine z1m ?_ | refine z1n ?_ | refine z1o (fun hp => ?_) (fun hp => ?_)
            | refine z1p (fun hp => ?_) (fun hp => ?_) | refine z1q (fun hp => ?_) (fun hp => ?_) | refine z1r ?_ | refine z1s ?_ | refine z1t ?_ | refine z1u ?_ | refine z1v ?_
            | refine z1w ?_ | refine z1x ?_ | refine z1y ?_ | refine z1z ?_ | refine z20 ?_ | refine z21 ?_ | refine z22 ?_ | refine z23 ?_ | refine z24 ?_ | refine z25 ?_ | refine z26 ?_
            | refine z27 ?_ | refine z28 (fun hp => ?_) (fun hp => ?_) | refine z29 (fun hp => ?_) (fun hp => ?_) | refine z2a ?_ | refine z2b ?_)
          have hz3 : ∀ d, frzs [(⟨[z], 0, d⟩ : Blk)] frzFuel [.fn f_ellipsis_back_1 [] [.pimm x.mv 0, .pimm [w] 0], .int .i64 x.fr, .fn f_ellipsis_Cut_1 [] [.ptr 0 0 0, .pimm x.mv 0, .pimm [.int .i64 dots] 0, .pimm r.mv 0]] =
              some [.fn f_ellipsis_back_1 [] [.pimm x.mv 0, .pimm [w] 0], .int .i64 x.fr, .fn f_ellipsis_Cut_1 [] [.pimm [z] 0, .pimm x.mv 0, .pimm [.int .i64 dots] 0, .pimm r.mv 0]] := by
            intro d
            obtain ⟨n, hn⟩ := fuel 19 (by omega)
            rw [hn]
            cases d <;> simp [frzs, frz, deepVs, deepV, blk?, hz2.deep]
          refine wo_call rfl rfl rfl (c_first (so := fun p => decide ((pensL (ownF l x) (rolesF (ownF l x)) r.start).1.getD (p - x.fr).toNat 0 + dots ≤ r.width)) (hz3 _) rfl (iter_back hw w2 w3 (by omega) (by omega)) ?_ ?_)
          · intro p hp m1 ls1 Q1 hQ1
            have hpm := back_mem p hp
            exact c_Cut1 hz2 ⟨by omega, by omega⟩ (by unfold I64; omega) hpb ⟨by omega, by omega⟩ hQ1
          · rw [← ect]
            repeat' (first
              | refine wo_iaddrS rfl hz2 rfl hsz rfl rfl ?_
              | refine z00 ?_ | refine z01 ?_ | refine z02 ?_ | refine z03 ?_ | refine z04 ?_ | refine z05 ?_ | refine z06 ?_ | refine z07 ?_ | refine z08 ?_ | refine z09 ?_ | refine z0a ?_
              | refine z0b ?_ | refine z0c ?_ | refine z0d ?_ | refine z0e ?_ | refine z0f ?_ | refine z0g ?_ | refine z0h ?_ | refine z0i ?_ | refine z0j ?_ | refine z0k ?_ | refine z0l ?_
              | refine z0m ?_ | refine z0n ?_ | refine z0o ?_ | refine z0p ?_ | refine z0q ?_ | refine z0r ?_ | refine z0s ?_ | refine z0t ?_ | refine z0u ?_ | refine z0v ?_ | refine z0w ?_
              | refine z0x ?_ | refine z0y ?_ | refine z0z ?_ | refine z10 ?_ | refine z11 ?_ | refine z12 ?_ | refine z13 ?_ | refine z14 ?_ | refine z15 ?_ | refine z16 ?_ | refine z17 ?_
              | refine z18 ?_ | refine z19 ?_ | refine z1a ?_ | refine z1b ?_ | refine z1c ?_ | refine z1d ?_ | refine z1e ?_ | refine z1f (hk := ?_) | refine z1g ?_ | refine z1h ?_
              | refine z1i ?_ | refine z1j ?_ | refine z1k ?_ | refine z1l ?_ | refine z1m ?_ | refine z1n ?_ | refine z1o (fun hp => ?_) (fun hp => ?_)
              | refine z1p (fun hp => ?_) (fun hp => ?_) | refine z1q (fun hp => ?_) (fun hp => ?_) | refine z1r ?_ | refine z1s ?_ | refine z1t ?_ | refine z1u ?_ | refine z1v ?_
              | refine z1w ?_ | refine z1x ?_ | refine z1y ?_ | refine z1z ?_ | refine z20 ?_ | refine z21 ?_ | refine z22 ?_ | refine z23 ?_ | refine z24 ?_ | refine z25 ?_ | refine z26 ?_
              | refine z27 ?_ | refine z28 (fun hp => ?_) (fun hp => ?_) | refine z29 (fun hp => ?_) (fun hp => ?_) | refine z2a ?_ | refine z2b ?_)
            exact fin_cln rfl hQ
        · have ect : cutTo l whole x r dots = x.to := by unfold cutTo; rw [if_neg hcut]
          rw [ect] at hQ hsz hlt
          rw [getD_lt hlt] at hQ
          repeat' (first
            | refine wx_ifDF rfl he2 ?_
            | refine wx_ifDF rfl hcut ?_
            | refine wo_iaddrS rfl hz2 rfl hsz rfl rfl ?_
            | refine z00 ?_ | refine z01 ?_ | refine z02 ?_ | refine z03 ?_ | refine z04 ?_ | refine z05 ?_ | refine z06 ?_ | refine z07 ?_ | refine z08 ?_ | refine z09 ?_ | refine z0a ?_
            | refine z0b ?_ | refine z0c ?_ | refine z0d ?_ | refine z0e ?_ | refine z0f ?_ | refine z0g ?_ | refine z0h ?_ | refine z0i ?_ | refine z0j ?_ | refine z0k ?_ | refine z0l ?_
            | refine z0m ?_ | refine z0n ?_ | refine z0o ?_ | refine z0p ?_ | refine z0q ?_ | refine z0r ?_ | refine z0s ?_ | refine z0t ?_ | refine z0u ?_ | refine z0v ?_ | refine z0w ?_
            | refine z0x ?_ | refine z0y ?_ | refine z0z ?_ | refine z10 ?_ | refine z11 ?_ | refine z12 ?_ | refine z13 ?_ | refine z14 ?_ | refine z15 ?_ | refine z16 ?_ | refine z17 ?_
            | refine z18 ?_ | refine z19 ?_ | refine z1a ?_ | refine z1b ?_ | refine z1c ?_ | refine z1d ?_ | refine z1e ?_ | refine z1f (hk := ?_) | refine z1g ?_ | refine z1h ?_
            | refine z1i ?_ | refine z1j ?_ | refine z1k ?_ | refine z1l ?_ | refine z1m ?_ | refine z1n ?_ | refine z1o (fun hp => ?_) (fun hp => ?_)
            | refine z1p (fun hp => ?_) (fun hp => ?_) | refine z1q (fun hp => ?_) (fun hp => ?_) | refine z1r ?_ | refine z1s ?_ | refine z1t ?_ | refine z1u ?_ | refine z1v ?_
            | refine z1w ?_ | refine z1x ?_ | refine z1y ?_ | refine z1z ?_ | refine z20 ?_ | refine z21 ?_ | refine z22 ?_ | refine z23 ?_ | refine z24 ?_ | refine z25 ?_ | refine z26 ?_
            | refine z27 ?_ | refine z28 (fun hp => ?_) (fun hp => ?_) | refine z29 (fun hp => ?_) (fun hp => ?_) | refine z2a ?_ | refine z2b ?_)
          exact fin_cln rfl hQ

end
end Go.Proofs.Ytnekgoanadbmmaa
