/-
The statement EllipsisFits, of the program's text in Mini.
-/
import Derived.Test.YtnekgoanadbmmaaCg
namespace Go.Proofs.Ytnekgoanadbmmaa
open Go.Mini
set_option linter.unusedSimpArgs false
set_option linter.unusedVariables false
set_option maxHeartbeats 4000000

section
variable {m : Mem} {ls : List LRec} {Q : MV → Mem → List LRec → Prop}

def great26 (l : List Cell) (whole : List Bool) : Prop := l.length > 100 ∨ whole.length > 150
instance (l : List Cell) (whole : List Bool) : Decidable (great26 l whole) := inferInstanceAs (Decidable (_ ∨ _))

theorem c_great26 {l : List Cell} {whole : List Bool} {v w : MV} {x : Line} {dots : Int} (hv : Sl KCell l v) (hw : Sl KBool whole w) (hQ : Q (.bool (decide (great26 l whole))) m ls) : Wc ip f_law26_great [.agg [v, w, .int .i64 x.fr, .int .i64 x.to, .bool x.forced, .int .i64 dots]] m ls Q := by
  have hd : deepVs [v, w, .int .i64 x.fr, .int .i64 x.to, .bool x.forced, .int .i64 dots] = true := by simp [deepVs, hv.deep, hw.deep, deepV]
  refine wc_fn3d rfl fn_law26_great rfl (by simp [deepVs, deepV, hv.deep, hw.deep]) rfl ?_
  repeat' (first
    | refine z00 ?_ | refine z01 ?_ | refine z02 ?_ | refine z03 ?_ | refine z04 ?_ | refine z05 ?_ | refine z06 ?_ | refine z07 ?_ | refine z08 ?_ | refine z09 ?_ | refine z0a ?_
    | refine z0b ?_ | refine z0c ?_ | refine z0d ?_ | refine z0e ?_ | refine z0f ?_ | refine z0g ?_ | refine z0h ?_ | refine z0i ?_ | refine z0j ?_ | refine z0k ?_ | refine z0l ?_
    | refine z0m ?_ | refine z0n ?_ | refine z0o ?_ | refine z0p ?_ | refine z0q ?_ | refine z0r ?_ | refine z0s ?_ | refine z0t ?_ | refine z0u ?_ | refine z0v ?_ | refine z0w ?_
    | refine z0x ?_ | refine z0y ?_ | refine z0z ?_ | refine z10 ?_ | refine z11 ?_ | refine z12 ?_ | refine z13 ?_ | refine z14 ?_ | refine z15 ?_ | refine z16 ?_ | refine z17 ?_
    | refine z18 ?_ | refine z19 ?_ | refine z1a ?_ | refine z1b ?_ | refine z1c ?_ | refine z1d ?_ | refine z1e ?_ | refine z1f (hk := ?_) | refine z1g ?_ | refine z1h ?_ | refine z1i ?_
    | refine z1j ?_ | refine z1k ?_ | refine z1l ?_ | refine z1m ?_ | refine z1n ?_ | refine z1o (fun hp => ?_) (fun hp => ?_) | refine z1p (fun hp => ?_) (fun hp => ?_)
    | refine z1q (fun hp => ?_) (fun hp => ?_) | refine z1r ?_ | refine z1s ?_ | refine z1t ?_ | refine z1u ?_ | refine z1v ?_ | refine z1w ?_ | refine z1x ?_ | refine z1y ?_ | refine z1z ?_
    | refine z20 ?_ | refine z21 ?_ | refine z22 ?_ | refine z23 ?_ | refine z24 ?_ | refine z25 ?_ | refine z26 ?_ | refine z27 ?_ | refine z28 (fun hp => ?_) (fun hp => ?_)
    | refine z29 (fun hp => ?_) (fun hp => ?_) | refine z2a ?_ | refine z2b ?_)
  all_goals
    refine fin_cln rfl ?_
    have e : ∀ b : Bool, b = decide (great26 l whole) → Q (.bool b) m ls := fun b h => h ▸ hQ
    refine e _ ?_
    first
      | exact decide_eq_decide.2 (by unfold great26; omega)
      | exact (decide_eq_true (by unfold great26; omega)).symm

theorem back_whole {whole : List Bool} {to : Int} : ∀ {n : Nat} {p q : Int}, q ∈ backF whole to n p → q = to ∨ whole.getD q.toNat false = true
  | 0, _, q, h => by simp [backF] at h
  | n + 1, p, q, h => by
    simp only [backF] at h
    split at h
    · rename_i hc
      rcases List.mem_cons.1 h with rfl | h
      · exact hc
      · exact back_whole h
    · exact back_whole h

/-- What the statement asks of a cut. -/
theorem fits_cut {l : List Cell} {whole : List Bool} {x : Line} {r : Room} {dots : Int} (he : (cutF l whole x r dots).err = 0) :
    ∃ (to at' : Int) (cut : Bool), cutF l whole x r dots = ⟨to, at', cut, 0⟩ ∧ whole.length = l.length ∧ 0 ≤ x.fr ∧ x.fr ≤ x.to ∧ x.to ≤ l.length ∧ 0 ≤ dots ∧ dots ≤ 1073741824 ∧ (fitL (ownF l x) r.start).2 = 0 ∧ (goesL (ownF l x) r.start).2 = 0 ∧
      cut = decide (r.width < (fitL (ownF l x) r.start).1) ∧ x.fr ≤ to ∧ to ≤ x.to ∧ Bd at' ∧ (cut = false → to = x.to ∧ at' = (goesL (ownF l x) r.start).1) ∧
      (cut = true → (to = x.fr ∧ at' = r.start) ∨ (at' + dots ≤ r.width ∧ (to = x.to ∨ whole.getD to.toNat false = true))) := by
  have hgo : goesL (ownF l x) r.start = endL (ownF l x) (rolesF (ownF l x)) r.start := rfl
  generalize hc : cutF l whole x r dots = c at he
  unfold cutF at hc
  split at hc
  · rw [← hc] at he; simp at he
  · rename_i hb
    split at hc
    · rename_i h; rw [← hc] at he; exact absurd he h
    · rename_i h1
      split at hc
      · rename_i h; rw [← hc] at he; exact absurd he h
      · rename_i h2
        have hwi : withinF l whole x = true := by
          cases h : withinF l whole x with
          | true => rfl
          | false => exact absurd (.inl h) hb
        unfold withinF at hwi
        rw [decide_eq_true_eq] at hwi
        obtain ⟨w1, w2, w3, w4⟩ := hwi
        have h2' : (pensL (ownF l x) (rolesF (ownF l x)) r.start).2 = 0 := Decidable.byContradiction h2
        obtain ⟨hpl, hpb⟩ := pensL_ok h2'
        have hct := cutTo_in (l := l) (whole := whole) (x := x) (r := r) (dots := dots) w3
        have hol : (ownF l x).length = x.to.toNat - x.fr.toNat := by unfold ownF; simp; omega
        have hge : goesL (ownF l x) r.start = ((pensL (ownF l x) (rolesF (ownF l x)) r.start).1.getD (x.to - x.fr).toNat 0, 0) := by
          rw [hgo]; unfold endL
          rw [if_neg h2, hpl, hol]
          congr 2
          omega
        have hp0 : (pensL (ownF l x) (rolesF (ownF l x)) r.start).1.getD 0 0 = r.start := by rw [pensL_ne h2']; rfl
        have hlt : (cutTo l whole x r dots - x.fr).toNat < (pensL (ownF l x) (rolesF (ownF l x)) r.start).1.length := by rw [hpl, hol]; omega
        have hbd : Bd ((pensL (ownF l x) (rolesF (ownF l x)) r.start).1.getD (cutTo l whole x r dots - x.fr).toNat 0) := by
          rw [getD_lt hlt]; exact hpb _ (List.getElem_mem hlt)
        refine ⟨_, _, _, hc.symm, w1, w2, w3, w4, ?_, ?_, Decidable.byContradiction h1, by rw [hge], rfl, hct.1, hct.2, hbd, ?_, ?_⟩
        · exact Decidable.byContradiction fun h => hb (.inr (.inr (.inl (by omega))))
        · exact Decidable.byContradiction fun h => hb (.inr (.inr (.inr (by omega))))
        · intro hcut
          simp only [decide_eq_false_iff_not] at hcut
          have e : cutTo l whole x r dots = x.to := by unfold cutTo; rw [if_neg hcut]
          rw [e, hge]
          exact ⟨rfl, rfl⟩
        · intro hcut
          simp only [decide_eq_true_eq] at hcut
          have e : cutTo l whole x r dots = ((backF whole x.to (x.to - x.fr + 1).toNat x.to).find? fun p => decide ((pensL (ownF l x) (rolesF (ownF l x)) r.start).1.getD (p - x.fr).toNat 0 + dots ≤ r.width)).getD x.fr := by
            unfold cutTo; rw [if_pos hcut]
          cases hf : (backF whole x.to (x.to - x.fr + 1).toNat x.to).find? fun p => decide ((pensL (ownF l x) (rolesF (ownF l x)) r.start).1.getD (p - x.fr).toNat 0 + dots ≤ r.width) with
          | none =>
            rw [hf] at e
            simp only [Option.getD_none] at e
            left
            rw [e]
            refine ⟨rfl, ?_⟩
            rw [Int.sub_self]
            exact hp0
          | some p =>
            rw [hf] at e
            simp only [Option.getD_some] at e
            right
            rw [e]
            have g1 := List.find?_some hf
            simp only [decide_eq_true_eq] at g1
            exact ⟨g1, back_whole (List.mem_of_find?_eq_some hf)⟩

theorem c_CutE {l : List Cell} {whole : List Bool} {v w : MV} {x : Line} {r : Room} {dots a b e : Int} {c : Bool} {args : List MV} (he : cutF l whole x r dots = ⟨a, b, c, e⟩) (hz : frzs m frzFuel args = some [v, w, .agg x.mv, .agg r.mv, .int .i64 dots]) (hv : Sl KCell l v) (hw : Sl KBool whole w) (hl : l.length ≤ 1000000) (hc : ∀ c ∈ l, c.ok) (hs : I64 r.start)
    (hQ : Q (.tup [.int .i64 a, .int .i64 b, .bool c, .int .i64 e]) m ls) : Wc ip f_ellipsis_Cut args m ls Q :=
  c_Cut hz hv hw hl hc hs (by rw [he]; exact hQ)

theorem law_EllipsisFits (hh : Head26) {l : List Cell} {whole : List Bool} {v w : MV} {x : Line} {r : Room} {dots : Int} (hv : Sl KCell l v) (hw : Sl KBool whole w) (hl : l.length ≤ 9223372036854775807) (hl2 : whole.length ≤ 9223372036854775807) (hc : ∀ c ∈ l, c.ok) (hs : I64 r.start) (hQ : Q (.bool true) m ls) :
    Wc ip f_law26_EllipsisFits [.agg [v, w, .int .i64 x.fr, .int .i64 x.to, .bool x.forced, .int .i64 dots], .agg r.mv] m ls Q := by
  have hd : deepVs [v, w, .int .i64 x.fr, .int .i64 x.to, .bool x.forced, .int .i64 dots] = true := by simp [deepVs, hv.deep, hw.deep, deepV]
  refine wc_fn3d rfl fn_law26_EllipsisFits rfl (by simp [deepVs, deepV, hv.deep, hw.deep, Room.mv]) rfl ?_
  by_cases hbig : great26 l whole
  · repeat' (first
      | refine wo_call rfl rfl rfl (c_great26 (x := x) hv hw ?_)
      | refine wo_call rfl rfl rfl (hh _ _ _ ?_)
      | refine z00 ?_ | refine z01 ?_ | refine z02 ?_ | refine z03 ?_ | refine z04 ?_ | refine z05 ?_ | refine z06 ?_ | refine z07 ?_ | refine z08 ?_ | refine z09 ?_ | refine z0a ?_
      | refine z0b ?_ | refine z0c ?_ | refine z0d ?_ | refine z0e ?_ | refine z0f ?_ | refine z0g ?_ | refine z0h ?_ | refine z0i ?_ | refine z0j ?_ | refine z0k ?_ | refine z0l ?_
      | refine z0m ?_ | refine z0n ?_ | refine z0o ?_ | refine z0p ?_ | refine z0q ?_ | refine z0r ?_ | refine z0s ?_ | refine z0t ?_ | refine z0u ?_ | refine z0v ?_ | refine z0w ?_
      | refine z0x ?_ | refine z0y ?_ | refine z0z ?_ | refine z10 ?_ | refine z11 ?_ | refine z12 ?_ | refine z13 ?_ | refine z14 ?_ | refine z15 ?_ | refine z16 ?_ | refine z17 ?_
      | refine z18 ?_ | refine z19 ?_ | refine z1a ?_ | refine z1b ?_ | refine z1c ?_ | refine z1d ?_ | refine z1e ?_ | refine z1f (hk := ?_) | refine z1g ?_ | refine z1h ?_ | refine z1i ?_
      | refine z1j ?_ | refine z1k ?_ | refine z1l ?_ | refine z1m ?_ | refine z1n ?_ | refine z1o (fun hp => ?_) (fun hp => ?_) | refine z1p (fun hp => ?_) (fun hp => ?_)
      | refine z1q (fun hp => ?_) (fun hp => ?_) | refine z1r ?_ | refine z1s ?_ | refine z1t ?_ | refine z1u ?_ | refine z1v ?_ | refine z1w ?_ | refine z1x ?_ | refine z1y ?_ | refine z1z ?_
      | refine z20 ?_ | refine z21 ?_ | refine z22 ?_ | refine z23 ?_ | refine z24 ?_ | refine z25 ?_ | refine z26 ?_ | refine z27 ?_ | refine z28 (fun hp => ?_) (fun hp => ?_)
      | refine z29 (fun hp => ?_) (fun hp => ?_) | refine z2a ?_ | refine z2b ?_)
    exact fin_cln rfl hQ
  · have hb2 := hbig
    unfold great26 at hb2
    obtain ⟨hb3, hb4⟩ : l.length ≤ 100 ∧ whole.length ≤ 150 := by omega
    clear hb2
    have hz : frzs [] frzFuel [v, w, .agg [.int .i64 x.fr, .int .i64 x.to, .bool x.forced], .agg [.int .i64 r.width, .int .i64 r.start], .int .i64 dots] = some [v, w, .agg x.mv, .agg r.mv, .int .i64 dots] :=
      frzs_fuel (by simp [deepVs, deepV, hv.deep, hw.deep])
    by_cases he : (cutF l whole x r dots).err ≠ 0
    · obtain ⟨e, he1, he2⟩ : ∃ e, cutF l whole x r dots = ⟨0, 0, false, e⟩ ∧ e ≠ 0 := by
        unfold cutF at he ⊢
        split at he
        · rename_i h; rw [if_pos h]; exact ⟨_, rfl, by simp⟩
        · rename_i h
          rw [if_neg h]
          split at he
          · rename_i h'; rw [if_pos h']; exact ⟨_, rfl, h'⟩
          · rename_i h'
            rw [if_neg h']
            split at he
            · rename_i h''; rw [if_pos h'']; exact ⟨_, rfl, h''⟩
            · exact absurd rfl he
      repeat' (first
        | refine wo_call rfl rfl rfl (c_great26 (x := x) hv hw ?_)
        | refine wo_call rfl rfl rfl (hh _ _ _ ?_)
        | refine wo_call rfl rfl rfl (c_CutE he1 hz hv hw (by omega) hc hs ?_)
        | refine z00 ?_ | refine z01 ?_ | refine z02 ?_ | refine z03 ?_ | refine z04 ?_ | refine z05 ?_ | refine z06 ?_ | refine z07 ?_ | refine z08 ?_ | refine z09 ?_ | refine z0a ?_
        | refine z0b ?_ | refine z0c ?_ | refine z0d ?_ | refine z0e ?_ | refine z0f ?_ | refine z0g ?_ | refine z0h ?_ | refine z0i ?_ | refine z0j ?_ | refine z0k ?_ | refine z0l ?_
        | refine z0m ?_ | refine z0n ?_ | refine z0o ?_ | refine z0p ?_ | refine z0q ?_ | refine z0r ?_ | refine z0s ?_ | refine z0t ?_ | refine z0u ?_ | refine z0v ?_ | refine z0w ?_
        | refine z0x ?_ | refine z0y ?_ | refine z0z ?_ | refine z10 ?_ | refine z11 ?_ | refine z12 ?_ | refine z13 ?_ | refine z14 ?_ | refine z15 ?_ | refine z16 ?_ | refine z17 ?_
        | refine z18 ?_ | refine z19 ?_ | refine z1a ?_ | refine z1b ?_ | refine z1c ?_ | refine z1d ?_ | refine z1e ?_ | refine z1f (hk := ?_) | refine z1g ?_ | refine z1h ?_ | refine z1i ?_
        | refine z1j ?_ | refine z1k ?_ | refine z1l ?_ | refine z1m ?_ | refine z1n ?_ | refine z1o (fun hp => ?_) (fun hp => ?_) | refine z1p (fun hp => ?_) (fun hp => ?_)
        | refine z1q (fun hp => ?_) (fun hp => ?_) | refine z1r ?_ | refine z1s ?_ | refine z1t ?_ | refine z1u ?_ | refine z1v ?_ | refine z1w ?_ | refine z1x ?_ | refine z1y ?_
        | refine z1z ?_ | refine z20 ?_ | refine z21 ?_ | refine z22 ?_ | refine z23 ?_ | refine z24 ?_ | refine z25 ?_ | refine z26 ?_ | refine z27 ?_
        | refine z28 (fun hp => ?_) (fun hp => ?_) | refine z29 (fun hp => ?_) (fun hp => ?_) | refine z2a ?_ | refine z2b ?_)
      exact fin_cln rfl hQ
    · obtain ⟨to, at', cut, e1, w1, w2, w3, w4, d1, d2, f1, g1, hcut, t1, t2, hbd, hF, hT⟩ := fits_cut (Decidable.byContradiction he)
      have hoc : ∀ c ∈ ownF l x, c.ok := fun c h => hc c (List.mem_of_mem_drop (List.mem_of_mem_take h))
      have hol : (ownF l x).length = x.to.toNat - x.fr.toNat := by unfold ownF; simp; omega
      repeat' (first
        | refine wo_call rfl rfl rfl (c_great26 (x := x) hv hw ?_)
        | refine wo_call rfl rfl rfl (hh _ _ _ ?_)
        | refine wo_call rfl rfl rfl (c_CutE e1 hz hv hw (by omega) hc hs ?_)
        | refine z00 ?_ | refine z01 ?_ | refine z02 ?_ | refine z03 ?_ | refine z04 ?_ | refine z05 ?_ | refine z06 ?_ | refine z07 ?_ | refine z08 ?_ | refine z09 ?_ | refine z0a ?_
        | refine z0b ?_ | refine z0c ?_ | refine z0d ?_ | refine z0e ?_ | refine z0f ?_ | refine z0g ?_ | refine z0h ?_ | refine z0i ?_ | refine z0j ?_ | refine z0k ?_ | refine z0l ?_
        | refine z0m ?_ | refine z0n ?_ | refine z0o ?_ | refine z0p ?_ | refine z0q ?_ | refine z0r ?_ | refine z0s ?_ | refine z0t ?_ | refine z0u ?_ | refine z0v ?_ | refine z0w ?_
        | refine z0x ?_ | refine z0y ?_ | refine z0z ?_ | refine z10 ?_ | refine z11 ?_ | refine z12 ?_ | refine z13 ?_ | refine z14 ?_ | refine z15 ?_ | refine z16 ?_ | refine z17 ?_
        | refine z18 ?_ | refine z19 ?_ | refine z1a ?_ | refine z1b ?_ | refine z1c ?_ | refine z1d ?_ | refine z1e ?_ | refine z1f (hk := ?_) | refine z1g ?_ | refine z1h ?_ | refine z1i ?_
        | refine z1j ?_ | refine z1k ?_ | refine z1l ?_ | refine z1m ?_ | refine z1n ?_ | refine z1o (fun hp => ?_) (fun hp => ?_) | refine z1p (fun hp => ?_) (fun hp => ?_)
        | refine z1q (fun hp => ?_) (fun hp => ?_) | refine z1r ?_ | refine z1s ?_ | refine z1t ?_ | refine z1u ?_ | refine z1v ?_ | refine z1w ?_ | refine z1x ?_ | refine z1y ?_
        | refine z1z ?_ | refine z20 ?_ | refine z21 ?_ | refine z22 ?_ | refine z23 ?_ | refine z24 ?_ | refine z25 ?_ | refine z26 ?_ | refine z27 ?_
        | refine z28 (fun hp => ?_) (fun hp => ?_) | refine z29 (fun hp => ?_) (fun hp => ?_) | refine z2a ?_ | refine z2b ?_)
      refine wo_sliceS rfl hv rfl rfl (by omega) rfl rfl fun v' hv' => ?_
      have hv'' : Sl KCell (ownF l x) v' := hv'
      unfold Bd at hbd
      cases cut with
      | false =>
        obtain ⟨t3, t4⟩ := hF rfl
        have hne : ¬ (false ≠ decide (r.width < (fitL (ownF l x) r.start).1)) := fun h => h hcut
        clear hT hF he hcut
        repeat' (first
          | refine wo_call rfl rfl rfl (c_Fits hv'' (by omega) hoc hs ?_)
          | refine wo_call rfl rfl rfl (c_Goes hv'' (by omega) hoc hs ?_)
          | refine wo_call rfl rfl rfl (hh _ _ _ ?_)
          | refine z00 ?_ | refine z01 ?_ | refine z02 ?_ | refine z03 ?_ | refine z04 ?_ | refine z05 ?_ | refine z06 ?_ | refine z07 ?_ | refine z08 ?_ | refine z09 ?_ | refine z0a ?_
          | refine z0b ?_ | refine z0c ?_ | refine z0d ?_ | refine z0e ?_ | refine z0f ?_ | refine z0g ?_ | refine z0h ?_ | refine z0i ?_ | refine z0j ?_ | refine z0k ?_ | refine z0l ?_
          | refine z0m ?_ | refine z0n ?_ | refine z0o ?_ | refine z0p ?_ | refine z0q ?_ | refine z0r ?_ | refine z0s ?_ | refine z0t ?_ | refine z0u ?_ | refine z0v ?_ | refine z0w ?_
          | refine z0x ?_ | refine z0y ?_ | refine z0z ?_ | refine z10 ?_ | refine z11 ?_ | refine z12 ?_ | refine z13 ?_ | refine z14 ?_ | refine z15 ?_ | refine z16 ?_ | refine z17 ?_
          | refine z18 ?_ | refine z19 ?_ | refine z1a ?_ | refine z1b ?_ | refine z1c ?_ | refine z1d ?_ | refine z1e ?_ | refine z1f (hk := ?_) | refine z1g ?_ | refine z1h ?_
          | refine z1i ?_ | refine z1j ?_ | refine z1k ?_ | refine z1l ?_ | refine z1m ?_ | refine z1n ?_ | refine z1o (fun hp => ?_) (fun hp => ?_) | refine z1p (fun hp => ?_) (fun hp => ?_)
          | refine z1q (fun hp => ?_) (fun hp => ?_) | refine z1r ?_ | refine z1s ?_ | refine z1t ?_ | refine z1u ?_ | refine z1v ?_ | refine z1w ?_ | refine z1x ?_ | refine z1y ?_
          | refine z1z ?_ | refine z20 ?_ | refine z21 ?_ | refine z22 ?_ | refine z23 ?_ | refine z24 ?_ | refine z25 ?_ | refine z26 ?_ | refine z27 ?_
          | refine z28 (fun hp => ?_) (fun hp => ?_) | refine z29 (fun hp => ?_) (fun hp => ?_) | refine z2a ?_ | refine z2b ?_)
        exact fin_cln rfl hQ
      | true =>
        have hne : ¬ (true ≠ decide (r.width < (fitL (ownF l x) r.start).1)) := fun h => h hcut
        have hT' := hT rfl
        clear hT hF he hcut
        by_cases c1 : to = x.fr
        · by_cases c2 : at' = r.start
          · repeat' (first
              | refine wo_call rfl rfl rfl (c_Fits hv'' (by omega) hoc hs ?_)
              | refine wo_call rfl rfl rfl (c_Goes hv'' (by omega) hoc hs ?_)
              | refine wo_call rfl rfl rfl (hh _ _ _ ?_)
              | refine z00 ?_ | refine z01 ?_ | refine z02 ?_ | refine z03 ?_ | refine z04 ?_ | refine z05 ?_ | refine z06 ?_ | refine z07 ?_ | refine z08 ?_ | refine z09 ?_ | refine z0a ?_
              | refine z0b ?_ | refine z0c ?_ | refine z0d ?_ | refine z0e ?_ | refine z0f ?_ | refine z0g ?_ | refine z0h ?_ | refine z0i ?_ | refine z0j ?_ | refine z0k ?_ | refine z0l ?_
              | refine z0m ?_ | refine z0n ?_ | refine z0o ?_ | refine z0p ?_ | refine z0q ?_ | refine z0r ?_ | refine z0s ?_ | refine z0t ?_ | refine z0u ?_ | refine z0v ?_ | refine z0w ?_
              | refine z0x ?_ | refine z0y ?_ | refine z0z ?_ | refine z10 ?_ | refine z11 ?_ | refine z12 ?_ | refine z13 ?_ | refine z14 ?_ | refine z15 ?_ | refine z16 ?_ | refine z17 ?_
              | refine z18 ?_ | refine z19 ?_ | refine z1a ?_ | refine z1b ?_ | refine z1c ?_ | refine z1d ?_ | refine z1e ?_ | refine z1f (hk := ?_) | refine z1g ?_ | refine z1h ?_
              | refine z1i ?_ | refine z1j ?_ | refine z1k ?_ | refine z1l ?_ | refine z1m ?_ | refine z1n ?_ | refine z1o (fun hp => ?_) (fun hp => ?_)
              | refine z1p (fun hp => ?_) (fun hp => ?_) | refine z1q (fun hp => ?_) (fun hp => ?_) | refine z1r ?_ | refine z1s ?_ | refine z1t ?_ | refine z1u ?_ | refine z1v ?_
              | refine z1w ?_ | refine z1x ?_ | refine z1y ?_ | refine z1z ?_ | refine z20 ?_ | refine z21 ?_ | refine z22 ?_ | refine z23 ?_ | refine z24 ?_ | refine z25 ?_ | refine z26 ?_
              | refine z27 ?_ | refine z28 (fun hp => ?_) (fun hp => ?_) | refine z29 (fun hp => ?_) (fun hp => ?_) | refine z2a ?_ | refine z2b ?_)
            exact fin_cln rfl hQ
          · obtain ⟨c3, c4⟩ : at' + dots ≤ r.width ∧ (to = x.to ∨ whole.getD to.toNat false = true) := by
              rcases hT' with h | h
              · exact absurd h.2 c2
              · exact h
            clear hT'
            by_cases c5 : to = x.to
            · repeat' (first
                | refine wo_call rfl rfl rfl (c_Fits hv'' (by omega) hoc hs ?_)
                | refine wo_call rfl rfl rfl (c_Goes hv'' (by omega) hoc hs ?_)
                | refine wo_call rfl rfl rfl (hh _ _ _ ?_)
                | refine z00 ?_ | refine z01 ?_ | refine z02 ?_ | refine z03 ?_ | refine z04 ?_ | refine z05 ?_ | refine z06 ?_ | refine z07 ?_ | refine z08 ?_ | refine z09 ?_ | refine z0a ?_
                | refine z0b ?_ | refine z0c ?_ | refine z0d ?_ | refine z0e ?_ | refine z0f ?_ | refine z0g ?_ | refine z0h ?_ | refine z0i ?_ | refine z0j ?_ | refine z0k ?_ | refine z0l ?_
                | refine z0m ?_ | refine z0n ?_ | refine z0o ?_ | refine z0p ?_ | refine z0q ?_ | refine z0r ?_ | refine z0s ?_ | refine z0t ?_ | refine z0u ?_ | refine z0v ?_ | refine z0w ?_
                | refine z0x ?_ | refine z0y ?_ | refine z0z ?_ | refine z10 ?_ | refine z11 ?_ | refine z12 ?_ | refine z13 ?_ | refine z14 ?_ | refine z15 ?_ | refine z16 ?_ | refine z17 ?_
                | refine z18 ?_ | refine z19 ?_ | refine z1a ?_ | refine z1b ?_ | refine z1c ?_ | refine z1d ?_ | refine z1e ?_ | refine z1f (hk := ?_) | refine z1g ?_ | refine z1h ?_
                | refine z1i ?_ | refine z1j ?_ | refine z1k ?_ | refine z1l ?_ | refine z1m ?_ | refine z1n ?_ | refine z1o (fun hp => ?_) (fun hp => ?_)
                | refine z1p (fun hp => ?_) (fun hp => ?_) | refine z1q (fun hp => ?_) (fun hp => ?_) | refine z1r ?_ | refine z1s ?_ | refine z1t ?_ | refine z1u ?_ | refine z1v ?_
                | refine z1w ?_ | refine z1x ?_ | refine z1y ?_ | refine z1z ?_ | refine z20 ?_ | refine z21 ?_ | refine z22 ?_ | refine z23 ?_ | refine z24 ?_ | refine z25 ?_ | refine z26 ?_
                | refine z27 ?_ | refine z28 (fun hp => ?_) (fun hp => ?_) | refine z29 (fun hp => ?_) (fun hp => ?_) | refine z2a ?_ | refine z2b ?_)
              exact fin_cln rfl hQ
            · have hlt : to.toNat < whole.length := by omega
              have hwt : whole[to.toNat] = true := by
                rcases c4 with h | h
                · exact absurd h c5
                · rw [getD_lt hlt] at h; exact h
              repeat' (first
                | refine wo_call rfl rfl rfl (c_Fits hv'' (by omega) hoc hs ?_)
                | refine wo_call rfl rfl rfl (c_Goes hv'' (by omega) hoc hs ?_)
                | refine wo_call rfl rfl rfl (hh _ _ _ ?_)
                | refine wo_loadc (K := KBool) (u := .bool true) rfl hlt (by show some (MV.bool whole[to.toNat]) = _; rw [hwt]) rfl ?_
                | refine z00 ?_ | refine z01 ?_ | refine z02 ?_ | refine z03 ?_ | refine z04 ?_ | refine z05 ?_ | refine z06 ?_ | refine z07 ?_ | refine z08 ?_ | refine z09 ?_ | refine z0a ?_
                | refine z0b ?_ | refine z0c ?_ | refine z0d ?_ | refine z0e ?_ | refine z0f ?_ | refine z0g ?_ | refine z0h ?_ | refine z0i ?_ | refine z0j ?_ | refine z0k ?_ | refine z0l ?_
                | refine z0m ?_ | refine z0n ?_ | refine z0o ?_ | refine z0p ?_ | refine z0q ?_ | refine z0r ?_ | refine z0s ?_ | refine z0t ?_ | refine z0u ?_ | refine z0v ?_ | refine z0w ?_
                | refine z0x ?_ | refine z0y ?_ | refine z0z ?_ | refine z10 ?_ | refine z11 ?_ | refine z12 ?_ | refine z13 ?_ | refine z14 ?_ | refine z15 ?_ | refine z16 ?_ | refine z17 ?_
                | refine z18 ?_ | refine z19 ?_ | refine z1a ?_ | refine z1b ?_ | refine z1c ?_ | refine z1d ?_ | refine z1e ?_ | refine z1f (hk := ?_) | refine z1g ?_ | refine z1h ?_
                | refine z1i ?_ | refine z1j ?_ | refine z1k ?_ | refine z1l ?_ | refine z1m ?_ | refine z1n ?_ | refine z1o (fun hp => ?_) (fun hp => ?_)
                | refine z1p (fun hp => ?_) (fun hp => ?_) | refine z1q (fun hp => ?_) (fun hp => ?_) | refine z1r ?_ | refine z1s ?_ | refine z1t ?_ | refine z1u ?_ | refine z1v ?_
                | refine z1w ?_ | refine z1x ?_ | refine z1y ?_ | refine z1z ?_ | refine z20 ?_ | refine z21 ?_ | refine z22 ?_ | refine z23 ?_ | refine z24 ?_ | refine z25 ?_ | refine z26 ?_
                | refine z27 ?_ | refine z28 (fun hp => ?_) (fun hp => ?_) | refine z29 (fun hp => ?_) (fun hp => ?_) | refine z2a ?_ | refine z2b ?_)
              exact fin_cln rfl hQ
        · obtain ⟨c3, c4⟩ : at' + dots ≤ r.width ∧ (to = x.to ∨ whole.getD to.toNat false = true) := by
            rcases hT' with h | h
            · exact absurd h.1 c1
            · exact h
          clear hT'
          by_cases c5 : to = x.to
          · repeat' (first
              | refine wo_call rfl rfl rfl (c_Fits hv'' (by omega) hoc hs ?_)
              | refine wo_call rfl rfl rfl (c_Goes hv'' (by omega) hoc hs ?_)
              | refine wo_call rfl rfl rfl (hh _ _ _ ?_)
              | refine z00 ?_ | refine z01 ?_ | refine z02 ?_ | refine z03 ?_ | refine z04 ?_ | refine z05 ?_ | refine z06 ?_ | refine z07 ?_ | refine z08 ?_ | refine z09 ?_ | refine z0a ?_
              | refine z0b ?_ | refine z0c ?_ | refine z0d ?_ | refine z0e ?_ | refine z0f ?_ | refine z0g ?_ | refine z0h ?_ | refine z0i ?_ | refine z0j ?_ | refine z0k ?_ | refine z0l ?_
              | refine z0m ?_ | refine z0n ?_ | refine z0o ?_ | refine z0p ?_ | refine z0q ?_ | refine z0r ?_ | refine z0s ?_ | refine z0t ?_ | refine z0u ?_ | refine z0v ?_ | refine z0w ?_
              | refine z0x ?_ | refine z0y ?_ | refine z0z ?_ | refine z10 ?_ | refine z11 ?_ | refine z12 ?_ | refine z13 ?_ | refine z14 ?_ | refine z15 ?_ | refine z16 ?_ | refine z17 ?_
              | refine z18 ?_ | refine z19 ?_ | refine z1a ?_ | refine z1b ?_ | refine z1c ?_ | refine z1d ?_ | refine z1e ?_ | refine z1f (hk := ?_) | refine z1g ?_ | refine z1h ?_
              | refine z1i ?_ | refine z1j ?_ | refine z1k ?_ | refine z1l ?_ | refine z1m ?_ | refine z1n ?_ | refine z1o (fun hp => ?_) (fun hp => ?_)
              | refine z1p (fun hp => ?_) (fun hp => ?_) | refine z1q (fun hp => ?_) (fun hp => ?_) | refine z1r ?_ | refine z1s ?_ | refine z1t ?_ | refine z1u ?_ | refine z1v ?_
              | refine z1w ?_ | refine z1x ?_ | refine z1y ?_ | refine z1z ?_ | refine z20 ?_ | refine z21 ?_ | refine z22 ?_ | refine z23 ?_ | refine z24 ?_ | refine z25 ?_ | refine z26 ?_
              | refine z27 ?_ | refine z28 (fun hp => ?_) (fun hp => ?_) | refine z29 (fun hp => ?_) (fun hp => ?_) | refine z2a ?_ | refine z2b ?_)
            exact fin_cln rfl hQ
          · have hlt : to.toNat < whole.length := by omega
            have hwt : whole[to.toNat] = true := by
              rcases c4 with h | h
              · exact absurd h c5
              · rw [getD_lt hlt] at h; exact h
            repeat' (first
              | refine wo_call rfl rfl rfl (c_Fits hv'' (by omega) hoc hs ?_)
              | refine wo_call rfl rfl rfl (c_Goes hv'' (by omega) hoc hs ?_)
              | refine wo_call rfl rfl rfl (hh _ _ _ ?_)
              | refine wo_loadc (K := KBool) (u := .bool true) rfl hlt (by show some (MV.bool whole[to.toNat]) = _; rw [hwt]) rfl ?_
              | refine z00 ?_ | refine z01 ?_ | refine z02 ?_ | refine z03 ?_ | refine z04 ?_ | refine z05 ?_ | refine z06 ?_ | refine z07 ?_ | refine z08 ?_ | refine z09 ?_ | refine z0a ?_
              | refine z0b ?_ | refine z0c ?_ | refine z0d ?_ | refine z0e ?_ | refine z0f ?_ | refine z0g ?_ | refine z0h ?_ | refine z0i ?_ | refine z0j ?_ | refine z0k ?_ | refine z0l ?_
              | refine z0m ?_ | refine z0n ?_ | refine z0o ?_ | refine z0p ?_ | refine z0q ?_ | refine z0r ?_ | refine z0s ?_ | refine z0t ?_ | refine z0u ?_ | refine z0v ?_ | refine z0w ?_
              | refine z0x ?_ | refine z0y ?_ | refine z0z ?_ | refine z10 ?_ | refine z11 ?_ | refine z12 ?_ | refine z13 ?_ | refine z14 ?_ | refine z15 ?_ | refine z16 ?_ | refine z17 ?_
              | refine z18 ?_ | refine z19 ?_ | refine z1a ?_ | refine z1b ?_ | refine z1c ?_ | refine z1d ?_ | refine z1e ?_ | refine z1f (hk := ?_) | refine z1g ?_ | refine z1h ?_
              | refine z1i ?_ | refine z1j ?_ | refine z1k ?_ | refine z1l ?_ | refine z1m ?_ | refine z1n ?_ | refine z1o (fun hp => ?_) (fun hp => ?_)
              | refine z1p (fun hp => ?_) (fun hp => ?_) | refine z1q (fun hp => ?_) (fun hp => ?_) | refine z1r ?_ | refine z1s ?_ | refine z1t ?_ | refine z1u ?_ | refine z1v ?_
              | refine z1w ?_ | refine z1x ?_ | refine z1y ?_ | refine z1z ?_ | refine z20 ?_ | refine z21 ?_ | refine z22 ?_ | refine z23 ?_ | refine z24 ?_ | refine z25 ?_ | refine z26 ?_
              | refine z27 ?_ | refine z28 (fun hp => ?_) (fun hp => ?_) | refine z29 (fun hp => ?_) (fun hp => ?_) | refine z2a ?_ | refine z2b ?_)
            exact fin_cln rfl hQ

end
end Go.Proofs.Ytnekgoanadbmmaa
