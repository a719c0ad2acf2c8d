/-
The statement FirstSame, of the program's text in Mini.
-/
import Derived.Test.YtnekgoanadbmmaaFe
namespace Go.Proofs.Ytnekgoanadbmmaa
open Go.Mini
set_option linter.unusedSimpArgs false
set_option linter.unusedVariables false
set_option maxHeartbeats 4000000

section
variable {m : Mem} {ls : List LRec} {Q : MV → Mem → List LRec → Prop}

def great15 (f r : List Cell) : Prop := f.length > 80 ∨ r.length > 80
instance (f r : List Cell) : Decidable (great15 f r) := inferInstanceAs (Decidable (_ ∨ _))

/-- Two rows and two rooms. -/
def given15 (v w : MV) (a b : Room) : List MV := [v, w, .int .i64 a.width, .int .i64 a.start, .int .i64 b.width, .int .i64 b.start]

theorem c_great15 {f r : List Cell} {v w : MV} {a b : Room} (hv : Sl KCell f v) (hw : Sl KCell r w) (hQ : Q (.bool (decide (great15 f r))) m ls) : Wc ip f_law15_great [.agg (given15 v w a b)] m ls Q := by
  have hd : deepVs (given15 v w a b) = true := by simp [given15, deepVs, hv.deep, hw.deep, deepV]
  refine wc_fn3d rfl fn_law15_great rfl (by simp [deepVs, deepV, hd]) rfl ?_
  repeat' (first
    | refine z00 ?_ | refine z01 ?_ | refine z02 ?_ | refine z04 ?_ | refine z05 ?_ | refine z08 ?_ | refine zp ?_ | refine z0g ?_ | refine z0h ?_ | refine z0j ?_ | refine z0k ?_
    | refine z0l ?_ | refine z0n ?_ | refine z0o ?_ | refine z0p ?_ | refine z0q ?_ | refine z0r ?_ | refine z0s ?_ | refine z0v ?_ | refine z0z ?_ | refine z12 ?_ | refine z14 ?_
    | refine z15 ?_ | refine z1e ?_ | refine z1f (hk := ?_) | refine z1i ?_ | refine z1j ?_ | refine z1k ?_ | refine z1l ?_ | refine z1m ?_ | refine z1n ?_
    | refine z1o (fun hp => ?_) (fun hp => ?_) | refine z1p (fun hp => ?_) (fun hp => ?_) | refine z1q (fun hp => ?_) (fun hp => ?_) | refine z1r ?_ | refine z1s ?_ | refine z1t ?_
    | refine z1u ?_ | refine z1v ?_ | refine z1w ?_ | refine z1x ?_ | refine z1y ?_ | refine z1z ?_ | refine z20 ?_ | refine z21 ?_ | refine z22 ?_ | refine z23 ?_ | refine z24 ?_
    | refine z25 ?_ | refine z26 ?_ | refine z27 ?_ | refine z28 (fun hp => ?_) (fun hp => ?_) | refine z29 (fun hp => ?_) (fun hp => ?_) | refine z2a ?_ | refine z2b ?_)
  all_goals
    refine fin_cln rfl ?_
    have e : ∀ b : Bool, b = decide (great15 f r) → Q (.bool b) m ls := fun b h => h ▸ hQ
    refine e _ ?_
    first
      | exact decide_eq_decide.2 (by unfold great15; omega)
      | exact (decide_eq_true (by unfold great15; omega)).symm

/-! ### Plainly -/

theorem alike_refl : ∀ l : List Cell, alikeF l l = true
  | [] => rfl
  | x :: xs => by simp [alikeF, alikeC, alike_refl xs]

theorem lines_first {l : List Cell} {rest : Room} : ∀ (k i : Nat) (r : Room), linesG l r rest k i = (match (firstG l rest l r k i).find? bad with | some p => ([], p.2) | none => ((firstG l rest l r k i).map (·.1), 0))
  | 0, i, r => rfl
  | k + 1, i, r => by
    simp only [linesG, firstG]
    generalize oneF l i r = p
    obtain ⟨x, e⟩ := p
    simp only
    by_cases he : e ≠ 0
    · rw [if_pos he, if_pos he]
      simp [List.find?_cons, bad, he]
    · have he0 : e = 0 := Decidable.byContradiction he
      subst he0
      rw [if_neg he, if_neg he]
      have hb : bad (x, 0) = false := by simp [bad]
      by_cases hm : moreB l x = true
      · rw [if_pos hm, if_pos hm, lines_first k _ rest]
        simp only [List.find?_cons, hb]
        cases hf : (firstG l rest l rest k x.to.toNat).find? bad with
        | none => simp
        | some p =>
          have := List.find?_some hf
          simp only [bad, decide_eq_true_eq] at this
          simp only
          rw [if_pos this]
      · rw [if_neg hm, if_neg hm]
        simp [List.find?_cons, hb]

theorem first_same {f : List Cell} {a b : Room} : firstL f f a b = linesF f a b := by
  unfold firstL linesF
  rw [alike_refl]
  by_cases hb : b.width < 0
  · rw [if_pos (.inr (.inr hb)), if_pos hb]
  · rw [if_neg hb]
    by_cases ht : f.any badTab = true
    · rw [if_pos (.inr (.inl ht))]
      have e : oneF f 0 a = (badLine, 2) := by unfold oneF; rw [if_pos (.inl ht)]
      simp only [linesG, e]
      simp
    · rw [if_neg (by simp [ht, hb])]
      exact (lines_first _ _ _).symm

theorem firstG_step {rest : List Cell} {b : Room} : ∀ {k i : Nat} {row : List Cell} {r : Room}, i ≤ row.length → row.length = rest.length → (∀ p ∈ firstG rest b row r k i, p.2 = 0) → ∀ (j : Nat) (h : j + 1 < (firstG rest b row r k i).length),
    ∃ to : Nat, ((firstG rest b row r k i)[j]'(by omega)).1.to = to ∧ to ≤ rest.length ∧ (firstG rest b row r k i)[j + 1] = oneF rest to b
  | 0, i, row, r, hi, hl, he, j, h => by simp [firstG] at h
  | k + 1, i, row, r, hi, hl, he, j, h => by
    have e0 : (oneF row i r).2 = 0 := he _ (by simp [firstG])
    obtain ⟨h1, to, h2, h3, h4, h5, h6⟩ := oneF_ok hi e0
    have hne : ¬ (oneF row i r).2 ≠ 0 := fun c => c e0
    by_cases hm : moreB row (oneF row i r).1 = true
    · have e : firstG rest b row r (k + 1) i = oneF row i r :: firstG rest b rest b k to := by
        simp only [firstG]
        rw [if_neg hne, if_pos hm, h2]; rfl
      simp only [e] at he h ⊢
      cases j with
      | zero =>
        refine ⟨to, h2, by omega, ?_⟩
        simp only [List.getElem_cons_succ]
        cases k with
        | zero => simp [firstG] at h
        | succ k => simp [firstG]
      | succ j =>
        have hj : j + 1 < (firstG rest b rest b k to).length := by simpa using h
        obtain ⟨t, g1, g2, g3⟩ := firstG_step (row := rest) (r := b) (by omega) rfl (fun p hp => he p (by simp [hp])) j hj
        exact ⟨t, by simpa using g1, g2, by simpa using g3⟩
    · exfalso
      have e : firstG rest b row r (k + 1) i = [oneF row i r] := by
        simp only [firstG]
        rw [if_neg hne, if_neg hm]
      rw [e] at h
      simp at h

/-- What two rows' lines are. -/
theorem first_ok {f r : List Cell} {a b : Room} {L : List Line} (h : firstL f r a b = (L, 0)) : f.length = r.length ∧ L ≠ [] ∧ (∀ x, L[0]? = some x → oneF f 0 a = (x, 0)) ∧
    ∀ (j : Nat) (hj : j + 1 < L.length), ∃ to : Nat, (L[j]'(by omega)).to = to ∧ to ≤ r.length ∧ oneF r to b = (L[j + 1], 0) := by
  unfold firstL at h
  split at h
  · simp at h
  · rename_i hb
    have hal : alikeF f r = true := by
      cases h : alikeF f r with
      | true => rfl
      | false => exact absurd (.inl h) hb
    have hlen := alikeF_len hal
    cases hf : (firstG r b f a (f.length + 2) 0).find? bad with
    | some p =>
      rw [hf] at h
      have := List.find?_some hf
      simp only [bad, decide_eq_true_eq] at this
      simp only [Prod.mk.injEq] at h
      exact absurd h.2 this
    | none =>
      rw [hf] at h
      simp only [Prod.mk.injEq, and_true] at h
      have hz : ∀ p ∈ firstG r b f a (f.length + 2) 0, p.2 = 0 := by
        intro p hp
        rw [List.find?_eq_none] at hf
        have := hf p hp
        simpa [bad] using this
      have hst := firstG_step (b := b) (r := a) (k := f.length + 2) (i := 0) (by omega) hlen hz
      have h1 : oneF f 0 a ∈ firstG r b f a (f.length + 2) 0 := by simp [firstG]
      refine ⟨hlen, ?_, ?_, ?_⟩
      · rw [← h]
        intro c
        rw [List.map_eq_nil_iff] at c
        rw [c] at h1
        cases h1
      · intro x hx
        rw [← h] at hx
        simp [firstG] at hx
        exact Prod.ext hx (hz _ h1)
      · intro j hj
        subst h
        have hj2 : j + 1 < (firstG r b f a (f.length + 2) 0).length := by simpa using hj
        obtain ⟨to, g1, g2, g3⟩ := hst j hj2
        refine ⟨to, by simpa using g1, g2, ?_⟩
        rw [← g3]
        exact Prod.ext (by simp) (hz _ (List.getElem_mem hj2))

/-! ### The law -/

theorem law_FirstSame {f r : List Cell} {v w : MV} {a b : Room} (hv : Sl KCell f v) (hw : Sl KCell r w) (hl1 : f.length ≤ 9223372036854775807) (hl2 : r.length ≤ 9223372036854775807) (hc1 : ∀ c ∈ f, c.ok) (hc2 : ∀ c ∈ r, c.ok) (ha : I64 a.start) (hb : I64 b.start) (hQ : Q (.bool true) m ls) :
    Wc ip f_law15_FirstSame [.agg (given15 v w a b)] m ls Q := by
  have hd : deepVs (given15 v w a b) = true := by simp [given15, deepVs, hv.deep, hw.deep, deepV]
  refine wc_fn3d rfl fn_law15_FirstSame rfl (by simp [deepVs, deepV, hd]) rfl ?_
  by_cases hbig : great15 f r
  · repeat' (first
      | refine wo_call rfl rfl rfl (c_great15 (a := a) (b := b) hv hw ?_)
      | refine wo_call rfl rfl rfl (c_head15 ?_)
      | refine z00 ?_ | refine z01 ?_ | refine z02 ?_ | refine z04 ?_ | refine z05 ?_ | refine z08 ?_ | refine zp ?_ | refine z0g ?_ | refine z0h ?_ | refine z0j ?_ | refine z0k ?_
      | refine z0l ?_ | refine z0n ?_ | refine z0o ?_ | refine z0p ?_ | refine z0q ?_ | refine z0r ?_ | refine z0s ?_ | refine z0v ?_ | refine z0z ?_ | refine z12 ?_ | refine z14 ?_
      | refine z15 ?_ | refine z1e ?_ | refine z1f (hk := ?_) | refine z1i ?_ | refine z1j ?_ | refine z1k ?_ | refine z1l ?_ | refine z1m ?_ | refine z1n ?_
      | refine z1o (fun hp => ?_) (fun hp => ?_) | refine z1p (fun hp => ?_) (fun hp => ?_) | refine z1q (fun hp => ?_) (fun hp => ?_) | refine z1r ?_ | refine z1s ?_ | refine z1t ?_
      | refine z1u ?_ | refine z1v ?_ | refine z1w ?_ | refine z1x ?_ | refine z1y ?_ | refine z1z ?_ | refine z20 ?_ | refine z21 ?_ | refine z22 ?_ | refine z23 ?_ | refine z24 ?_
      | refine z25 ?_ | refine z26 ?_ | refine z27 ?_ | refine z28 (fun hp => ?_) (fun hp => ?_) | refine z29 (fun hp => ?_) (fun hp => ?_) | refine z2a ?_ | refine z2b ?_)
    exact fin_cln rfl hQ
  · obtain ⟨hb1, hb2⟩ : f.length ≤ 80 ∧ r.length ≤ 80 := by unfold great15 at hbig; omega
    repeat' (first
      | refine wo_call rfl rfl rfl (c_great15 (a := a) (b := b) hv hw ?_)
      | refine wo_call rfl rfl rfl (c_firstLines (a := a) (b := b) hv hv (by omega) (by omega) hc1 hc1 ha hb ?_)
      | refine z00 ?_ | refine z01 ?_ | refine z02 ?_ | refine z04 ?_ | refine z05 ?_ | refine z08 ?_ | refine zp ?_ | refine z0g ?_ | refine z0h ?_ | refine z0j ?_ | refine z0k ?_
      | refine z0l ?_ | refine z0n ?_ | refine z0o ?_ | refine z0p ?_ | refine z0q ?_ | refine z0r ?_ | refine z0s ?_ | refine z0v ?_ | refine z0z ?_ | refine z12 ?_ | refine z14 ?_
      | refine z15 ?_ | refine z1e ?_ | refine z1f (hk := ?_) | refine z1i ?_ | refine z1j ?_ | refine z1k ?_ | refine z1l ?_ | refine z1m ?_ | refine z1n ?_
      | refine z1o (fun hp => ?_) (fun hp => ?_) | refine z1p (fun hp => ?_) (fun hp => ?_) | refine z1q (fun hp => ?_) (fun hp => ?_) | refine z1r ?_ | refine z1s ?_ | refine z1t ?_
      | refine z1u ?_ | refine z1v ?_ | refine z1w ?_ | refine z1x ?_ | refine z1y ?_ | refine z1z ?_ | refine z20 ?_ | refine z21 ?_ | refine z22 ?_ | refine z23 ?_ | refine z24 ?_
      | refine z25 ?_ | refine z26 ?_ | refine z27 ?_ | refine z28 (fun hp => ?_) (fun hp => ?_) | refine z29 (fun hp => ?_) (fun hp => ?_) | refine z2a ?_ | refine z2b ?_)
    rw [first_same]
    intro u1 hu1
    repeat' (first
      | refine wo_call rfl rfl rfl (c_Lines (r := a) (rest := b) hv (by omega) hc1 ha hb ?_)
      | refine z00 ?_ | refine z01 ?_ | refine z02 ?_ | refine z04 ?_ | refine z05 ?_ | refine z08 ?_ | refine zp ?_ | refine z0g ?_ | refine z0h ?_ | refine z0j ?_ | refine z0k ?_
      | refine z0l ?_ | refine z0n ?_ | refine z0o ?_ | refine z0p ?_ | refine z0q ?_ | refine z0r ?_ | refine z0s ?_ | refine z0v ?_ | refine z0z ?_ | refine z12 ?_ | refine z14 ?_
      | refine z15 ?_ | refine z1e ?_ | refine z1f (hk := ?_) | refine z1i ?_ | refine z1j ?_ | refine z1k ?_ | refine z1l ?_ | refine z1m ?_ | refine z1n ?_
      | refine z1o (fun hp => ?_) (fun hp => ?_) | refine z1p (fun hp => ?_) (fun hp => ?_) | refine z1q (fun hp => ?_) (fun hp => ?_) | refine z1r ?_ | refine z1s ?_ | refine z1t ?_
      | refine z1u ?_ | refine z1v ?_ | refine z1w ?_ | refine z1x ?_ | refine z1y ?_ | refine z1z ?_ | refine z20 ?_ | refine z21 ?_ | refine z22 ?_ | refine z23 ?_ | refine z24 ?_
      | refine z25 ?_ | refine z26 ?_ | refine z27 ?_ | refine z28 (fun hp => ?_) (fun hp => ?_) | refine z29 (fun hp => ?_) (fun hp => ?_) | refine z2a ?_ | refine z2b ?_)
    intro u2 hu2
    have hsz : (linesF f a b).1.length ≤ 1000 := by
      rw [← first_same]
      unfold firstL
      split
      · simp
      · split
        · simp
        · have := firstG_len (rest := f) (b := b) (k := f.length + 2) (i := 0) (row := f) (r := a)
          simp; omega
    repeat' (first
      | refine wo_call rfl rfl rfl (c_Same14 (decide_eq_true rfl) hu1 hu2 (by omega) ?_)
      | refine wo_call rfl rfl rfl (c_firstLines (a := a) (b := b) hv hw (by omega) (by omega) hc1 hc2 ha hb ?_)
      | refine z00 ?_ | refine z01 ?_ | refine z02 ?_ | refine z04 ?_ | refine z05 ?_ | refine z08 ?_ | refine zp ?_ | refine z0g ?_ | refine z0h ?_ | refine z0j ?_ | refine z0k ?_
      | refine z0l ?_ | refine z0n ?_ | refine z0o ?_ | refine z0p ?_ | refine z0q ?_ | refine z0r ?_ | refine z0s ?_ | refine z0v ?_ | refine z0z ?_ | refine z12 ?_ | refine z14 ?_
      | refine z15 ?_ | refine z1e ?_ | refine z1f (hk := ?_) | refine z1i ?_ | refine z1j ?_ | refine z1k ?_ | refine z1l ?_ | refine z1m ?_ | refine z1n ?_
      | refine z1o (fun hp => ?_) (fun hp => ?_) | refine z1p (fun hp => ?_) (fun hp => ?_) | refine z1q (fun hp => ?_) (fun hp => ?_) | refine z1r ?_ | refine z1s ?_ | refine z1t ?_
      | refine z1u ?_ | refine z1v ?_ | refine z1w ?_ | refine z1x ?_ | refine z1y ?_ | refine z1z ?_ | refine z20 ?_ | refine z21 ?_ | refine z22 ?_ | refine z23 ?_ | refine z24 ?_
      | refine z25 ?_ | refine z26 ?_ | refine z27 ?_ | refine z28 (fun hp => ?_) (fun hp => ?_) | refine z29 (fun hp => ?_) (fun hp => ?_) | refine z2a ?_ | refine z2b ?_)
    clear hu1 hu2 hsz
    generalize hfl : firstL f r a b = p
    obtain ⟨L, e⟩ := p
    intro u hu
    have hu' : Sl KLine L u := hu
    clear hu
    by_cases he : e ≠ 0
    · repeat' (first
        | refine wo_guardET rfl he rfl ?_
        | refine wo_guardDT rfl he rfl ?_
        | refine wo_call rfl rfl rfl (c_head15 ?_)
        | refine z00 ?_ | refine z01 ?_ | refine z02 ?_ | refine z04 ?_ | refine z05 ?_ | refine z08 ?_ | refine zp ?_ | refine z0g ?_ | refine z0h ?_ | refine z0j ?_ | refine z0k ?_
        | refine z0l ?_ | refine z0n ?_ | refine z0o ?_ | refine z0p ?_ | refine z0q ?_ | refine z0r ?_ | refine z0s ?_ | refine z0v ?_ | refine z0z ?_ | refine z12 ?_ | refine z14 ?_
        | refine z15 ?_ | refine z1e ?_ | refine z1f (hk := ?_) | refine z1i ?_ | refine z1j ?_ | refine z1k ?_ | refine z1l ?_ | refine z1m ?_ | refine z1n ?_
        | refine z1o (fun hp => ?_) (fun hp => ?_) | refine z1p (fun hp => ?_) (fun hp => ?_) | refine z1q (fun hp => ?_) (fun hp => ?_) | refine z1r ?_ | refine z1s ?_ | refine z1t ?_
        | refine z1u ?_ | refine z1v ?_ | refine z1w ?_ | refine z1x ?_ | refine z1y ?_ | refine z1z ?_ | refine z20 ?_ | refine z21 ?_ | refine z22 ?_ | refine z23 ?_ | refine z24 ?_
        | refine z25 ?_ | refine z26 ?_ | refine z27 ?_ | refine z28 (fun hp => ?_) (fun hp => ?_) | refine z29 (fun hp => ?_) (fun hp => ?_) | refine z2a ?_ | refine z2b ?_)
      exact fin_cln rfl hQ
    · have he0 : e = 0 := Decidable.byContradiction he
      subst he0
      obtain ⟨hlen, hne, h0, hst⟩ := first_ok hfl
      have hLl : 0 < L.length := List.length_pos_iff.2 hne
      have h1 : oneF f 0 a = (L[0], 0) := h0 _ (List.getElem?_eq_getElem hLl)
      have hLm : L.length ≤ 1000 := by
        unfold firstL at hfl
        split at hfl
        · simp at hfl
        · split at hfl
          · simp only [Prod.mk.injEq] at hfl; rw [← hfl.1]; simp
          · have := firstG_len (rest := r) (b := b) (k := f.length + 2) (i := 0) (row := f) (r := a)
            simp only [Prod.mk.injEq] at hfl; rw [← hfl.1]; simp; omega
      clear h0 hfl
      have hz1 : ∀ mm : Mem, frzs mm frzFuel [v, .int .i64 0, .agg a.mv] = some [v, .int .i64 ((0 : Nat) : Int), .agg a.mv] := fun mm => frzs_fuel (by simp [deepVs, hv.deep, deepV, Room.mv])
      have hz2 : ∀ (mm : Mem) (to : Nat), frzs mm frzFuel [w, .int .i64 (to : Int), .agg b.mv] = some [w, .int .i64 (to : Int), .agg b.mv] := fun mm to => frzs_fuel (by simp [deepVs, hw.deep, deepV, Room.mv])
      have hL0 : ¬ (L.length : Int) = 0 := by omega
      have key : ∀ (k i : Nat), i + k = L.length → 1 ≤ i → ∀ (m : Mem) {R : Ex → As → Mem → List LRec → Prop}, (∀ m', R (.exit 0) [(1, .pimm (given15 v w a b) 0)] m' []) →
          Wx ip i_law15_FirstSame.nt (.loop (lv [1, 7, 11] 120) law15_FirstSame_b0) [(1, .pimm (given15 v w a b) 0), (7, u), (11, .int .i64 i)] m [] R := by
        intro k
        induction k with
        | zero =>
          intro i hk hi m R hR
          refine wx_roundL rfl ?_
          repeat' (first
            | refine wx_exitL [1] ?_
            | refine z00 ?_ | refine z01 ?_ | refine z02 ?_ | refine z04 ?_ | refine z05 ?_ | refine z08 ?_ | refine zp ?_ | refine z0g ?_ | refine z0h ?_ | refine z0j ?_ | refine z0k ?_
            | refine z0l ?_ | refine z0n ?_ | refine z0o ?_ | refine z0p ?_ | refine z0q ?_ | refine z0r ?_ | refine z0s ?_ | refine z0v ?_ | refine z0z ?_ | refine z12 ?_ | refine z14 ?_
            | refine z15 ?_ | refine z1e ?_ | refine z1f (hk := ?_) | refine z1i ?_ | refine z1j ?_ | refine z1k ?_ | refine z1l ?_ | refine z1m ?_ | refine z1n ?_
            | refine z1o (fun hp => ?_) (fun hp => ?_) | refine z1p (fun hp => ?_) (fun hp => ?_) | refine z1q (fun hp => ?_) (fun hp => ?_) | refine z1r ?_ | refine z1s ?_ | refine z1t ?_
            | refine z1u ?_ | refine z1v ?_ | refine z1w ?_ | refine z1x ?_ | refine z1y ?_ | refine z1z ?_ | refine z20 ?_ | refine z21 ?_ | refine z22 ?_ | refine z23 ?_ | refine z24 ?_
            | refine z25 ?_ | refine z26 ?_ | refine z27 ?_ | refine z28 (fun hp => ?_) (fun hp => ?_) | refine z29 (fun hp => ?_) (fun hp => ?_) | refine z2a ?_ | refine z2b ?_)
          exact hR _
        | succ k ih =>
          intro i hk hi m R hR
          have hlt : i < L.length := by omega
          obtain ⟨j, rfl⟩ : ∃ j, i = j + 1 := ⟨i - 1, by omega⟩
          obtain ⟨to, g1, g2, g3⟩ := hst j hlt
          have hj : (((j + 1 : Nat) : Int) - 1).toNat = j := by omega
          have hjl : (((j + 1 : Nat) : Int) - 1).toNat < L.length := by omega
          have g1' : (L[(((j + 1 : Nat) : Int) - 1).toNat]'hjl).to = to := by simp only [hj]; exact g1
          refine wx_roundL rfl ?_
          repeat' (first
            | refine wo_loadc (K := KLine) (u := .int .i64 (to : Int)) rfl hjl (congrArg (fun n => some (MV.int .i64 n)) g1') rfl ?_
            | refine wo_call rfl rfl rfl (c_OneE (i := to) (r := b) g3 (hz2 _ _) hw (by omega) hc2 hb g2 ?_)
            | refine wo_eqa rfl rfl (eq_lineE (x := L[j + 1]) (y := L[j + 1]) (decide_eq_true rfl)) rfl ?_
            | refine z00 ?_ | refine z01 ?_ | refine z02 ?_ | refine z04 ?_ | refine z05 ?_ | refine z08 ?_ | refine zp ?_ | refine z0g ?_ | refine z0h ?_ | refine z0j ?_ | refine z0k ?_
            | refine z0l ?_ | refine z0n ?_ | refine z0o ?_ | refine z0p ?_ | refine z0q ?_ | refine z0r ?_ | refine z0s ?_ | refine z0v ?_ | refine z0z ?_ | refine z12 ?_ | refine z14 ?_
            | refine z15 ?_ | refine z1e ?_ | refine z1f (hk := ?_) | refine z1i ?_ | refine z1j ?_ | refine z1k ?_ | refine z1l ?_ | refine z1m ?_ | refine z1n ?_
            | refine z1o (fun hp => ?_) (fun hp => ?_) | refine z1p (fun hp => ?_) (fun hp => ?_) | refine z1q (fun hp => ?_) (fun hp => ?_) | refine z1r ?_ | refine z1s ?_ | refine z1t ?_
            | refine z1u ?_ | refine z1v ?_ | refine z1w ?_ | refine z1x ?_ | refine z1y ?_ | refine z1z ?_ | refine z20 ?_ | refine z21 ?_ | refine z22 ?_ | refine z23 ?_ | refine z24 ?_
            | refine z25 ?_ | refine z26 ?_ | refine z27 ?_ | refine z28 (fun hp => ?_) (fun hp => ?_) | refine z29 (fun hp => ?_) (fun hp => ?_) | refine z2a ?_ | refine z2b ?_)
          exact wx_loopL (ih (j + 1 + 1) (by omega) (by omega) _ hR)
      repeat' (first
        | refine wo_call rfl rfl rfl (c_OneE (i := 0) (r := a) h1 (hz1 _) hv (by omega) hc1 ha (by omega) ?_)
        | refine wo_eqa rfl rfl (eq_lineE (x := L[0]) (y := L[0]) (decide_eq_true rfl)) rfl ?_
        | refine z00 ?_ | refine z01 ?_ | refine z02 ?_ | refine z04 ?_ | refine z05 ?_ | refine z08 ?_ | refine zp ?_ | refine z0g ?_ | refine z0h ?_ | refine z0j ?_ | refine z0k ?_
        | refine z0l ?_ | refine z0n ?_ | refine z0o ?_ | refine z0p ?_ | refine z0q ?_ | refine z0r ?_ | refine z0s ?_ | refine z0v ?_ | refine z0z ?_ | refine z12 ?_ | refine z14 ?_
        | refine z15 ?_ | refine z1e ?_ | refine z1f (hk := ?_) | refine z1i ?_ | refine z1j ?_ | refine z1k ?_ | refine z1l ?_ | refine z1m ?_ | refine z1n ?_
        | refine z1o (fun hp => ?_) (fun hp => ?_) | refine z1p (fun hp => ?_) (fun hp => ?_) | refine z1q (fun hp => ?_) (fun hp => ?_) | refine z1r ?_ | refine z1s ?_ | refine z1t ?_
        | refine z1u ?_ | refine z1v ?_ | refine z1w ?_ | refine z1x ?_ | refine z1y ?_ | refine z1z ?_ | refine z20 ?_ | refine z21 ?_ | refine z22 ?_ | refine z23 ?_ | refine z24 ?_
        | refine z25 ?_ | refine z26 ?_ | refine z27 ?_ | refine z28 (fun hp => ?_) (fun hp => ?_) | refine z29 (fun hp => ?_) (fun hp => ?_) | refine z2a ?_ | refine z2b ?_)
      refine wx_loopL ?_
      refine key (L.length - 1) 1 (by omega) (by omega) _ ?_
      intro m'
      repeat' (first
        | refine wo_call rfl rfl rfl (c_head15 ?_)
        | refine z00 ?_ | refine z01 ?_ | refine z02 ?_ | refine z04 ?_ | refine z05 ?_ | refine z08 ?_ | refine zp ?_ | refine z0g ?_ | refine z0h ?_ | refine z0j ?_ | refine z0k ?_
        | refine z0l ?_ | refine z0n ?_ | refine z0o ?_ | refine z0p ?_ | refine z0q ?_ | refine z0r ?_ | refine z0s ?_ | refine z0v ?_ | refine z0z ?_ | refine z12 ?_ | refine z14 ?_
        | refine z15 ?_ | refine z1e ?_ | refine z1f (hk := ?_) | refine z1i ?_ | refine z1j ?_ | refine z1k ?_ | refine z1l ?_ | refine z1m ?_ | refine z1n ?_
        | refine z1o (fun hp => ?_) (fun hp => ?_) | refine z1p (fun hp => ?_) (fun hp => ?_) | refine z1q (fun hp => ?_) (fun hp => ?_) | refine z1r ?_ | refine z1s ?_ | refine z1t ?_
        | refine z1u ?_ | refine z1v ?_ | refine z1w ?_ | refine z1x ?_ | refine z1y ?_ | refine z1z ?_ | refine z20 ?_ | refine z21 ?_ | refine z22 ?_ | refine z23 ?_ | refine z24 ?_
        | refine z25 ?_ | refine z26 ?_ | refine z27 ?_ | refine z28 (fun hp => ?_) (fun hp => ?_) | refine z29 (fun hp => ?_) (fun hp => ?_) | refine z2a ?_ | refine z2b ?_)
      exact fin_cln rfl hQ

end
end Go.Proofs.Ytnekgoanadbmmaa
