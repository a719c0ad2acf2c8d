/-
The statement FirstLines, of the program's text in Mini: ref15.Lines.
-/
import Derived.Test.YtnekgoanadbmmaaHf
import Derived.Test.YtnekgoanadbmmaaHg
import Derived.Test.YtnekgoanadbmmaaHh
namespace Go.Proofs.Ytnekgoanadbmmaa
open Go.Mini
set_option linter.unusedSimpArgs false
set_option linter.unusedVariables false
set_option maxHeartbeats 4000000

section
variable {m : Mem} {ls : List LRec} {Q : MV → Mem → List LRec → Prop}

theorem lines_bd {l : List Cell} {rest : Room} : ∀ {k i : Nat} {r : Room}, i ≤ l.length → (linesG l r rest k i).1.length ≤ k ∧ ∀ x ∈ (linesG l r rest k i).1, 0 ≤ x.fr ∧ x.fr ≤ l.length ∧ 0 ≤ x.to ∧ x.to ≤ l.length
  | 0, i, r, h => by simp [linesG]
  | k + 1, i, r, h => by
    simp only [linesG]
    by_cases he : (oneF l i r).2 = 0
    · obtain ⟨g0, to, g1, g2, g3, g4, _⟩ := oneF_ok h he
      rw [if_neg (fun c => c he)]
      by_cases hm : moreB l (oneF l i r).1 = true
      · rw [if_pos hm]
        have e1 : (oneF l i r).1.to.toNat = to := by omega
        rw [e1]
        have ih := lines_bd (l := l) (rest := rest) (k := k) (i := to) (r := rest) g3
        split
        · simp
        · simp only [List.length_cons]
          refine ⟨by omega, fun x hx => ?_⟩
          rcases List.mem_cons.1 hx with rfl | hx
          · omega
          · exact ih.2 x hx
      · rw [if_neg hm]
        refine ⟨by simp, fun x hx => ?_⟩
        simp only [List.mem_singleton] at hx
        subst hx
        omega
    · rw [if_pos he]
      simp

theorem linesF_bd {l : List Cell} {r rest : Room} : (linesF l r rest).1.length ≤ l.length + 2 ∧ ∀ x ∈ (linesF l r rest).1, 0 ≤ x.fr ∧ x.fr ≤ l.length ∧ 0 ≤ x.to ∧ x.to ≤ l.length := by
  unfold linesF
  split
  · simp
  · exact lines_bd (by omega)

theorem c_Lines15 {first rest : List Cell} {v w : MV} {a b : Room} (hv : Sl KCell first v) (hw : Sl KCell rest w) (hl1 : first.length ≤ 1000000) (hl2 : rest.length ≤ 1000000) (hc1 : ∀ c ∈ first, c.ok) (hc2 : ∀ c ∈ rest, c.ok) (ha : I64 a.start) (hb : I64 b.start)
    (hQ : ∀ u, Sl KLine (firstL first rest a b).1 u → Q (.tup [u, .int .i64 (firstL first rest a b).2]) m ls) : Wc ip f_ref15_Lines [v, w, .agg a.mv, .agg b.mv] m ls Q := by
  refine wc_fn1 rfl fn_ref15_Lines rfl (by simp [deepVs, hv.deep, hw.deep, deepV, Room.mv]) rfl ?_
  by_cases hbad : alikeF first rest = false ∨ rest.any badTab = true ∨ b.width < 0
  · have e : firstL first rest a b = ([], 2) := by unfold firstL; rw [if_pos hbad]
    rw [e] at hQ
    cases hal : alikeF first rest with
    | false =>
      repeat' (first
        | refine wo_call rfl rfl rfl (c_Alike15 hal hv hw hl1 ?_)
        | refine z00 ?_ | refine z01 ?_ | refine z02 ?_ | refine z04 ?_ | refine z05 ?_ | refine z08 ?_ | refine zp ?_ | refine z0g ?_ | refine z0h ?_ | refine z0j ?_ | refine z0k ?_
        | refine z0l ?_ | refine z0n ?_ | refine z0o ?_ | refine z0p ?_ | refine z0q ?_ | refine z0r ?_ | refine z0s ?_ | refine z0v ?_ | refine z0z ?_ | refine z12 ?_ | refine z14 ?_
        | refine z15 ?_ | refine z1e ?_ | refine z1f (hk := ?_) | refine z1i ?_ | refine z1j ?_ | refine z1k ?_ | refine z1l ?_ | refine z1m ?_ | refine z1n ?_
        | refine z1o (fun hp => ?_) (fun hp => ?_) | refine z1p (fun hp => ?_) (fun hp => ?_) | refine z1q (fun hp => ?_) (fun hp => ?_) | refine z1r ?_ | refine z1s ?_ | refine z1t ?_
        | refine z1u ?_ | refine z1v ?_ | refine z1w ?_ | refine z1x ?_ | refine z1y ?_ | refine z1z ?_ | refine z20 ?_ | refine z21 ?_ | refine z22 ?_ | refine z23 ?_ | refine z24 ?_
        | refine z25 ?_ | refine z26 ?_ | refine z27 ?_ | refine z28 (fun hp => ?_) (fun hp => ?_) | refine z29 (fun hp => ?_) (fun hp => ?_) | refine z2a ?_ | refine z2b ?_)
      exact fin1_deep rfl (hQ _ .nil)
    | true =>
      cases hbt : rest.any badTab with
      | true =>
        repeat' (first
          | refine wo_call rfl rfl rfl (c_Alike15 hal hv hw hl1 ?_)
          | refine wo_call rfl rfl rfl (c_May14 (i := 0) hbt hw hl2 (by omega) ?_)
          | refine z00 ?_ | refine z01 ?_ | refine z02 ?_ | refine z04 ?_ | refine z05 ?_ | refine z08 ?_ | refine zp ?_ | refine z0g ?_ | refine z0h ?_ | refine z0j ?_ | refine z0k ?_
          | refine z0l ?_ | refine z0n ?_ | refine z0o ?_ | refine z0p ?_ | refine z0q ?_ | refine z0r ?_ | refine z0s ?_ | refine z0v ?_ | refine z0z ?_ | refine z12 ?_ | refine z14 ?_
          | refine z15 ?_ | refine z1e ?_ | refine z1f (hk := ?_) | refine z1i ?_ | refine z1j ?_ | refine z1k ?_ | refine z1l ?_ | refine z1m ?_ | refine z1n ?_
          | refine z1o (fun hp => ?_) (fun hp => ?_) | refine z1p (fun hp => ?_) (fun hp => ?_) | refine z1q (fun hp => ?_) (fun hp => ?_) | refine z1r ?_ | refine z1s ?_ | refine z1t ?_
          | refine z1u ?_ | refine z1v ?_ | refine z1w ?_ | refine z1x ?_ | refine z1y ?_ | refine z1z ?_ | refine z20 ?_ | refine z21 ?_ | refine z22 ?_ | refine z23 ?_ | refine z24 ?_
          | refine z25 ?_ | refine z26 ?_ | refine z27 ?_ | refine z28 (fun hp => ?_) (fun hp => ?_) | refine z29 (fun hp => ?_) (fun hp => ?_) | refine z2a ?_ | refine z2b ?_)
        exact fin1_deep rfl (hQ _ .nil)
      | false =>
        have hwd : b.width < 0 := by
          rcases hbad with h | h | h
          · rw [hal] at h; cases h
          · rw [hbt] at h; cases h
          · exact h
        repeat' (first
          | refine wo_call rfl rfl rfl (c_Alike15 hal hv hw hl1 ?_)
          | refine wo_call rfl rfl rfl (c_May14 (i := 0) hbt hw hl2 (by omega) ?_)
          | refine z00 ?_ | refine z01 ?_ | refine z02 ?_ | refine z04 ?_ | refine z05 ?_ | refine z08 ?_ | refine zp ?_ | refine z0g ?_ | refine z0h ?_ | refine z0j ?_ | refine z0k ?_
          | refine z0l ?_ | refine z0n ?_ | refine z0o ?_ | refine z0p ?_ | refine z0q ?_ | refine z0r ?_ | refine z0s ?_ | refine z0v ?_ | refine z0z ?_ | refine z12 ?_ | refine z14 ?_
          | refine z15 ?_ | refine z1e ?_ | refine z1f (hk := ?_) | refine z1i ?_ | refine z1j ?_ | refine z1k ?_ | refine z1l ?_ | refine z1m ?_ | refine z1n ?_
          | refine z1o (fun hp => ?_) (fun hp => ?_) | refine z1p (fun hp => ?_) (fun hp => ?_) | refine z1q (fun hp => ?_) (fun hp => ?_) | refine z1r ?_ | refine z1s ?_ | refine z1t ?_
          | refine z1u ?_ | refine z1v ?_ | refine z1w ?_ | refine z1x ?_ | refine z1y ?_ | refine z1z ?_ | refine z20 ?_ | refine z21 ?_ | refine z22 ?_ | refine z23 ?_ | refine z24 ?_
          | refine z25 ?_ | refine z26 ?_ | refine z27 ?_ | refine z28 (fun hp => ?_) (fun hp => ?_) | refine z29 (fun hp => ?_) (fun hp => ?_) | refine z2a ?_ | refine z2b ?_)
        exact fin1_deep rfl (hQ _ .nil)
  · have hal : alikeF first rest = true := by
      cases h : alikeF first rest with
      | true => rfl
      | false => exact absurd (.inl h) hbad
    have hbt : rest.any badTab = false := by
      cases h : rest.any badTab with
      | true => exact absurd (.inr (.inl h)) hbad
      | false => rfl
    have hwd : ¬ b.width < 0 := fun h => hbad (.inr (.inr h))
    have hle := alikeF_len hal
    rw [first_eq hal hbt hwd] at hQ
    clear hbad
    generalize hone : oneF first 0 a = p at hQ
    obtain ⟨x, e⟩ := p
    simp only at hQ
    by_cases he : e ≠ 0
    · rw [if_pos he] at hQ
      repeat' (first
        | refine wo_call rfl rfl rfl (c_Alike15 hal hv hw hl1 ?_)
        | refine wo_call rfl rfl rfl (c_May14 (i := 0) hbt hw hl2 (by omega) ?_)
        | refine wo_call rfl rfl rfl (c_One14 (i := 0) hone hv hl1 hc1 ha (by omega) ?_)
        | refine wx_ifDT rfl he ?_
        | refine z00 ?_ | refine z01 ?_ | refine z02 ?_ | refine z04 ?_ | refine z05 ?_ | refine z08 ?_ | refine zp ?_ | refine z0g ?_ | refine z0h ?_ | refine z0j ?_ | refine z0k ?_
        | refine z0l ?_ | refine z0n ?_ | refine z0o ?_ | refine z0p ?_ | refine z0q ?_ | refine z0r ?_ | refine z0s ?_ | refine z0v ?_ | refine z0z ?_ | refine z12 ?_ | refine z14 ?_
        | refine z15 ?_ | refine z1e ?_ | refine z1f (hk := ?_) | refine z1i ?_ | refine z1j ?_ | refine z1k ?_ | refine z1l ?_ | refine z1m ?_ | refine z1n ?_
        | refine z1o (fun hp => ?_) (fun hp => ?_) | refine z1p (fun hp => ?_) (fun hp => ?_) | refine z1q (fun hp => ?_) (fun hp => ?_) | refine z1r ?_ | refine z1s ?_ | refine z1t ?_
        | refine z1u ?_ | refine z1v ?_ | refine z1w ?_ | refine z1x ?_ | refine z1y ?_ | refine z1z ?_ | refine z20 ?_ | refine z21 ?_ | refine z22 ?_ | refine z23 ?_ | refine z24 ?_
        | refine z25 ?_ | refine z26 ?_ | refine z27 ?_ | refine z28 (fun hp => ?_) (fun hp => ?_) | refine z29 (fun hp => ?_) (fun hp => ?_) | refine z2a ?_ | refine z2b ?_)
      exact fin1_deep rfl (hQ _ .nil)
    · have he0 : e = 0 := Decidable.byContradiction he
      subst he0
      rw [if_neg he] at hQ
      have hok := oneF_ok (l := first) (i := 0) (r := a) (by omega) (by rw [hone])
      rw [hone] at hok
      obtain ⟨hfr, to, hto, t1, t2, t3, t4⟩ := hok
      simp only at hto hfr
      cases hm : moreB first x with
      | false =>
        rw [hm, if_neg (by simp)] at hQ
        unfold moreB at hm
        simp only [Bool.or_eq_false_iff, decide_eq_false_iff_not] at hm
        obtain ⟨m1, m2⟩ := hm
        obtain ⟨xf, xt, xb⟩ := x
        simp only at m1 m2 hto
        subst m1
        have m3 : xt = first.length := by omega
        repeat' (first
          | refine wo_call rfl rfl rfl (c_Alike15 hal hv hw hl1 ?_)
          | refine wo_call rfl rfl rfl (c_May14 (i := 0) hbt hw hl2 (by omega) ?_)
          | refine wo_call rfl rfl rfl (c_One14 (i := 0) hone hv hl1 hc1 ha (by omega) ?_)
          | refine z00 ?_ | refine z01 ?_ | refine z02 ?_ | refine z04 ?_ | refine z05 ?_ | refine z08 ?_ | refine zp ?_ | refine z0g ?_ | refine z0h ?_ | refine z0j ?_ | refine z0k ?_
          | refine z0l ?_ | refine z0n ?_ | refine z0o ?_ | refine z0p ?_ | refine z0q ?_ | refine z0r ?_ | refine z0s ?_ | refine z0v ?_ | refine z0z ?_ | refine z12 ?_ | refine z14 ?_
          | refine z15 ?_ | refine z1e ?_ | refine z1f (hk := ?_) | refine z1i ?_ | refine z1j ?_ | refine z1k ?_ | refine z1l ?_ | refine z1m ?_ | refine z1n ?_
          | refine z1o (fun hp => ?_) (fun hp => ?_) | refine z1p (fun hp => ?_) (fun hp => ?_) | refine z1q (fun hp => ?_) (fun hp => ?_) | refine z1r ?_ | refine z1s ?_ | refine z1t ?_
          | refine z1u ?_ | refine z1v ?_ | refine z1w ?_ | refine z1x ?_ | refine z1y ?_ | refine z1z ?_ | refine z20 ?_ | refine z21 ?_ | refine z22 ?_ | refine z23 ?_ | refine z24 ?_
          | refine z25 ?_ | refine z26 ?_ | refine z27 ?_ | refine z28 (fun hp => ?_) (fun hp => ?_) | refine z29 (fun hp => ?_) (fun hp => ?_) | refine z2a ?_ | refine z2b ?_)
        exact fin1_deep rfl (hQ _ (.inr ⟨_, rfl⟩))
      | true =>
        rw [hm, if_pos rfl, hto, Int.toNat_natCast] at hQ
        have hdl : (rest.drop to).length = rest.length - to := by simp
        have hbd := linesF_bd (l := rest.drop to) (r := b) (rest := b)
        rw [hdl] at hbd
        have hdt : (rest.drop to).take (rest.length - to) = rest.drop to := List.take_of_length_le (by omega)
        -- behind the first line
        have tail : ∀ {R : Ex → As → Mem → List LRec → Prop}, True := fun {_} => trivial
        have key : ∀ (more : List Line) (z : MV), Sl KLine more z → more.length ≤ 1000002 → (∀ y ∈ more, 0 ≤ y.fr ∧ y.fr ≤ 1000000 ∧ 0 ≤ y.to ∧ y.to ≤ 1000000) → ∀ (k i : Nat), i + k = more.length → ∀ (m : Mem) (u : MV), m[0]? = some ⟨x.mv, 0, true⟩ → App KLine 1 (x :: (more.take i).map (shiftL to)) m u → ∀ {R : Ex → As → Mem → List LRec → Prop},
            (∀ m' u', App KLine 1 (x :: more.map (shiftL to)) m' u' → R (.exit 0) [(12, u')] m' []) →
            Wx ip i_ref15_Lines.nt (.loop (lv [10, 12, 13, 15] 93) ref15_Lines_b0) [(10, .ptr 0 0 0), (12, u), (13, z), (15, .int .i64 i)] m [] R := by
          intro more z hz hml hmb k
          induction k with
          | zero =>
            intro i hk m u h0 hu R hR
            rw [List.take_of_length_le (by omega)] at hu
            refine wx_roundL rfl ?_
            repeat' (first
              | refine wx_exitL [12] ?_
              | refine z00 ?_ | refine z01 ?_ | refine z02 ?_ | refine z04 ?_ | refine z05 ?_ | refine z08 ?_ | refine zp ?_ | refine z0g ?_ | refine z0h ?_ | refine z0j ?_ | refine z0k ?_
              | refine z0l ?_ | refine z0n ?_ | refine z0o ?_ | refine z0p ?_ | refine z0q ?_ | refine z0r ?_ | refine z0s ?_ | refine z0v ?_ | refine z0z ?_ | refine z12 ?_ | refine z14 ?_
              | refine z15 ?_ | refine z1e ?_ | refine z1f (hk := ?_) | refine z1i ?_ | refine z1j ?_ | refine z1k ?_ | refine z1l ?_ | refine z1m ?_ | refine z1n ?_
              | refine z1o (fun hp => ?_) (fun hp => ?_) | refine z1p (fun hp => ?_) (fun hp => ?_) | refine z1q (fun hp => ?_) (fun hp => ?_) | refine z1r ?_ | refine z1s ?_ | refine z1t ?_
              | refine z1u ?_ | refine z1v ?_ | refine z1w ?_ | refine z1x ?_ | refine z1y ?_ | refine z1z ?_ | refine z20 ?_ | refine z21 ?_ | refine z22 ?_ | refine z23 ?_ | refine z24 ?_
              | refine z25 ?_ | refine z26 ?_ | refine z27 ?_ | refine z28 (fun hp => ?_) (fun hp => ?_) | refine z29 (fun hp => ?_) (fun hp => ?_) | refine z2a ?_ | refine z2b ?_)
            exact hR _ _ hu
          | succ k ih =>
            intro i hk m u h0 hu R hR
            have hlt : i < more.length := by omega
            have hy := hmb _ (List.getElem_mem hlt)
            have htk : (more.take (i + 1)).map (shiftL to) = (more.take i).map (shiftL to) ++ [shiftL to more[i]] := by
              rw [List.take_succ_eq_append_getElem hlt, List.map_append]; rfl
            generalize hye : more[i] = y at hy htk
            have hye' : more[(i : Int).toNat] = y := hye
            have hx1 : x.mv[1]? = some (.int .i64 (to : Int)) := by rw [← hto]; rfl
            have hm0 := get_lt h0
            have hul : (x :: (more.take i).map (shiftL to)).length ≤ 1000004 := by simp; omega
            obtain ⟨v2, m2, a1, a2, a3, a4⟩ := App.app (bytes := 24) (x := .lit (flat KLine.E [shiftL to y]) [shiftL to y].length (some 1)) (hu.push ⟨y.mv, 0, true⟩) (by simp) (src_lit (K := KLine) (xs := [shiftL to y])) rfl (by simp) (by simp only [List.length_cons, List.length_nil] at hul ⊢; omega) rfl
            refine wx_roundL rfl ?_
            repeat' (first
              | refine wo_loadeE hye' rfl rfl rfl ?_
              | refine wo_load (v := .int .i64 (to : Int)) rfl (get_app h0 _) rfl hx1 rfl ?_
              | refine wo_app rfl rfl a1 rfl ?_
              | refine z00 ?_ | refine z01 ?_ | refine z02 ?_ | refine z04 ?_ | refine z05 ?_ | refine z08 ?_ | refine zp ?_ | refine z0g ?_ | refine z0h ?_ | refine z0j ?_ | refine z0k ?_
              | refine z0l ?_ | refine z0n ?_ | refine z0o ?_ | refine z0p ?_ | refine z0q ?_ | refine z0r ?_ | refine z0s ?_ | refine z0v ?_ | refine z0z ?_ | refine z12 ?_ | refine z14 ?_
              | refine z15 ?_ | refine z1e ?_ | refine z1f (hk := ?_) | refine z1i ?_ | refine z1j ?_ | refine z1k ?_ | refine z1l ?_ | refine z1m ?_ | refine z1n ?_
              | refine z1o (fun hp => ?_) (fun hp => ?_) | refine z1p (fun hp => ?_) (fun hp => ?_) | refine z1q (fun hp => ?_) (fun hp => ?_) | refine z1r ?_ | refine z1s ?_ | refine z1t ?_
              | refine z1u ?_ | refine z1v ?_ | refine z1w ?_ | refine z1x ?_ | refine z1y ?_ | refine z1z ?_ | refine z20 ?_ | refine z21 ?_ | refine z22 ?_ | refine z23 ?_ | refine z24 ?_
              | refine z25 ?_ | refine z26 ?_ | refine z27 ?_ | refine z28 (fun hp => ?_) (fun hp => ?_) | refine z29 (fun hp => ?_) (fun hp => ?_) | refine z2a ?_ | refine z2b ?_)
            refine wx_loopL ?_
            refine ih (i + 1) (by omega) m2 v2 (by rw [a3 0 (by omega)]; exact get_app h0 _) ?_ hR
            rw [htk]
            exact a2
        clear tail
        cases hxb : x.forced with
        | true =>
          obtain ⟨xf, xt, xb⟩ := x
          simp only at hxb hto
          subst hxb hto
          repeat' (first
            | refine wo_call rfl rfl rfl (c_Alike15 hal hv hw hl1 ?_)
            | refine wo_call rfl rfl rfl (c_May14 (i := 0) hbt hw hl2 (by omega) ?_)
            | refine wo_call rfl rfl rfl (c_One14 (i := 0) hone hv hl1 hc1 ha (by omega) ?_)
            | refine z00 ?_ | refine z01 ?_ | refine z02 ?_ | refine z04 ?_ | refine z05 ?_ | refine z08 ?_ | refine zp ?_ | refine z0g ?_ | refine z0h ?_ | refine z0j ?_ | refine z0k ?_
            | refine z0l ?_ | refine z0n ?_ | refine z0o ?_ | refine z0p ?_ | refine z0q ?_ | refine z0r ?_ | refine z0s ?_ | refine z0v ?_ | refine z0z ?_ | refine z12 ?_ | refine z14 ?_
            | refine z15 ?_ | refine z1e ?_ | refine z1f (hk := ?_) | refine z1i ?_ | refine z1j ?_ | refine z1k ?_ | refine z1l ?_ | refine z1m ?_ | refine z1n ?_
            | refine z1o (fun hp => ?_) (fun hp => ?_) | refine z1p (fun hp => ?_) (fun hp => ?_) | refine z1q (fun hp => ?_) (fun hp => ?_) | refine z1r ?_ | refine z1s ?_ | refine z1t ?_
            | refine z1u ?_ | refine z1v ?_ | refine z1w ?_ | refine z1x ?_ | refine z1y ?_ | refine z1z ?_ | refine z20 ?_ | refine z21 ?_ | refine z22 ?_ | refine z23 ?_ | refine z24 ?_
            | refine z25 ?_ | refine z26 ?_ | refine z27 ?_ | refine z28 (fun hp => ?_) (fun hp => ?_) | refine z29 (fun hp => ?_) (fun hp => ?_) | refine z2a ?_ | refine z2b ?_)
          refine wo_sliceS rfl hw rfl rfl (show 0 ≤ (to : Int) ∧ (to : Int) ≤ (rest.length : Int) ∧ (rest.length : Int) ≤ rest.length by omega) rfl rfl fun v2 hv2 => ?_
          have hv2' : Sl KCell (rest.drop to) v2 := by rw [← hdt]; exact hv2
          repeat' (first
            | refine wo_call rfl rfl rfl (c_Lines14 (r := b) (rest := b) hv2' (by omega) (fun c hc => hc2 c (List.mem_of_mem_drop hc)) hb hb ?_)
            | refine z00 ?_ | refine z01 ?_ | refine z02 ?_ | refine z04 ?_ | refine z05 ?_ | refine z08 ?_ | refine zp ?_ | refine z0g ?_ | refine z0h ?_ | refine z0j ?_ | refine z0k ?_
            | refine z0l ?_ | refine z0n ?_ | refine z0o ?_ | refine z0p ?_ | refine z0q ?_ | refine z0r ?_ | refine z0s ?_ | refine z0v ?_ | refine z0z ?_ | refine z12 ?_ | refine z14 ?_
            | refine z15 ?_ | refine z1e ?_ | refine z1f (hk := ?_) | refine z1i ?_ | refine z1j ?_ | refine z1k ?_ | refine z1l ?_ | refine z1m ?_ | refine z1n ?_
            | refine z1o (fun hp => ?_) (fun hp => ?_) | refine z1p (fun hp => ?_) (fun hp => ?_) | refine z1q (fun hp => ?_) (fun hp => ?_) | refine z1r ?_ | refine z1s ?_ | refine z1t ?_
            | refine z1u ?_ | refine z1v ?_ | refine z1w ?_ | refine z1x ?_ | refine z1y ?_ | refine z1z ?_ | refine z20 ?_ | refine z21 ?_ | refine z22 ?_ | refine z23 ?_ | refine z24 ?_
            | refine z25 ?_ | refine z26 ?_ | refine z27 ?_ | refine z28 (fun hp => ?_) (fun hp => ?_) | refine z29 (fun hp => ?_) (fun hp => ?_) | refine z2a ?_ | refine z2b ?_)
          intro z hz
          by_cases hf : (linesF (rest.drop to) b b).2 ≠ 0
          · rw [if_pos hf] at hQ
            repeat' (first
              | refine wx_ifDT rfl hf ?_
              | refine z00 ?_ | refine z01 ?_ | refine z02 ?_ | refine z04 ?_ | refine z05 ?_ | refine z08 ?_ | refine zp ?_ | refine z0g ?_ | refine z0h ?_ | refine z0j ?_ | refine z0k ?_
              | refine z0l ?_ | refine z0n ?_ | refine z0o ?_ | refine z0p ?_ | refine z0q ?_ | refine z0r ?_ | refine z0s ?_ | refine z0v ?_ | refine z0z ?_ | refine z12 ?_ | refine z14 ?_
              | refine z15 ?_ | refine z1e ?_ | refine z1f (hk := ?_) | refine z1i ?_ | refine z1j ?_ | refine z1k ?_ | refine z1l ?_ | refine z1m ?_ | refine z1n ?_
              | refine z1o (fun hp => ?_) (fun hp => ?_) | refine z1p (fun hp => ?_) (fun hp => ?_) | refine z1q (fun hp => ?_) (fun hp => ?_) | refine z1r ?_ | refine z1s ?_ | refine z1t ?_
              | refine z1u ?_ | refine z1v ?_ | refine z1w ?_ | refine z1x ?_ | refine z1y ?_ | refine z1z ?_ | refine z20 ?_ | refine z21 ?_ | refine z22 ?_ | refine z23 ?_ | refine z24 ?_
              | refine z25 ?_ | refine z26 ?_ | refine z27 ?_ | refine z28 (fun hp => ?_) (fun hp => ?_) | refine z29 (fun hp => ?_) (fun hp => ?_) | refine z2a ?_ | refine z2b ?_)
            exact fin1_deep rfl (hQ _ .nil)
          · rw [if_neg hf] at hQ
            repeat' (first
              | refine wx_ifDF rfl hf ?_
              | refine z00 ?_ | refine z01 ?_ | refine z02 ?_ | refine z04 ?_ | refine z05 ?_ | refine z08 ?_ | refine zp ?_ | refine z0g ?_ | refine z0h ?_ | refine z0j ?_ | refine z0k ?_
              | refine z0l ?_ | refine z0n ?_ | refine z0o ?_ | refine z0p ?_ | refine z0q ?_ | refine z0r ?_ | refine z0s ?_ | refine z0v ?_ | refine z0z ?_ | refine z12 ?_ | refine z14 ?_
              | refine z15 ?_ | refine z1e ?_ | refine z1f (hk := ?_) | refine z1i ?_ | refine z1j ?_ | refine z1k ?_ | refine z1l ?_ | refine z1m ?_ | refine z1n ?_
              | refine z1o (fun hp => ?_) (fun hp => ?_) | refine z1p (fun hp => ?_) (fun hp => ?_) | refine z1q (fun hp => ?_) (fun hp => ?_) | refine z1r ?_ | refine z1s ?_ | refine z1t ?_
              | refine z1u ?_ | refine z1v ?_ | refine z1w ?_ | refine z1x ?_ | refine z1y ?_ | refine z1z ?_ | refine z20 ?_ | refine z21 ?_ | refine z22 ?_ | refine z23 ?_ | refine z24 ?_
              | refine z25 ?_ | refine z26 ?_ | refine z27 ?_ | refine z28 (fun hp => ?_) (fun hp => ?_) | refine z29 (fun hp => ?_) (fun hp => ?_) | refine z2a ?_ | refine z2b ?_)
            refine wx_loopL ?_
            refine key _ z hz (by omega) (fun y hy => by have := hbd.2 y hy; omega) _ 0 (Nat.zero_add _) _ _ rfl (.inr (.inl rfl)) ?_
            intro m' u' hu'
            repeat' (first
              | refine z00 ?_ | refine z01 ?_ | refine z02 ?_ | refine z04 ?_ | refine z05 ?_ | refine z08 ?_ | refine zp ?_ | refine z0g ?_ | refine z0h ?_ | refine z0j ?_ | refine z0k ?_
              | refine z0l ?_ | refine z0n ?_ | refine z0o ?_ | refine z0p ?_ | refine z0q ?_ | refine z0r ?_ | refine z0s ?_ | refine z0v ?_ | refine z0z ?_ | refine z12 ?_ | refine z14 ?_
              | refine z15 ?_ | refine z1e ?_ | refine z1f (hk := ?_) | refine z1i ?_ | refine z1j ?_ | refine z1k ?_ | refine z1l ?_ | refine z1m ?_ | refine z1n ?_
              | refine z1o (fun hp => ?_) (fun hp => ?_) | refine z1p (fun hp => ?_) (fun hp => ?_) | refine z1q (fun hp => ?_) (fun hp => ?_) | refine z1r ?_ | refine z1s ?_ | refine z1t ?_
              | refine z1u ?_ | refine z1v ?_ | refine z1w ?_ | refine z1x ?_ | refine z1y ?_ | refine z1z ?_ | refine z20 ?_ | refine z21 ?_ | refine z22 ?_ | refine z23 ?_ | refine z24 ?_
              | refine z25 ?_ | refine z26 ?_ | refine z27 ?_ | refine z28 (fun hp => ?_) (fun hp => ?_) | refine z29 (fun hp => ?_) (fun hp => ?_) | refine z2a ?_ | refine z2b ?_)
            exact hu'.fin1 rfl hQ
        | false =>
          obtain ⟨xf, xt, xb⟩ := x
          simp only at hxb hto
          subst hxb hto
          have hne : ¬ (to : Int) = first.length := by
            unfold moreB at hm
            simp at hm
            omega
          repeat' (first
            | refine wo_call rfl rfl rfl (c_Alike15 hal hv hw hl1 ?_)
            | refine wo_call rfl rfl rfl (c_May14 (i := 0) hbt hw hl2 (by omega) ?_)
            | refine wo_call rfl rfl rfl (c_One14 (i := 0) hone hv hl1 hc1 ha (by omega) ?_)
            | refine z00 ?_ | refine z01 ?_ | refine z02 ?_ | refine z04 ?_ | refine z05 ?_ | refine z08 ?_ | refine zp ?_ | refine z0g ?_ | refine z0h ?_ | refine z0j ?_ | refine z0k ?_
            | refine z0l ?_ | refine z0n ?_ | refine z0o ?_ | refine z0p ?_ | refine z0q ?_ | refine z0r ?_ | refine z0s ?_ | refine z0v ?_ | refine z0z ?_ | refine z12 ?_ | refine z14 ?_
            | refine z15 ?_ | refine z1e ?_ | refine z1f (hk := ?_) | refine z1i ?_ | refine z1j ?_ | refine z1k ?_ | refine z1l ?_ | refine z1m ?_ | refine z1n ?_
            | refine z1o (fun hp => ?_) (fun hp => ?_) | refine z1p (fun hp => ?_) (fun hp => ?_) | refine z1q (fun hp => ?_) (fun hp => ?_) | refine z1r ?_ | refine z1s ?_ | refine z1t ?_
            | refine z1u ?_ | refine z1v ?_ | refine z1w ?_ | refine z1x ?_ | refine z1y ?_ | refine z1z ?_ | refine z20 ?_ | refine z21 ?_ | refine z22 ?_ | refine z23 ?_ | refine z24 ?_
            | refine z25 ?_ | refine z26 ?_ | refine z27 ?_ | refine z28 (fun hp => ?_) (fun hp => ?_) | refine z29 (fun hp => ?_) (fun hp => ?_) | refine z2a ?_ | refine z2b ?_)
          refine wo_sliceS rfl hw rfl rfl (show 0 ≤ (to : Int) ∧ (to : Int) ≤ (rest.length : Int) ∧ (rest.length : Int) ≤ rest.length by omega) rfl rfl fun v2 hv2 => ?_
          have hv2' : Sl KCell (rest.drop to) v2 := by rw [← hdt]; exact hv2
          repeat' (first
            | refine wo_call rfl rfl rfl (c_Lines14 (r := b) (rest := b) hv2' (by omega) (fun c hc => hc2 c (List.mem_of_mem_drop hc)) hb hb ?_)
            | refine z00 ?_ | refine z01 ?_ | refine z02 ?_ | refine z04 ?_ | refine z05 ?_ | refine z08 ?_ | refine zp ?_ | refine z0g ?_ | refine z0h ?_ | refine z0j ?_ | refine z0k ?_
            | refine z0l ?_ | refine z0n ?_ | refine z0o ?_ | refine z0p ?_ | refine z0q ?_ | refine z0r ?_ | refine z0s ?_ | refine z0v ?_ | refine z0z ?_ | refine z12 ?_ | refine z14 ?_
            | refine z15 ?_ | refine z1e ?_ | refine z1f (hk := ?_) | refine z1i ?_ | refine z1j ?_ | refine z1k ?_ | refine z1l ?_ | refine z1m ?_ | refine z1n ?_
            | refine z1o (fun hp => ?_) (fun hp => ?_) | refine z1p (fun hp => ?_) (fun hp => ?_) | refine z1q (fun hp => ?_) (fun hp => ?_) | refine z1r ?_ | refine z1s ?_ | refine z1t ?_
            | refine z1u ?_ | refine z1v ?_ | refine z1w ?_ | refine z1x ?_ | refine z1y ?_ | refine z1z ?_ | refine z20 ?_ | refine z21 ?_ | refine z22 ?_ | refine z23 ?_ | refine z24 ?_
            | refine z25 ?_ | refine z26 ?_ | refine z27 ?_ | refine z28 (fun hp => ?_) (fun hp => ?_) | refine z29 (fun hp => ?_) (fun hp => ?_) | refine z2a ?_ | refine z2b ?_)
          intro z hz
          by_cases hf : (linesF (rest.drop to) b b).2 ≠ 0
          · rw [if_pos hf] at hQ
            repeat' (first
              | refine wx_ifDT rfl hf ?_
              | refine z00 ?_ | refine z01 ?_ | refine z02 ?_ | refine z04 ?_ | refine z05 ?_ | refine z08 ?_ | refine zp ?_ | refine z0g ?_ | refine z0h ?_ | refine z0j ?_ | refine z0k ?_
              | refine z0l ?_ | refine z0n ?_ | refine z0o ?_ | refine z0p ?_ | refine z0q ?_ | refine z0r ?_ | refine z0s ?_ | refine z0v ?_ | refine z0z ?_ | refine z12 ?_ | refine z14 ?_
              | refine z15 ?_ | refine z1e ?_ | refine z1f (hk := ?_) | refine z1i ?_ | refine z1j ?_ | refine z1k ?_ | refine z1l ?_ | refine z1m ?_ | refine z1n ?_
              | refine z1o (fun hp => ?_) (fun hp => ?_) | refine z1p (fun hp => ?_) (fun hp => ?_) | refine z1q (fun hp => ?_) (fun hp => ?_) | refine z1r ?_ | refine z1s ?_ | refine z1t ?_
              | refine z1u ?_ | refine z1v ?_ | refine z1w ?_ | refine z1x ?_ | refine z1y ?_ | refine z1z ?_ | refine z20 ?_ | refine z21 ?_ | refine z22 ?_ | refine z23 ?_ | refine z24 ?_
              | refine z25 ?_ | refine z26 ?_ | refine z27 ?_ | refine z28 (fun hp => ?_) (fun hp => ?_) | refine z29 (fun hp => ?_) (fun hp => ?_) | refine z2a ?_ | refine z2b ?_)
            exact fin1_deep rfl (hQ _ .nil)
          · rw [if_neg hf] at hQ
            repeat' (first
              | refine wx_ifDF rfl hf ?_
              | refine z00 ?_ | refine z01 ?_ | refine z02 ?_ | refine z04 ?_ | refine z05 ?_ | refine z08 ?_ | refine zp ?_ | refine z0g ?_ | refine z0h ?_ | refine z0j ?_ | refine z0k ?_
              | refine z0l ?_ | refine z0n ?_ | refine z0o ?_ | refine z0p ?_ | refine z0q ?_ | refine z0r ?_ | refine z0s ?_ | refine z0v ?_ | refine z0z ?_ | refine z12 ?_ | refine z14 ?_
              | refine z15 ?_ | refine z1e ?_ | refine z1f (hk := ?_) | refine z1i ?_ | refine z1j ?_ | refine z1k ?_ | refine z1l ?_ | refine z1m ?_ | refine z1n ?_
              | refine z1o (fun hp => ?_) (fun hp => ?_) | refine z1p (fun hp => ?_) (fun hp => ?_) | refine z1q (fun hp => ?_) (fun hp => ?_) | refine z1r ?_ | refine z1s ?_ | refine z1t ?_
              | refine z1u ?_ | refine z1v ?_ | refine z1w ?_ | refine z1x ?_ | refine z1y ?_ | refine z1z ?_ | refine z20 ?_ | refine z21 ?_ | refine z22 ?_ | refine z23 ?_ | refine z24 ?_
              | refine z25 ?_ | refine z26 ?_ | refine z27 ?_ | refine z28 (fun hp => ?_) (fun hp => ?_) | refine z29 (fun hp => ?_) (fun hp => ?_) | refine z2a ?_ | refine z2b ?_)
            refine wx_loopL ?_
            refine key _ z hz (by omega) (fun y hy => by have := hbd.2 y hy; omega) _ 0 (Nat.zero_add _) _ _ rfl (.inr (.inl rfl)) ?_
            intro m' u' hu'
            repeat' (first
              | refine z00 ?_ | refine z01 ?_ | refine z02 ?_ | refine z04 ?_ | refine z05 ?_ | refine z08 ?_ | refine zp ?_ | refine z0g ?_ | refine z0h ?_ | refine z0j ?_ | refine z0k ?_
              | refine z0l ?_ | refine z0n ?_ | refine z0o ?_ | refine z0p ?_ | refine z0q ?_ | refine z0r ?_ | refine z0s ?_ | refine z0v ?_ | refine z0z ?_ | refine z12 ?_ | refine z14 ?_
              | refine z15 ?_ | refine z1e ?_ | refine z1f (hk := ?_) | refine z1i ?_ | refine z1j ?_ | refine z1k ?_ | refine z1l ?_ | refine z1m ?_ | refine z1n ?_
              | refine z1o (fun hp => ?_) (fun hp => ?_) | refine z1p (fun hp => ?_) (fun hp => ?_) | refine z1q (fun hp => ?_) (fun hp => ?_) | refine z1r ?_ | refine z1s ?_ | refine z1t ?_
              | refine z1u ?_ | refine z1v ?_ | refine z1w ?_ | refine z1x ?_ | refine z1y ?_ | refine z1z ?_ | refine z20 ?_ | refine z21 ?_ | refine z22 ?_ | refine z23 ?_ | refine z24 ?_
              | refine z25 ?_ | refine z26 ?_ | refine z27 ?_ | refine z28 (fun hp => ?_) (fun hp => ?_) | refine z29 (fun hp => ?_) (fun hp => ?_) | refine z2a ?_ | refine z2b ?_)
            exact hu'.fin1 rfl hQ

theorem law_FirstLines {f r : List Cell} {v w : MV} {a b : Room} (hv : Sl KCell f v) (hw : Sl KCell r w) (hl1 : f.length ≤ 9223372036854775807) (hl2 : r.length ≤ 9223372036854775807) (hc1 : ∀ c ∈ f, c.ok) (hc2 : ∀ c ∈ r, c.ok) (ha : I64 a.start) (hb : I64 b.start) (hQ : Q (.bool true) m ls) :
    Wc ip f_law15_FirstLines [.agg (given15 v w a b)] m ls Q := by
  have hd : deepVs (given15 v w a b) = true := by simp [given15, deepVs, hv.deep, hw.deep, deepV]
  refine wc_fn3d rfl fn_law15_FirstLines rfl (by simp [deepVs, deepV, hd]) rfl ?_
  by_cases hbig : great15 f r
  · repeat' (first
      | refine wo_call rfl rfl rfl (c_great15 (a := a) (b := b) hv hw ?_)
      | refine wo_call rfl rfl rfl (c_head15 ?_)
      | refine z00 ?_ | refine z01 ?_ | refine z02 ?_ | refine z04 ?_ | refine z05 ?_ | refine z08 ?_ | refine zp ?_ | refine z0g ?_ | refine z0h ?_ | refine z0j ?_ | refine z0k ?_
      | refine z0l ?_ | refine z0n ?_ | refine z0o ?_ | refine z0p ?_ | refine z0q ?_ | refine z0r ?_ | refine z0s ?_ | refine z0v ?_ | refine z0z ?_ | refine z12 ?_ | refine z14 ?_
      | refine z15 ?_ | refine z1e ?_ | refine z1f (hk := ?_) | refine z1i ?_ | refine z1j ?_ | refine z1k ?_ | refine z1l ?_ | refine z1m ?_ | refine z1n ?_
      | refine z1o (fun hp => ?_) (fun hp => ?_) | refine z1p (fun hp => ?_) (fun hp => ?_) | refine z1q (fun hp => ?_) (fun hp => ?_) | refine z1r ?_ | refine z1s ?_ | refine z1t ?_
      | refine z1u ?_ | refine z1v ?_ | refine z1w ?_ | refine z1x ?_ | refine z1y ?_ | refine z1z ?_ | refine z20 ?_ | refine z21 ?_ | refine z22 ?_ | refine z23 ?_ | refine z24 ?_
      | refine z25 ?_ | refine z26 ?_ | refine z27 ?_ | refine z28 (fun hp => ?_) (fun hp => ?_) | refine z29 (fun hp => ?_) (fun hp => ?_) | refine z2a ?_ | refine z2b ?_)
    exact fin_cln rfl hQ
  · obtain ⟨hb1, hb2⟩ : f.length ≤ 80 ∧ r.length ≤ 80 := by unfold great15 at hbig; omega
    repeat' (first
      | refine wo_call rfl rfl rfl (c_great15 (a := a) (b := b) hv hw ?_)
      | refine wo_call rfl rfl rfl (c_firstLines (a := a) (b := b) hv hw (by omega) (by omega) hc1 hc2 ha hb ?_)
      | refine z00 ?_ | refine z01 ?_ | refine z02 ?_ | refine z04 ?_ | refine z05 ?_ | refine z08 ?_ | refine zp ?_ | refine z0g ?_ | refine z0h ?_ | refine z0j ?_ | refine z0k ?_
      | refine z0l ?_ | refine z0n ?_ | refine z0o ?_ | refine z0p ?_ | refine z0q ?_ | refine z0r ?_ | refine z0s ?_ | refine z0v ?_ | refine z0z ?_ | refine z12 ?_ | refine z14 ?_
      | refine z15 ?_ | refine z1e ?_ | refine z1f (hk := ?_) | refine z1i ?_ | refine z1j ?_ | refine z1k ?_ | refine z1l ?_ | refine z1m ?_ | refine z1n ?_
      | refine z1o (fun hp => ?_) (fun hp => ?_) | refine z1p (fun hp => ?_) (fun hp => ?_) | refine z1q (fun hp => ?_) (fun hp => ?_) | refine z1r ?_ | refine z1s ?_ | refine z1t ?_
      | refine z1u ?_ | refine z1v ?_ | refine z1w ?_ | refine z1x ?_ | refine z1y ?_ | refine z1z ?_ | refine z20 ?_ | refine z21 ?_ | refine z22 ?_ | refine z23 ?_ | refine z24 ?_
      | refine z25 ?_ | refine z26 ?_ | refine z27 ?_ | refine z28 (fun hp => ?_) (fun hp => ?_) | refine z29 (fun hp => ?_) (fun hp => ?_) | refine z2a ?_ | refine z2b ?_)
    intro u1 hu1
    repeat' (first
      | refine wo_call rfl rfl rfl (c_Lines15 (a := a) (b := b) hv hw (by omega) (by omega) hc1 hc2 ha hb ?_)
      | refine z00 ?_ | refine z01 ?_ | refine z02 ?_ | refine z04 ?_ | refine z05 ?_ | refine z08 ?_ | refine zp ?_ | refine z0g ?_ | refine z0h ?_ | refine z0j ?_ | refine z0k ?_
      | refine z0l ?_ | refine z0n ?_ | refine z0o ?_ | refine z0p ?_ | refine z0q ?_ | refine z0r ?_ | refine z0s ?_ | refine z0v ?_ | refine z0z ?_ | refine z12 ?_ | refine z14 ?_
      | refine z15 ?_ | refine z1e ?_ | refine z1f (hk := ?_) | refine z1i ?_ | refine z1j ?_ | refine z1k ?_ | refine z1l ?_ | refine z1m ?_ | refine z1n ?_
      | refine z1o (fun hp => ?_) (fun hp => ?_) | refine z1p (fun hp => ?_) (fun hp => ?_) | refine z1q (fun hp => ?_) (fun hp => ?_) | refine z1r ?_ | refine z1s ?_ | refine z1t ?_
      | refine z1u ?_ | refine z1v ?_ | refine z1w ?_ | refine z1x ?_ | refine z1y ?_ | refine z1z ?_ | refine z20 ?_ | refine z21 ?_ | refine z22 ?_ | refine z23 ?_ | refine z24 ?_
      | refine z25 ?_ | refine z26 ?_ | refine z27 ?_ | refine z28 (fun hp => ?_) (fun hp => ?_) | refine z29 (fun hp => ?_) (fun hp => ?_) | refine z2a ?_ | refine z2b ?_)
    intro u2 hu2
    have hsz : (firstL f r a b).1.length ≤ 1000 := by
      unfold firstL
      split
      · simp
      · split
        · simp
        · have := firstG_len (rest := r) (b := b) (k := f.length + 2) (i := 0) (row := f) (r := a)
          simp; omega
    cases hal : alikeF f r with
    | true =>
      repeat' (first
        | refine wo_call rfl rfl rfl (c_Same14 (decide_eq_true rfl) hu1 hu2 (by omega) ?_)
        | refine wo_call rfl rfl rfl (c_Alike hal hv hw (by omega) ?_)
        | refine wo_call rfl rfl rfl (c_Alike15 hal hv hw (by omega) ?_)
        | refine wo_call rfl rfl rfl (c_head15 ?_)
        | refine z00 ?_ | refine z01 ?_ | refine z02 ?_ | refine z04 ?_ | refine z05 ?_ | refine z08 ?_ | refine zp ?_ | refine z0g ?_ | refine z0h ?_ | refine z0j ?_ | refine z0k ?_
        | refine z0l ?_ | refine z0n ?_ | refine z0o ?_ | refine z0p ?_ | refine z0q ?_ | refine z0r ?_ | refine z0s ?_ | refine z0v ?_ | refine z0z ?_ | refine z12 ?_ | refine z14 ?_
        | refine z15 ?_ | refine z1e ?_ | refine z1f (hk := ?_) | refine z1i ?_ | refine z1j ?_ | refine z1k ?_ | refine z1l ?_ | refine z1m ?_ | refine z1n ?_
        | refine z1o (fun hp => ?_) (fun hp => ?_) | refine z1p (fun hp => ?_) (fun hp => ?_) | refine z1q (fun hp => ?_) (fun hp => ?_) | refine z1r ?_ | refine z1s ?_ | refine z1t ?_
        | refine z1u ?_ | refine z1v ?_ | refine z1w ?_ | refine z1x ?_ | refine z1y ?_ | refine z1z ?_ | refine z20 ?_ | refine z21 ?_ | refine z22 ?_ | refine z23 ?_ | refine z24 ?_
        | refine z25 ?_ | refine z26 ?_ | refine z27 ?_ | refine z28 (fun hp => ?_) (fun hp => ?_) | refine z29 (fun hp => ?_) (fun hp => ?_) | refine z2a ?_ | refine z2b ?_)
      exact fin_cln rfl hQ
    | false =>
      repeat' (first
        | refine wo_call rfl rfl rfl (c_Same14 (decide_eq_true rfl) hu1 hu2 (by omega) ?_)
        | refine wo_call rfl rfl rfl (c_Alike hal hv hw (by omega) ?_)
        | refine wo_call rfl rfl rfl (c_Alike15 hal hv hw (by omega) ?_)
        | refine wo_call rfl rfl rfl (c_head15 ?_)
        | refine z00 ?_ | refine z01 ?_ | refine z02 ?_ | refine z04 ?_ | refine z05 ?_ | refine z08 ?_ | refine zp ?_ | refine z0g ?_ | refine z0h ?_ | refine z0j ?_ | refine z0k ?_
        | refine z0l ?_ | refine z0n ?_ | refine z0o ?_ | refine z0p ?_ | refine z0q ?_ | refine z0r ?_ | refine z0s ?_ | refine z0v ?_ | refine z0z ?_ | refine z12 ?_ | refine z14 ?_
        | refine z15 ?_ | refine z1e ?_ | refine z1f (hk := ?_) | refine z1i ?_ | refine z1j ?_ | refine z1k ?_ | refine z1l ?_ | refine z1m ?_ | refine z1n ?_
        | refine z1o (fun hp => ?_) (fun hp => ?_) | refine z1p (fun hp => ?_) (fun hp => ?_) | refine z1q (fun hp => ?_) (fun hp => ?_) | refine z1r ?_ | refine z1s ?_ | refine z1t ?_
        | refine z1u ?_ | refine z1v ?_ | refine z1w ?_ | refine z1x ?_ | refine z1y ?_ | refine z1z ?_ | refine z20 ?_ | refine z21 ?_ | refine z22 ?_ | refine z23 ?_ | refine z24 ?_
        | refine z25 ?_ | refine z26 ?_ | refine z27 ?_ | refine z28 (fun hp => ?_) (fun hp => ?_) | refine z29 (fun hp => ?_) (fun hp => ?_) | refine z2a ?_ | refine z2b ?_)
      exact fin_cln rfl hQ

end
end Go.Proofs.Ytnekgoanadbmmaa
