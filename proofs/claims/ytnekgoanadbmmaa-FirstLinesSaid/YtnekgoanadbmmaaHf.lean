/-
The document's lines are the program's: ref14.Lines.
-/
import Derived.Test.YtnekgoanadbmmaaHe
namespace Go.Proofs.Ytnekgoanadbmmaa
open Go.Mini
set_option linter.unusedSimpArgs false
set_option linter.unusedVariables false
set_option maxHeartbeats 4000000

section
variable {m : Mem} {ls : List LRec} {Q : MV → Mem → List LRec → Prop}

theorem c_Lines14 {l : List Cell} {v : MV} {r rest : Room} (hv : Sl KCell l v) (hl : l.length ≤ 1000000) (hc : ∀ c ∈ l, c.ok) (hs : I64 r.start) (hs2 : I64 rest.start)
    (hQ : ∀ u, Sl KLine (linesF l r rest).1 u → Q (.tup [u, .int .i64 (linesF l r rest).2]) m ls) : Wc ip f_ref14_Lines [v, .agg r.mv, .agg rest.mv] m ls Q := by
  refine wc_fn1 rfl fn_ref14_Lines rfl (by simp [deepVs, hv.deep, deepV, Room.mv]) rfl ?_
  by_cases hw : rest.width < 0
  · have e : linesF l r rest = ([], 2) := by unfold linesF; rw [if_pos hw]
    rw [e] at hQ
    repeat' (first
      | refine z00 ?_ | refine z01 ?_ | refine z02 ?_ | refine z04 ?_ | refine z05 ?_ | refine z08 ?_ | refine zp ?_ | refine z0g ?_ | refine z0h ?_ | refine z0j ?_ | refine z0k ?_
      | refine z0l ?_ | refine z0n ?_ | refine z0o ?_ | refine z0p ?_ | refine z0q ?_ | refine z0r ?_ | refine z0s ?_ | refine z0v ?_ | refine z0z ?_ | refine z12 ?_ | refine z14 ?_
      | refine z15 ?_ | refine z1e ?_ | refine z1f (hk := ?_) | refine z1i ?_ | refine z1j ?_ | refine z1k ?_ | refine z1l ?_ | refine z1m ?_ | refine z1n ?_
      | refine z1o (fun hp => ?_) (fun hp => ?_) | refine z1p (fun hp => ?_) (fun hp => ?_) | refine z1q (fun hp => ?_) (fun hp => ?_) | refine z1r ?_ | refine z1s ?_ | refine z1t ?_
      | refine z1u ?_ | refine z1v ?_ | refine z1w ?_ | refine z1x ?_ | refine z1y ?_ | refine z1z ?_ | refine z20 ?_ | refine z21 ?_ | refine z22 ?_ | refine z23 ?_ | refine z24 ?_
      | refine z25 ?_ | refine z26 ?_ | refine z27 ?_ | refine z28 (fun hp => ?_) (fun hp => ?_) | refine z29 (fun hp => ?_) (fun hp => ?_) | refine z2a ?_ | refine z2b ?_)
    exact fin1_deep rfl (hQ _ .nil)
  · have e : linesF l r rest = linesG l r rest (l.length + 1 + 1) 0 := by unfold linesF; rw [if_neg hw]
    rw [e] at hQ
    clear e
    have key : ∀ (k to : Nat) (x : Line), x.to = to → to ≤ l.length → (moreB l x = true → l.length + 1 ≤ to + k) → ∀ (m : Mem) (u : MV) (done : List Line), m[0]? = some ⟨x.mv, 0, true⟩ → App KLine 1 done m u → done.length + k ≤ l.length + 2 → ∀ {R : Ex → As → Mem → List LRec → Prop},
        (moreB l x = true → (linesG l rest rest k to).2 ≠ 0 → ∀ m', R .ret [(6, .nils), (7, .int .i64 (linesG l rest rest k to).2)] m' []) →
        ((moreB l x = true → (linesG l rest rest k to).2 = 0) → ∀ m' u', App KLine 1 (done ++ (if moreB l x = true then (linesG l rest rest k to).1 else [])) m' u' → R (.exit 0) [(10, u')] m' []) →
        Wx ip i_ref14_Lines.nt (.loop (lv [0, 5, 8, 10] 53) ref14_Lines_b0) [(0, v), (5, .pimm rest.mv 0), (8, .ptr 0 0 0), (10, u)] m [] R := by
      intro k
      induction k with
      | zero =>
        intro to x hx ht hm m u done h0 hu hd R hE hO
        have hmf : moreB l x = false := by
          cases h : moreB l x with
          | false => rfl
          | true => have := hm h; omega
        have hmf2 := hmf
        unfold moreB at hmf2
        simp only [Bool.or_eq_false_iff, decide_eq_false_iff_not] at hmf2
        obtain ⟨g1, g2⟩ := hmf2
        have g1' : x.mv[2]? = some (.bool false) := by rw [← g1]; rfl
        refine wx_roundL rfl ?_
        repeat' (first
          | refine wx_exitL [10] ?_
          | refine wo_load (v := .bool false) rfl h0 rfl g1' rfl ?_
          | refine z00 ?_ | refine z01 ?_ | refine z02 ?_ | refine z04 ?_ | refine z05 ?_ | refine z08 ?_ | refine zp ?_ | refine z0g ?_ | refine z0h ?_ | refine z0j ?_ | refine z0k ?_
          | refine z0l ?_ | refine z0n ?_ | refine z0o ?_ | refine z0p ?_ | refine z0q ?_ | refine z0r ?_ | refine z0s ?_ | refine z0v ?_ | refine z0z ?_ | refine z12 ?_ | refine z14 ?_
          | refine z15 ?_ | refine z1e ?_ | refine z1f (hk := ?_) | refine z1i ?_ | refine z1j ?_ | refine z1k ?_ | refine z1l ?_ | refine z1m ?_ | refine z1n ?_
          | refine z1o (fun hp => ?_) (fun hp => ?_) | refine z1p (fun hp => ?_) (fun hp => ?_) | refine z1q (fun hp => ?_) (fun hp => ?_) | refine z1r ?_ | refine z1s ?_ | refine z1t ?_
          | refine z1u ?_ | refine z1v ?_ | refine z1w ?_ | refine z1x ?_ | refine z1y ?_ | refine z1z ?_ | refine z20 ?_ | refine z21 ?_ | refine z22 ?_ | refine z23 ?_ | refine z24 ?_
          | refine z25 ?_ | refine z26 ?_ | refine z27 ?_ | refine z28 (fun hp => ?_) (fun hp => ?_) | refine z29 (fun hp => ?_) (fun hp => ?_) | refine z2a ?_ | refine z2b ?_)
        exact hO (fun h => by rw [hmf] at h; cases h) _ _ (by simpa [hmf] using hu)
      | succ k ih =>
        intro to x hx ht hm m u done h0 hu hd R hE hO
        cases hmf : moreB l x with
        | false =>
          have hmf2 := hmf
          unfold moreB at hmf2
          simp only [Bool.or_eq_false_iff, decide_eq_false_iff_not] at hmf2
          obtain ⟨g1, g2⟩ := hmf2
          have g1' : x.mv[2]? = some (.bool false) := by rw [← g1]; rfl
          refine wx_roundL rfl ?_
          repeat' (first
            | refine wx_exitL [10] ?_
            | refine wo_load (v := .bool false) rfl h0 rfl g1' rfl ?_
            | refine z00 ?_ | refine z01 ?_ | refine z02 ?_ | refine z04 ?_ | refine z05 ?_ | refine z08 ?_ | refine zp ?_ | refine z0g ?_ | refine z0h ?_ | refine z0j ?_ | refine z0k ?_
            | refine z0l ?_ | refine z0n ?_ | refine z0o ?_ | refine z0p ?_ | refine z0q ?_ | refine z0r ?_ | refine z0s ?_ | refine z0v ?_ | refine z0z ?_ | refine z12 ?_ | refine z14 ?_
            | refine z15 ?_ | refine z1e ?_ | refine z1f (hk := ?_) | refine z1i ?_ | refine z1j ?_ | refine z1k ?_ | refine z1l ?_ | refine z1m ?_ | refine z1n ?_
            | refine z1o (fun hp => ?_) (fun hp => ?_) | refine z1p (fun hp => ?_) (fun hp => ?_) | refine z1q (fun hp => ?_) (fun hp => ?_) | refine z1r ?_ | refine z1s ?_ | refine z1t ?_
            | refine z1u ?_ | refine z1v ?_ | refine z1w ?_ | refine z1x ?_ | refine z1y ?_ | refine z1z ?_ | refine z20 ?_ | refine z21 ?_ | refine z22 ?_ | refine z23 ?_ | refine z24 ?_
            | refine z25 ?_ | refine z26 ?_ | refine z27 ?_ | refine z28 (fun hp => ?_) (fun hp => ?_) | refine z29 (fun hp => ?_) (fun hp => ?_) | refine z2a ?_ | refine z2b ?_)
          exact hO (fun h => by rw [hmf] at h; cases h) _ _ (by simpa [hmf] using hu)
        | true =>
          have hkk := hm hmf
          simp only [hmf, true_implies, if_true] at hE hO
          simp only [linesG] at hE hO
          generalize hone : oneF l to rest = p at hE hO
          obtain ⟨y, e⟩ := p
          simp only at hE hO
          have hx1 : x.mv[1]? = some (.int .i64 (to : Int)) := by rw [← hx]; rfl
          have hm0 := get_lt h0
          -- the line's test
          have test : ∀ {Q : As → Mem → List LRec → Prop} {A : As}, True := fun {_ _} => trivial
          refine wx_roundL rfl ?_
          have body : ∀ {nt : Nat} {R : Ex → As → Mem → List LRec → Prop}, True := fun {_ _} => trivial
          by_cases he : e ≠ 0
          · rw [if_pos he] at hE
            cases hfo : x.forced with
            | true =>
              have g1' : x.mv[2]? = some (.bool true) := by rw [← hfo]; rfl
              repeat' (first
                | refine wo_load (v := .bool true) rfl h0 rfl g1' rfl ?_
                | refine wo_load (v := .int .i64 (to : Int)) rfl h0 rfl hx1 rfl ?_
                | refine wo_call rfl rfl rfl (c_One14 hone hv hl hc hs2 ht ?_)
                | refine wx_ifDT rfl he ?_
                | refine wx_retL [6, 7] ?_
                | refine z00 ?_ | refine z01 ?_ | refine z02 ?_ | refine z04 ?_ | refine z05 ?_ | refine z08 ?_ | refine zp ?_ | refine z0g ?_ | refine z0h ?_ | refine z0j ?_ | refine z0k ?_
                | refine z0l ?_ | refine z0n ?_ | refine z0o ?_ | refine z0p ?_ | refine z0q ?_ | refine z0r ?_ | refine z0s ?_ | refine z0v ?_ | refine z0z ?_ | refine z12 ?_ | refine z14 ?_
                | refine z15 ?_ | refine z1e ?_ | refine z1f (hk := ?_) | refine z1i ?_ | refine z1j ?_ | refine z1k ?_ | refine z1l ?_ | refine z1m ?_ | refine z1n ?_
                | refine z1o (fun hp => ?_) (fun hp => ?_) | refine z1p (fun hp => ?_) (fun hp => ?_) | refine z1q (fun hp => ?_) (fun hp => ?_) | refine z1r ?_ | refine z1s ?_ | refine z1t ?_
                | refine z1u ?_ | refine z1v ?_ | refine z1w ?_ | refine z1x ?_ | refine z1y ?_ | refine z1z ?_ | refine z20 ?_ | refine z21 ?_ | refine z22 ?_ | refine z23 ?_ | refine z24 ?_
                | refine z25 ?_ | refine z26 ?_ | refine z27 ?_ | refine z28 (fun hp => ?_) (fun hp => ?_) | refine z29 (fun hp => ?_) (fun hp => ?_) | refine z2a ?_ | refine z2b ?_)
              exact hE he _
            | false =>
              have g1' : x.mv[2]? = some (.bool false) := by rw [← hfo]; rfl
              have htl : (to : Int) < l.length := by
                unfold moreB at hmf
                rw [hfo, hx] at hmf
                simpa using hmf
              repeat' (first
                | refine wo_load (v := .bool false) rfl h0 rfl g1' rfl ?_
                | refine wo_load (v := .int .i64 (to : Int)) rfl h0 rfl hx1 rfl ?_
                | refine wo_call rfl rfl rfl (c_One14 hone hv hl hc hs2 ht ?_)
                | refine wx_ifDT rfl he ?_
                | refine wx_retL [6, 7] ?_
                | refine z00 ?_ | refine z01 ?_ | refine z02 ?_ | refine z04 ?_ | refine z05 ?_ | refine z08 ?_ | refine zp ?_ | refine z0g ?_ | refine z0h ?_ | refine z0j ?_ | refine z0k ?_
                | refine z0l ?_ | refine z0n ?_ | refine z0o ?_ | refine z0p ?_ | refine z0q ?_ | refine z0r ?_ | refine z0s ?_ | refine z0v ?_ | refine z0z ?_ | refine z12 ?_ | refine z14 ?_
                | refine z15 ?_ | refine z1e ?_ | refine z1f (hk := ?_) | refine z1i ?_ | refine z1j ?_ | refine z1k ?_ | refine z1l ?_ | refine z1m ?_ | refine z1n ?_
                | refine z1o (fun hp => ?_) (fun hp => ?_) | refine z1p (fun hp => ?_) (fun hp => ?_) | refine z1q (fun hp => ?_) (fun hp => ?_) | refine z1r ?_ | refine z1s ?_ | refine z1t ?_
                | refine z1u ?_ | refine z1v ?_ | refine z1w ?_ | refine z1x ?_ | refine z1y ?_ | refine z1z ?_ | refine z20 ?_ | refine z21 ?_ | refine z22 ?_ | refine z23 ?_ | refine z24 ?_
                | refine z25 ?_ | refine z26 ?_ | refine z27 ?_ | refine z28 (fun hp => ?_) (fun hp => ?_) | refine z29 (fun hp => ?_) (fun hp => ?_) | refine z2a ?_ | refine z2b ?_)
              exact hE he _
          · have he0 : e = 0 := Decidable.byContradiction he
            subst he0
            rw [if_neg he] at hE hO
            have hok := oneF_ok (r := rest) ht (by rw [hone])
            rw [hone] at hok
            obtain ⟨hfr, to', hto, t1, t2, t3, t4⟩ := hok
            have hmore := more_lt (r := rest) ht (by rw [hone])
            rw [hone] at hmore
            simp only at hfr hto
            have hu2 := (hu.push ⟨y.mv, 0, true⟩).set (i := 0) (by omega) ⟨y.mv, 0, true⟩
            obtain ⟨v2, m2, a1, a2, a3, a4⟩ := App.app (bytes := 24) (x := .lit (flat KLine.E [y]) [y].length (some 1)) hu2 (by simp) (src_lit (K := KLine) (xs := [y])) rfl (by simp) (by simp only [List.length_cons, List.length_nil]; omega) rfl
            have g0 : m2[0]? = some ⟨y.mv, 0, true⟩ := by rw [a3 0 (by omega)]; exact get_set_self (get_app h0 _) _
            have nx := ih to' y hto t2 (fun h => by have := hmore h; omega) m2 v2 (done ++ [y]) g0 a2 (by rw [List.length_append]; simp only [List.length_cons, List.length_nil]; omega) (R := R) (fun h hne m' => by
                rw [if_pos h, hto, Int.toNat_natCast, if_pos hne] at hE
                exact hE hne m') (fun h m' u' hu' => by
                cases hmy : moreB l y with
                | false =>
                  simp only [hmy, Bool.false_eq_true, if_false] at hO hu'
                  exact hO trivial m' u' (by simpa using hu')
                | true =>
                  have hz := h hmy
                  simp only [hmy, if_true, hto, Int.toNat_natCast, hz, ne_eq, not_true, if_false] at hO hu'
                  exact hO trivial m' u' (by simpa using hu'))
            cases hfo : x.forced with
            | true =>
              have g1' : x.mv[2]? = some (.bool true) := by rw [← hfo]; rfl
              repeat' (first
                | refine wo_load (v := .bool true) rfl h0 rfl g1' rfl ?_
                | refine wo_load (v := .int .i64 (to : Int)) rfl h0 rfl hx1 rfl ?_
                | refine wo_call rfl rfl rfl (c_One14 hone hv hl hc hs2 ht ?_)
                | refine wo_app rfl rfl a1 rfl ?_
                | refine z00 ?_ | refine z01 ?_ | refine z02 ?_ | refine z04 ?_ | refine z05 ?_ | refine z08 ?_ | refine zp ?_ | refine z0g ?_ | refine z0h ?_ | refine z0j ?_ | refine z0k ?_
                | refine z0l ?_ | refine z0n ?_ | refine z0o ?_ | refine z0p ?_ | refine z0q ?_ | refine z0r ?_ | refine z0s ?_ | refine z0v ?_ | refine z0z ?_ | refine z12 ?_ | refine z14 ?_
                | refine z15 ?_ | refine z1e ?_ | refine z1f (hk := ?_) | refine z1i ?_ | refine z1j ?_ | refine z1k ?_ | refine z1l ?_ | refine z1m ?_ | refine z1n ?_
                | refine z1o (fun hp => ?_) (fun hp => ?_) | refine z1p (fun hp => ?_) (fun hp => ?_) | refine z1q (fun hp => ?_) (fun hp => ?_) | refine z1r ?_ | refine z1s ?_ | refine z1t ?_
                | refine z1u ?_ | refine z1v ?_ | refine z1w ?_ | refine z1x ?_ | refine z1y ?_ | refine z1z ?_ | refine z20 ?_ | refine z21 ?_ | refine z22 ?_ | refine z23 ?_ | refine z24 ?_
                | refine z25 ?_ | refine z26 ?_ | refine z27 ?_ | refine z28 (fun hp => ?_) (fun hp => ?_) | refine z29 (fun hp => ?_) (fun hp => ?_) | refine z2a ?_ | refine z2b ?_)
              exact wx_loopL nx
            | false =>
              have g1' : x.mv[2]? = some (.bool false) := by rw [← hfo]; rfl
              have htl : (to : Int) < l.length := by
                unfold moreB at hmf
                rw [hfo, hx] at hmf
                simpa using hmf
              repeat' (first
                | refine wo_load (v := .bool false) rfl h0 rfl g1' rfl ?_
                | refine wo_load (v := .int .i64 (to : Int)) rfl h0 rfl hx1 rfl ?_
                | refine wo_call rfl rfl rfl (c_One14 hone hv hl hc hs2 ht ?_)
                | refine wo_app rfl rfl a1 rfl ?_
                | refine z00 ?_ | refine z01 ?_ | refine z02 ?_ | refine z04 ?_ | refine z05 ?_ | refine z08 ?_ | refine zp ?_ | refine z0g ?_ | refine z0h ?_ | refine z0j ?_ | refine z0k ?_
                | refine z0l ?_ | refine z0n ?_ | refine z0o ?_ | refine z0p ?_ | refine z0q ?_ | refine z0r ?_ | refine z0s ?_ | refine z0v ?_ | refine z0z ?_ | refine z12 ?_ | refine z14 ?_
                | refine z15 ?_ | refine z1e ?_ | refine z1f (hk := ?_) | refine z1i ?_ | refine z1j ?_ | refine z1k ?_ | refine z1l ?_ | refine z1m ?_ | refine z1n ?_
                | refine z1o (fun hp => ?_) (fun hp => ?_) | refine z1p (fun hp => ?_) (fun hp => ?_) | refine z1q (fun hp => ?_) (fun hp => ?_) | refine z1r ?_ | refine z1s ?_ | refine z1t ?_
                | refine z1u ?_ | refine z1v ?_ | refine z1w ?_ | refine z1x ?_ | refine z1y ?_ | refine z1z ?_ | refine z20 ?_ | refine z21 ?_ | refine z22 ?_ | refine z23 ?_ | refine z24 ?_
                | refine z25 ?_ | refine z26 ?_ | refine z27 ?_ | refine z28 (fun hp => ?_) (fun hp => ?_) | refine z29 (fun hp => ?_) (fun hp => ?_) | refine z2a ?_ | refine z2b ?_)
              exact wx_loopL nx
    obtain ⟨K, hK⟩ : ∃ K, K = l.length + 1 := ⟨_, rfl⟩
    rw [← hK] at hQ
    simp only [linesG] at hQ
    generalize hone : oneF l 0 r = p at hQ
    obtain ⟨y, e⟩ := p
    simp only at hQ
    by_cases he : e ≠ 0
    · rw [if_pos he] at hQ
      repeat' (first
        | refine wo_call rfl rfl rfl (c_One14 (i := 0) hone hv hl hc hs (by omega) ?_)
        | refine wx_ifDT rfl he ?_
        | refine z00 ?_ | refine z01 ?_ | refine z02 ?_ | refine z04 ?_ | refine z05 ?_ | refine z08 ?_ | refine zp ?_ | refine z0g ?_ | refine z0h ?_ | refine z0j ?_ | refine z0k ?_
        | refine z0l ?_ | refine z0n ?_ | refine z0o ?_ | refine z0p ?_ | refine z0q ?_ | refine z0r ?_ | refine z0s ?_ | refine z0v ?_ | refine z0z ?_ | refine z12 ?_ | refine z14 ?_
        | refine z15 ?_ | refine z1e ?_ | refine z1f (hk := ?_) | refine z1i ?_ | refine z1j ?_ | refine z1k ?_ | refine z1l ?_ | refine z1m ?_ | refine z1n ?_
        | refine z1o (fun hp => ?_) (fun hp => ?_) | refine z1p (fun hp => ?_) (fun hp => ?_) | refine z1q (fun hp => ?_) (fun hp => ?_) | refine z1r ?_ | refine z1s ?_ | refine z1t ?_
        | refine z1u ?_ | refine z1v ?_ | refine z1w ?_ | refine z1x ?_ | refine z1y ?_ | refine z1z ?_ | refine z20 ?_ | refine z21 ?_ | refine z22 ?_ | refine z23 ?_ | refine z24 ?_
        | refine z25 ?_ | refine z26 ?_ | refine z27 ?_ | refine z28 (fun hp => ?_) (fun hp => ?_) | refine z29 (fun hp => ?_) (fun hp => ?_) | refine z2a ?_ | refine z2b ?_)
      exact fin1_deep rfl (hQ _ .nil)
    · have he0 : e = 0 := Decidable.byContradiction he
      subst he0
      rw [if_neg he] at hQ
      have hok := oneF_ok (l := l) (i := 0) (r := r) (by omega) (by rw [hone])
      rw [hone] at hok
      obtain ⟨hfr, to', hto, t1, t2, t3, t4⟩ := hok
      simp only at hto
      repeat' (first
        | refine wo_call rfl rfl rfl (c_One14 (i := 0) hone hv hl hc hs (by omega) ?_)
        | refine z00 ?_ | refine z01 ?_ | refine z02 ?_ | refine z04 ?_ | refine z05 ?_ | refine z08 ?_ | refine zp ?_ | refine z0g ?_ | refine z0h ?_ | refine z0j ?_ | refine z0k ?_
        | refine z0l ?_ | refine z0n ?_ | refine z0o ?_ | refine z0p ?_ | refine z0q ?_ | refine z0r ?_ | refine z0s ?_ | refine z0v ?_ | refine z0z ?_ | refine z12 ?_ | refine z14 ?_
        | refine z15 ?_ | refine z1e ?_ | refine z1f (hk := ?_) | refine z1i ?_ | refine z1j ?_ | refine z1k ?_ | refine z1l ?_ | refine z1m ?_ | refine z1n ?_
        | refine z1o (fun hp => ?_) (fun hp => ?_) | refine z1p (fun hp => ?_) (fun hp => ?_) | refine z1q (fun hp => ?_) (fun hp => ?_) | refine z1r ?_ | refine z1s ?_ | refine z1t ?_
        | refine z1u ?_ | refine z1v ?_ | refine z1w ?_ | refine z1x ?_ | refine z1y ?_ | refine z1z ?_ | refine z20 ?_ | refine z21 ?_ | refine z22 ?_ | refine z23 ?_ | refine z24 ?_
        | refine z25 ?_ | refine z26 ?_ | refine z27 ?_ | refine z28 (fun hp => ?_) (fun hp => ?_) | refine z29 (fun hp => ?_) (fun hp => ?_) | refine z2a ?_ | refine z2b ?_)
      refine wx_loopL ?_
      refine key K to' y hto t2 (fun _ => by omega) _ _ [y] rfl (.inr (.inl rfl)) (by simp only [List.length_cons, List.length_nil]; omega) ?_ ?_
      · intro hmy hne m'
        rw [if_pos hmy, hto, Int.toNat_natCast, if_pos hne] at hQ
        repeat' (first | refine then_r ?_ | refine block_r ?_)
        refine end_r rfl ?_
        exact fin1_deep rfl (hQ _ .nil)
      · intro h m' u' hu'
        repeat' (first
          | refine z00 ?_ | refine z01 ?_ | refine z02 ?_ | refine z04 ?_ | refine z05 ?_ | refine z08 ?_ | refine zp ?_ | refine z0g ?_ | refine z0h ?_ | refine z0j ?_ | refine z0k ?_
          | refine z0l ?_ | refine z0n ?_ | refine z0o ?_ | refine z0p ?_ | refine z0q ?_ | refine z0r ?_ | refine z0s ?_ | refine z0v ?_ | refine z0z ?_ | refine z12 ?_ | refine z14 ?_
          | refine z15 ?_ | refine z1e ?_ | refine z1f (hk := ?_) | refine z1i ?_ | refine z1j ?_ | refine z1k ?_ | refine z1l ?_ | refine z1m ?_ | refine z1n ?_
          | refine z1o (fun hp => ?_) (fun hp => ?_) | refine z1p (fun hp => ?_) (fun hp => ?_) | refine z1q (fun hp => ?_) (fun hp => ?_) | refine z1r ?_ | refine z1s ?_ | refine z1t ?_
          | refine z1u ?_ | refine z1v ?_ | refine z1w ?_ | refine z1x ?_ | refine z1y ?_ | refine z1z ?_ | refine z20 ?_ | refine z21 ?_ | refine z22 ?_ | refine z23 ?_ | refine z24 ?_
          | refine z25 ?_ | refine z26 ?_ | refine z27 ?_ | refine z28 (fun hp => ?_) (fun hp => ?_) | refine z29 (fun hp => ?_) (fun hp => ?_) | refine z2a ?_ | refine z2b ?_)
        cases hmy : moreB l y with
        | false =>
          simp only [hmy, Bool.false_eq_true, if_false] at hQ hu'
          exact hu'.fin1 rfl (fun w hw => hQ w (by simpa using hw))
        | true =>
          have hz := h hmy
          simp only [hmy, if_true, hto, Int.toNat_natCast, hz, ne_eq, not_true, if_false] at hQ hu'
          exact hu'.fin1 rfl (fun w hw => hQ w (by simpa using hw))

end
end Go.Proofs.Ytnekgoanadbmmaa
