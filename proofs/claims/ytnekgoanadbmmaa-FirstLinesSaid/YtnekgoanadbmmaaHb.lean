/-
The document's pens and roles: ref12.Pens, ref12.End, ref13.
-/
import Derived.Test.YtnekgoanadbmmaaHa
import Derived.Test.YtnekgoanadbmmaaFa
namespace Go.Proofs.Ytnekgoanadbmmaa
open Go.Mini
set_option linter.unusedSimpArgs false
set_option linter.unusedVariables false
set_option maxHeartbeats 4000000

section
variable {m : Mem} {ls : List LRec} {Q : MV → Mem → List LRec → Prop}

def badP (p : Int × Int) : Bool := decide (p.2 ≠ 0)

theorem tab_loop12 {l : List Cell} {v w : MV} {x : Int} (hv : Sl KCell l v) (hl : l.length ≤ 1000000) {R : Ex → As → Mem → List LRec → Prop} (h1 : l.any badTab = true → R .ret [(6, .nils), (7, .int .i64 2)] [] []) (h2 : l.any badTab = false → R (.exit 0) [(0, v), (1, w), (2, .int .i64 x)] [] []) :
    ∀ (k i : Nat), i + k = l.length → (l.take i).any badTab = false → Wx ip i_ref12_Pens.nt (.loop (lv [0, 1, 2, 8] 77) ref12_Pens_b0) [(0, v), (1, w), (2, .int .i64 x), (8, .int .i64 i)] [] [] R := by
  intro k
  induction k with
  | zero =>
    intro i hk hb
    refine wx_roundL rfl ?_
    repeat' (first
      | refine wx_exitL [0, 1, 2] ?_
      | refine z00 ?_ | refine z01 ?_ | refine z02 ?_ | refine z04 ?_ | refine z05 ?_ | refine z08 ?_ | refine zp ?_ | refine z0g ?_ | refine z0h ?_ | refine z0j ?_ | refine z0k ?_
      | refine z0l ?_ | refine z0n ?_ | refine z0o ?_ | refine z0p ?_ | refine z0q ?_ | refine z0r ?_ | refine z0s ?_ | refine z0v ?_ | refine z0z ?_ | refine z12 ?_ | refine z14 ?_
      | refine z15 ?_ | refine z1e ?_ | refine z1f (hk := ?_) | refine z1i ?_ | refine z1j ?_ | refine z1k ?_ | refine z1l ?_ | refine z1m ?_ | refine z1n ?_
      | refine z1o (fun hp => ?_) (fun hp => ?_) | refine z1p (fun hp => ?_) (fun hp => ?_) | refine z1q (fun hp => ?_) (fun hp => ?_) | refine z1r ?_ | refine z1s ?_ | refine z1t ?_
      | refine z1u ?_ | refine z1v ?_ | refine z1w ?_ | refine z1x ?_ | refine z1y ?_ | refine z1z ?_ | refine z20 ?_ | refine z21 ?_ | refine z22 ?_ | refine z23 ?_ | refine z24 ?_
      | refine z25 ?_ | refine z26 ?_ | refine z27 ?_ | refine z28 (fun hp => ?_) (fun hp => ?_) | refine z29 (fun hp => ?_) (fun hp => ?_) | refine z2a ?_ | refine z2b ?_)
    exact h2 (by rw [List.take_of_length_le (by omega)] at hb; exact hb)
  | succ k ih =>
    intro i hk hb
    have hlt : i < l.length := by omega
    have hany : (l.take (i + 1)).any badTab = badTab l[i] := by
      rw [List.take_succ_eq_append_getElem hlt, List.any_append, hb]; simp
    refine wx_roundL rfl ?_
    by_cases hbt : l[i].kind = 4 ∧ l[i].adv < 0
    · have hall : l.any badTab = true := by
        rw [List.any_eq_true]
        exact ⟨l[i], List.getElem_mem hlt, by simp [badTab, hbt]⟩
      have ha := hbt.1
      have hb2 := hbt.2
      repeat' (first
        | refine wx_retL [6, 7] ?_
        | refine wo_guardDT rfl ha rfl ?_
        | refine wx_ifDT rfl hb2 ?_
        | refine z00 ?_ | refine z01 ?_ | refine z02 ?_ | refine z04 ?_ | refine z05 ?_ | refine z08 ?_ | refine zp ?_ | refine z0g ?_ | refine z0h ?_ | refine z0j ?_ | refine z0k ?_
        | refine z0l ?_ | refine z0n ?_ | refine z0o ?_ | refine z0p ?_ | refine z0q ?_ | refine z0r ?_ | refine z0s ?_ | refine z0v ?_ | refine z0z ?_ | refine z12 ?_ | refine z14 ?_
        | refine z15 ?_ | refine z1e ?_ | refine z1f (hk := ?_) | refine z1i ?_ | refine z1j ?_ | refine z1k ?_ | refine z1l ?_ | refine z1m ?_ | refine z1n ?_
        | refine z1o (fun hp => ?_) (fun hp => ?_) | refine z1p (fun hp => ?_) (fun hp => ?_) | refine z1q (fun hp => ?_) (fun hp => ?_) | refine z1r ?_ | refine z1s ?_ | refine z1t ?_
        | refine z1u ?_ | refine z1v ?_ | refine z1w ?_ | refine z1x ?_ | refine z1y ?_ | refine z1z ?_ | refine z20 ?_ | refine z21 ?_ | refine z22 ?_ | refine z23 ?_ | refine z24 ?_
        | refine z25 ?_ | refine z26 ?_ | refine z27 ?_ | refine z28 (fun hp => ?_) (fun hp => ?_) | refine z29 (fun hp => ?_) (fun hp => ?_) | refine z2a ?_ | refine z2b ?_)
      exact h1 hall
    · have hbf : badTab l[i] = false := by simp only [badTab, decide_eq_false_iff_not]; exact hbt
      by_cases ha : l[i].kind = 4
      · have hb2 : ¬ l[i].adv < 0 := fun c => hbt ⟨ha, c⟩
        repeat' (first
          | refine wo_guardDT rfl ha rfl ?_
          | refine wx_ifDF rfl hb2 ?_
          | refine z00 ?_ | refine z01 ?_ | refine z02 ?_ | refine z04 ?_ | refine z05 ?_ | refine z08 ?_ | refine zp ?_ | refine z0g ?_ | refine z0h ?_ | refine z0j ?_ | refine z0k ?_
          | refine z0l ?_ | refine z0n ?_ | refine z0o ?_ | refine z0p ?_ | refine z0q ?_ | refine z0r ?_ | refine z0s ?_ | refine z0v ?_ | refine z0z ?_ | refine z12 ?_ | refine z14 ?_
          | refine z15 ?_ | refine z1e ?_ | refine z1f (hk := ?_) | refine z1i ?_ | refine z1j ?_ | refine z1k ?_ | refine z1l ?_ | refine z1m ?_ | refine z1n ?_
          | refine z1o (fun hp => ?_) (fun hp => ?_) | refine z1p (fun hp => ?_) (fun hp => ?_) | refine z1q (fun hp => ?_) (fun hp => ?_) | refine z1r ?_ | refine z1s ?_ | refine z1t ?_
          | refine z1u ?_ | refine z1v ?_ | refine z1w ?_ | refine z1x ?_ | refine z1y ?_ | refine z1z ?_ | refine z20 ?_ | refine z21 ?_ | refine z22 ?_ | refine z23 ?_ | refine z24 ?_
          | refine z25 ?_ | refine z26 ?_ | refine z27 ?_ | refine z28 (fun hp => ?_) (fun hp => ?_) | refine z29 (fun hp => ?_) (fun hp => ?_) | refine z2a ?_ | refine z2b ?_)
        exact wx_loopL (ih (i + 1) (by omega) (by rw [hany, hbf]))
      · repeat' (first
          | refine wo_guardDF rfl ha rfl ?_
          | refine z00 ?_ | refine z01 ?_ | refine z02 ?_ | refine z04 ?_ | refine z05 ?_ | refine z08 ?_ | refine zp ?_ | refine z0g ?_ | refine z0h ?_ | refine z0j ?_ | refine z0k ?_
          | refine z0l ?_ | refine z0n ?_ | refine z0o ?_ | refine z0p ?_ | refine z0q ?_ | refine z0r ?_ | refine z0s ?_ | refine z0v ?_ | refine z0z ?_ | refine z12 ?_ | refine z14 ?_
          | refine z15 ?_ | refine z1e ?_ | refine z1f (hk := ?_) | refine z1i ?_ | refine z1j ?_ | refine z1k ?_ | refine z1l ?_ | refine z1m ?_ | refine z1n ?_
          | refine z1o (fun hp => ?_) (fun hp => ?_) | refine z1p (fun hp => ?_) (fun hp => ?_) | refine z1q (fun hp => ?_) (fun hp => ?_) | refine z1r ?_ | refine z1s ?_ | refine z1t ?_
          | refine z1u ?_ | refine z1v ?_ | refine z1w ?_ | refine z1x ?_ | refine z1y ?_ | refine z1z ?_ | refine z20 ?_ | refine z21 ?_ | refine z22 ?_ | refine z23 ?_ | refine z24 ?_
          | refine z25 ?_ | refine z26 ?_ | refine z27 ?_ | refine z28 (fun hp => ?_) (fun hp => ?_) | refine z29 (fun hp => ?_) (fun hp => ?_) | refine z2a ?_ | refine z2b ?_)
        exact wx_loopL (ih (i + 1) (by omega) (by rw [hany, hbf]))

theorem c_pens12 {l : List Cell} {roles : List Int} {v w : MV} {x : Int} (hv : Sl KCell l v) (hw : Sl KU8 roles w) (hl : l.length ≤ 1000000) (hl2 : roles.length ≤ 1000000) (hc : ∀ c ∈ l, c.ok) (hx : I64 x)
    (hQ : ∀ u, Sl KI64 (pensL l roles x).1 u → Q (.tup [u, .int .i64 (pensL l roles x).2]) m ls) : Wc ip f_ref12_Pens [v, w, .int .i64 x] m ls Q := by
  refine wc_fn1 rfl fn_ref12_Pens rfl (by simp [deepVs, hv.deep, hw.deep, deepV]) rfl ?_
  repeat' (first
    | refine z00 ?_ | refine z01 ?_ | refine z02 ?_ | refine z04 ?_ | refine z05 ?_ | refine z08 ?_ | refine zp ?_ | refine z0g ?_ | refine z0h ?_ | refine z0j ?_ | refine z0k ?_
    | refine z0l ?_ | refine z0n ?_ | refine z0o ?_ | refine z0p ?_ | refine z0q ?_ | refine z0r ?_ | refine z0s ?_ | refine z0v ?_ | refine z0z ?_ | refine z12 ?_ | refine z14 ?_
    | refine z15 ?_ | refine z1e ?_ | refine z1f (hk := ?_) | refine z1i ?_ | refine z1j ?_ | refine z1k ?_ | refine z1l ?_ | refine z1m ?_ | refine z1n ?_
    | refine z1o (fun hp => ?_) (fun hp => ?_) | refine z1p (fun hp => ?_) (fun hp => ?_) | refine z1q (fun hp => ?_) (fun hp => ?_) | refine z1r ?_ | refine z1s ?_ | refine z1t ?_
    | refine z1u ?_ | refine z1v ?_ | refine z1w ?_ | refine z1x ?_ | refine z1y ?_ | refine z1z ?_ | refine z20 ?_ | refine z21 ?_ | refine z22 ?_ | refine z23 ?_ | refine z24 ?_
    | refine z25 ?_ | refine z26 ?_ | refine z27 ?_ | refine z28 (fun hp => ?_) (fun hp => ?_) | refine z29 (fun hp => ?_) (fun hp => ?_) | refine z2a ?_ | refine z2b ?_)
  refine wx_loopL ?_
  refine tab_loop12 hv hl ?_ ?_ l.length 0 (by omega) rfl
  · intro hb
    have e : pensL l roles x = ([], 2) := by unfold pensL; rw [if_pos hb]
    rw [e] at hQ
    repeat' (first | refine then_r ?_ | refine block_r ?_)
    refine end_r rfl ?_
    exact fin1_deep rfl (hQ _ .nil)
  · intro hb
    cases hf : fitB x with
    | false =>
      have e : pensL l roles x = ([], 10) := by
        unfold pensL
        rw [if_neg (by simp [hb]), fits_b, hf, if_neg (show ¬ false = true by simp), if_pos (by simp)]
      rw [e] at hQ
      repeat' (first
        | refine wo_call rfl rfl rfl (c_fits12 hf ?_)
        | refine z00 ?_ | refine z01 ?_ | refine z02 ?_ | refine z04 ?_ | refine z05 ?_ | refine z08 ?_ | refine zp ?_ | refine z0g ?_ | refine z0h ?_ | refine z0j ?_ | refine z0k ?_
        | refine z0l ?_ | refine z0n ?_ | refine z0o ?_ | refine z0p ?_ | refine z0q ?_ | refine z0r ?_ | refine z0s ?_ | refine z0v ?_ | refine z0z ?_ | refine z12 ?_ | refine z14 ?_
        | refine z15 ?_ | refine z1e ?_ | refine z1f (hk := ?_) | refine z1i ?_ | refine z1j ?_ | refine z1k ?_ | refine z1l ?_ | refine z1m ?_ | refine z1n ?_
        | refine z1o (fun hp => ?_) (fun hp => ?_) | refine z1p (fun hp => ?_) (fun hp => ?_) | refine z1q (fun hp => ?_) (fun hp => ?_) | refine z1r ?_ | refine z1s ?_ | refine z1t ?_
        | refine z1u ?_ | refine z1v ?_ | refine z1w ?_ | refine z1x ?_ | refine z1y ?_ | refine z1z ?_ | refine z20 ?_ | refine z21 ?_ | refine z22 ?_ | refine z23 ?_ | refine z24 ?_
        | refine z25 ?_ | refine z26 ?_ | refine z27 ?_ | refine z28 (fun hp => ?_) (fun hp => ?_) | refine z29 (fun hp => ?_) (fun hp => ?_) | refine z2a ?_ | refine z2b ?_)
      exact fin1_deep rfl (hQ _ .nil)
    | true =>
      have e : pensL l roles x = match (pensF roles 0 l x).find? badP with | some p => ([], p.2) | none => (x :: (pensF roles 0 l x).map (·.1), 0) := by
        unfold pensL
        rw [if_neg (by simp [hb]), fits_b, hf, if_pos (show true = true from rfl), if_neg (by simp)]
        rfl
      rw [e] at hQ
      clear e
      have key : ∀ (k i : Nat), i + k = l.length → ∀ (a : Int) (m : Mem) (u : MV) (done : List Int), App KI64 0 done m u → done.length = i + 1 → I64 a → ∀ {R : Ex → As → Mem → List LRec → Prop},
          (∀ p, (pensF roles i (l.drop i) a).find? badP = some p → ∀ m', R .ret [(6, .nils), (7, .int .i64 p.2)] m' []) →
          ((pensF roles i (l.drop i) a).find? badP = none → ∀ m' u', App KI64 0 (done ++ (pensF roles i (l.drop i) a).map (·.1)) m' u' → R (.exit 2) [(9, u')] m' []) →
          Wx ip i_ref12_Pens.nt (.loop (lv [0, 1, 2, 9, 10] 77) ref12_Pens_b1) [(0, v), (1, w), (2, .int .i64 a), (9, u), (10, .int .i64 i)] m [] R := by
        intro k
        induction k with
        | zero =>
          intro i hk a m u done hu hd ha R hE hO
          rw [List.drop_eq_nil_of_le (by omega)] at hO
          refine wx_roundL rfl ?_
          repeat' (first
            | refine wx_exitL [9] ?_
            | refine z00 ?_ | refine z01 ?_ | refine z02 ?_ | refine z04 ?_ | refine z05 ?_ | refine z08 ?_ | refine zp ?_ | refine z0g ?_ | refine z0h ?_ | refine z0j ?_ | refine z0k ?_
            | refine z0l ?_ | refine z0n ?_ | refine z0o ?_ | refine z0p ?_ | refine z0q ?_ | refine z0r ?_ | refine z0s ?_ | refine z0v ?_ | refine z0z ?_ | refine z12 ?_ | refine z14 ?_
            | refine z15 ?_ | refine z1e ?_ | refine z1f (hk := ?_) | refine z1i ?_ | refine z1j ?_ | refine z1k ?_ | refine z1l ?_ | refine z1m ?_ | refine z1n ?_
            | refine z1o (fun hp => ?_) (fun hp => ?_) | refine z1p (fun hp => ?_) (fun hp => ?_) | refine z1q (fun hp => ?_) (fun hp => ?_) | refine z1r ?_ | refine z1s ?_ | refine z1t ?_
            | refine z1u ?_ | refine z1v ?_ | refine z1w ?_ | refine z1x ?_ | refine z1y ?_ | refine z1z ?_ | refine z20 ?_ | refine z21 ?_ | refine z22 ?_ | refine z23 ?_ | refine z24 ?_
            | refine z25 ?_ | refine z26 ?_ | refine z27 ?_ | refine z28 (fun hp => ?_) (fun hp => ?_) | refine z29 (fun hp => ?_) (fun hp => ?_) | refine z2a ?_ | refine z2b ?_)
          exact hO rfl _ _ (by simpa [pensF] using hu)
        | succ k ih =>
          intro i hk a m u done hu hd ha R hE hO
          have hlt : i < l.length := by omega
          have hci := hc _ (List.getElem_mem hlt)
          rw [List.drop_eq_getElem_cons hlt] at hE hO
          simp only [pensF] at hE hO
          have hpI := pen_I64 (c := l[i]) (r := roles.getD i 0) ha
          -- the next round, with a pen
          have nx : ∀ (y : Int), penF l[i] (roles.getD i 0) a = (y, 0) → ∀ m2 v2, App KI64 0 (done ++ [y]) m2 v2 → Wx ip i_ref12_Pens.nt (.loop (lv [0, 1, 2, 9, 10] 77) ref12_Pens_b1) [(0, v), (1, w), (2, .int .i64 y), (9, v2), (10, .int .i64 ((i : Int) + 1))] m2 [] R := by
            intro y hy m2 v2 h2
            rw [hy] at hE hO hpI
            have hbf : badP (y, 0) = false := by simp [badP]
            simp only [List.find?_cons, hbf, ne_eq, not_true, if_false] at hE hO
            refine ih (i + 1) (by omega) y m2 v2 (done ++ [y]) h2 (by simp; omega) hpI hE ?_
            intro h m' u' hu'
            exact hO h m' u' (by simpa using hu')
          have ap : ∀ y : Int, ∃ v2 m2, appM m 1 8 u (.lit [.int .i64 y] 1 (some 1)) = some (v2, m2) ∧ App KI64 0 (done ++ [y]) m2 v2 := fun y => by
            obtain ⟨v2, m2, a1, a2, _, _⟩ := App.app (bytes := 8) (x := .lit (flat KI64.E [y]) [y].length (some 1)) hu (by omega) (src_lit (K := KI64) (xs := [y])) rfl (by simp) (by simp; omega) rfl
            exact ⟨v2, m2, a1, a2⟩
          refine wx_roundL rfl ?_
          by_cases hr : roles.getD i 0 = 1
          · have hri : i < roles.length := by
              refine Decidable.byContradiction fun hn => ?_
              rw [getD_ge (by omega)] at hr
              simp at hr
            have hr1 : roles[i] = 1 := by rw [getD_lt hri] at hr; exact hr
            obtain ⟨v2, m2, a1, a2⟩ := ap a
            repeat' (first
              | refine wx_ifDT rfl hr1 ?_
              | refine wo_app rfl rfl a1 rfl ?_
              | refine z00 ?_ | refine z01 ?_ | refine z02 ?_ | refine z04 ?_ | refine z05 ?_ | refine z08 ?_ | refine zp ?_ | refine z0g ?_ | refine z0h ?_ | refine z0j ?_ | refine z0k ?_
              | refine z0l ?_ | refine z0n ?_ | refine z0o ?_ | refine z0p ?_ | refine z0q ?_ | refine z0r ?_ | refine z0s ?_ | refine z0v ?_ | refine z0z ?_ | refine z12 ?_ | refine z14 ?_
              | refine z15 ?_ | refine z1e ?_ | refine z1f (hk := ?_) | refine z1i ?_ | refine z1j ?_ | refine z1k ?_ | refine z1l ?_ | refine z1m ?_ | refine z1n ?_
              | refine z1o (fun hp => ?_) (fun hp => ?_) | refine z1p (fun hp => ?_) (fun hp => ?_) | refine z1q (fun hp => ?_) (fun hp => ?_) | refine z1r ?_ | refine z1s ?_ | refine z1t ?_
              | refine z1u ?_ | refine z1v ?_ | refine z1w ?_ | refine z1x ?_ | refine z1y ?_ | refine z1z ?_ | refine z20 ?_ | refine z21 ?_ | refine z22 ?_ | refine z23 ?_ | refine z24 ?_
              | refine z25 ?_ | refine z26 ?_ | refine z27 ?_ | refine z28 (fun hp => ?_) (fun hp => ?_) | refine z29 (fun hp => ?_) (fun hp => ?_) | refine z2a ?_ | refine z2b ?_)
            refine wx_loopL ?_
            exact nx a (by unfold penF; rw [if_neg (fun c => c hr)]) _ _ a2
          · have hpe : penF l[i] (roles.getD i 0) a = stepF l[i] a := by unfold penF; rw [if_pos hr]
            rw [hpe] at hE hO hpI nx
            generalize hst : stepF l[i] a = st at hE hO hpI nx
            obtain ⟨y, e⟩ := st
            have fin : ∀ {m' : Mem}, e ≠ 0 → R .ret [(6, .nils), (7, .int .i64 e)] m' [] := fun {m'} he => hE (y, e) (by simp [List.find?_cons, badP, he]) m'
            have hnr : i < roles.length → ¬ roles[i]? = some 1 := fun h e => hr (by rw [getD_lt h]; rw [List.getElem?_eq_getElem h] at e; exact Option.some.inj e)
            by_cases hri : i < roles.length
            · have hr1 : ¬ roles[i] = 1 := by rw [getD_lt hri] at hr; exact hr
              by_cases he : e ≠ 0
              · repeat' (first
                  | refine wx_ifDF rfl hr1 ?_
                  | refine wo_call rfl rfl rfl (c_step12 hst ha hci ?_)
                  | refine wx_ifDT rfl he ?_
                  | refine wx_retL [6, 7] ?_
                  | refine z00 ?_ | refine z01 ?_ | refine z02 ?_ | refine z04 ?_ | refine z05 ?_ | refine z08 ?_ | refine zp ?_ | refine z0g ?_ | refine z0h ?_ | refine z0j ?_ | refine z0k ?_
                  | refine z0l ?_ | refine z0n ?_ | refine z0o ?_ | refine z0p ?_ | refine z0q ?_ | refine z0r ?_ | refine z0s ?_ | refine z0v ?_ | refine z0z ?_ | refine z12 ?_
                  | refine z14 ?_ | refine z15 ?_ | refine z1e ?_ | refine z1f (hk := ?_) | refine z1i ?_ | refine z1j ?_ | refine z1k ?_ | refine z1l ?_ | refine z1m ?_ | refine z1n ?_
                  | refine z1o (fun hp => ?_) (fun hp => ?_) | refine z1p (fun hp => ?_) (fun hp => ?_) | refine z1q (fun hp => ?_) (fun hp => ?_) | refine z1r ?_ | refine z1s ?_
                  | refine z1t ?_ | refine z1u ?_ | refine z1v ?_ | refine z1w ?_ | refine z1x ?_ | refine z1y ?_ | refine z1z ?_ | refine z20 ?_ | refine z21 ?_ | refine z22 ?_
                  | refine z23 ?_ | refine z24 ?_ | refine z25 ?_ | refine z26 ?_ | refine z27 ?_ | refine z28 (fun hp => ?_) (fun hp => ?_) | refine z29 (fun hp => ?_) (fun hp => ?_)
                  | refine z2a ?_ | refine z2b ?_)
                exact fin he
              · have he0 : e = 0 := Decidable.byContradiction he
                subst he0
                obtain ⟨v2, m2, a1, a2⟩ := ap y
                repeat' (first
                  | refine wx_ifDF rfl hr1 ?_
                  | refine wo_call rfl rfl rfl (c_step12 hst ha hci ?_)
                  | refine wo_app rfl rfl a1 rfl ?_
                  | refine z00 ?_ | refine z01 ?_ | refine z02 ?_ | refine z04 ?_ | refine z05 ?_ | refine z08 ?_ | refine zp ?_ | refine z0g ?_ | refine z0h ?_ | refine z0j ?_ | refine z0k ?_
                  | refine z0l ?_ | refine z0n ?_ | refine z0o ?_ | refine z0p ?_ | refine z0q ?_ | refine z0r ?_ | refine z0s ?_ | refine z0v ?_ | refine z0z ?_ | refine z12 ?_
                  | refine z14 ?_ | refine z15 ?_ | refine z1e ?_ | refine z1f (hk := ?_) | refine z1i ?_ | refine z1j ?_ | refine z1k ?_ | refine z1l ?_ | refine z1m ?_ | refine z1n ?_
                  | refine z1o (fun hp => ?_) (fun hp => ?_) | refine z1p (fun hp => ?_) (fun hp => ?_) | refine z1q (fun hp => ?_) (fun hp => ?_) | refine z1r ?_ | refine z1s ?_
                  | refine z1t ?_ | refine z1u ?_ | refine z1v ?_ | refine z1w ?_ | refine z1x ?_ | refine z1y ?_ | refine z1z ?_ | refine z20 ?_ | refine z21 ?_ | refine z22 ?_
                  | refine z23 ?_ | refine z24 ?_ | refine z25 ?_ | refine z26 ?_ | refine z27 ?_ | refine z28 (fun hp => ?_) (fun hp => ?_) | refine z29 (fun hp => ?_) (fun hp => ?_)
                  | refine z2a ?_ | refine z2b ?_)
                refine wx_loopL ?_
                exact nx y rfl _ _ a2
            · by_cases he : e ≠ 0
              · repeat' (first
                  | refine wo_call rfl rfl rfl (c_step12 hst ha hci ?_)
                  | refine wx_ifDT rfl he ?_
                  | refine wx_retL [6, 7] ?_
                  | refine z00 ?_ | refine z01 ?_ | refine z02 ?_ | refine z04 ?_ | refine z05 ?_ | refine z08 ?_ | refine zp ?_ | refine z0g ?_ | refine z0h ?_ | refine z0j ?_ | refine z0k ?_
                  | refine z0l ?_ | refine z0n ?_ | refine z0o ?_ | refine z0p ?_ | refine z0q ?_ | refine z0r ?_ | refine z0s ?_ | refine z0v ?_ | refine z0z ?_ | refine z12 ?_
                  | refine z14 ?_ | refine z15 ?_ | refine z1e ?_ | refine z1f (hk := ?_) | refine z1i ?_ | refine z1j ?_ | refine z1k ?_ | refine z1l ?_ | refine z1m ?_ | refine z1n ?_
                  | refine z1o (fun hp => ?_) (fun hp => ?_) | refine z1p (fun hp => ?_) (fun hp => ?_) | refine z1q (fun hp => ?_) (fun hp => ?_) | refine z1r ?_ | refine z1s ?_
                  | refine z1t ?_ | refine z1u ?_ | refine z1v ?_ | refine z1w ?_ | refine z1x ?_ | refine z1y ?_ | refine z1z ?_ | refine z20 ?_ | refine z21 ?_ | refine z22 ?_
                  | refine z23 ?_ | refine z24 ?_ | refine z25 ?_ | refine z26 ?_ | refine z27 ?_ | refine z28 (fun hp => ?_) (fun hp => ?_) | refine z29 (fun hp => ?_) (fun hp => ?_)
                  | refine z2a ?_ | refine z2b ?_)
                exact fin he
              · have he0 : e = 0 := Decidable.byContradiction he
                subst he0
                obtain ⟨v2, m2, a1, a2⟩ := ap y
                repeat' (first
                  | refine wo_call rfl rfl rfl (c_step12 hst ha hci ?_)
                  | refine wo_app rfl rfl a1 rfl ?_
                  | refine z00 ?_ | refine z01 ?_ | refine z02 ?_ | refine z04 ?_ | refine z05 ?_ | refine z08 ?_ | refine zp ?_ | refine z0g ?_ | refine z0h ?_ | refine z0j ?_ | refine z0k ?_
                  | refine z0l ?_ | refine z0n ?_ | refine z0o ?_ | refine z0p ?_ | refine z0q ?_ | refine z0r ?_ | refine z0s ?_ | refine z0v ?_ | refine z0z ?_ | refine z12 ?_
                  | refine z14 ?_ | refine z15 ?_ | refine z1e ?_ | refine z1f (hk := ?_) | refine z1i ?_ | refine z1j ?_ | refine z1k ?_ | refine z1l ?_ | refine z1m ?_ | refine z1n ?_
                  | refine z1o (fun hp => ?_) (fun hp => ?_) | refine z1p (fun hp => ?_) (fun hp => ?_) | refine z1q (fun hp => ?_) (fun hp => ?_) | refine z1r ?_ | refine z1s ?_
                  | refine z1t ?_ | refine z1u ?_ | refine z1v ?_ | refine z1w ?_ | refine z1x ?_ | refine z1y ?_ | refine z1z ?_ | refine z20 ?_ | refine z21 ?_ | refine z22 ?_
                  | refine z23 ?_ | refine z24 ?_ | refine z25 ?_ | refine z26 ?_ | refine z27 ?_ | refine z28 (fun hp => ?_) (fun hp => ?_) | refine z29 (fun hp => ?_) (fun hp => ?_)
                  | refine z2a ?_ | refine z2b ?_)
                refine wx_loopL ?_
                exact nx y rfl _ _ a2
      repeat' (first
        | refine wo_call rfl rfl rfl (c_fits12 hf ?_)
        | refine z00 ?_ | refine z01 ?_ | refine z02 ?_ | refine z04 ?_ | refine z05 ?_ | refine z08 ?_ | refine zp ?_ | refine z0g ?_ | refine z0h ?_ | refine z0j ?_ | refine z0k ?_
        | refine z0l ?_ | refine z0n ?_ | refine z0o ?_ | refine z0p ?_ | refine z0q ?_ | refine z0r ?_ | refine z0s ?_ | refine z0v ?_ | refine z0z ?_ | refine z12 ?_ | refine z14 ?_
        | refine z15 ?_ | refine z1e ?_ | refine z1f (hk := ?_) | refine z1i ?_ | refine z1j ?_ | refine z1k ?_ | refine z1l ?_ | refine z1m ?_ | refine z1n ?_
        | refine z1o (fun hp => ?_) (fun hp => ?_) | refine z1p (fun hp => ?_) (fun hp => ?_) | refine z1q (fun hp => ?_) (fun hp => ?_) | refine z1r ?_ | refine z1s ?_ | refine z1t ?_
        | refine z1u ?_ | refine z1v ?_ | refine z1w ?_ | refine z1x ?_ | refine z1y ?_ | refine z1z ?_ | refine z20 ?_ | refine z21 ?_ | refine z22 ?_ | refine z23 ?_ | refine z24 ?_
        | refine z25 ?_ | refine z26 ?_ | refine z27 ?_ | refine z28 (fun hp => ?_) (fun hp => ?_) | refine z29 (fun hp => ?_) (fun hp => ?_) | refine z2a ?_ | refine z2b ?_)
      refine wx_loopL ?_
      refine key l.length 0 (by omega) x _ _ [x] (.inr (.inl rfl)) rfl hx ?_ ?_
      · intro p hp m'
        have hp' : (pensF roles 0 l x).find? badP = some p := hp
        rw [hp'] at hQ
        repeat' (first | refine then_r ?_ | refine block_r ?_)
        refine end_r rfl ?_
        exact fin1_deep rfl (hQ _ .nil)
      · intro hp m' u' hu'
        have hp' : (pensF roles 0 l x).find? badP = none := hp
        rw [hp'] at hQ
        repeat' (first
          | refine z00 ?_ | refine z01 ?_ | refine z02 ?_ | refine z04 ?_ | refine z05 ?_ | refine z08 ?_ | refine zp ?_ | refine z0g ?_ | refine z0h ?_ | refine z0j ?_ | refine z0k ?_
          | refine z0l ?_ | refine z0n ?_ | refine z0o ?_ | refine z0p ?_ | refine z0q ?_ | refine z0r ?_ | refine z0s ?_ | refine z0v ?_ | refine z0z ?_ | refine z12 ?_ | refine z14 ?_
          | refine z15 ?_ | refine z1e ?_ | refine z1f (hk := ?_) | refine z1i ?_ | refine z1j ?_ | refine z1k ?_ | refine z1l ?_ | refine z1m ?_ | refine z1n ?_
          | refine z1o (fun hp => ?_) (fun hp => ?_) | refine z1p (fun hp => ?_) (fun hp => ?_) | refine z1q (fun hp => ?_) (fun hp => ?_) | refine z1r ?_ | refine z1s ?_ | refine z1t ?_
          | refine z1u ?_ | refine z1v ?_ | refine z1w ?_ | refine z1x ?_ | refine z1y ?_ | refine z1z ?_ | refine z20 ?_ | refine z21 ?_ | refine z22 ?_ | refine z23 ?_ | refine z24 ?_
          | refine z25 ?_ | refine z26 ?_ | refine z27 ?_ | refine z28 (fun hp => ?_) (fun hp => ?_) | refine z29 (fun hp => ?_) (fun hp => ?_) | refine z2a ?_ | refine z2b ?_)
        exact hu'.fin1 rfl hQ

theorem c_end12 {l : List Cell} {roles : List Int} {v w : MV} {x : Int} {args : List MV} (hz : frzs m frzFuel args = some [v, w, .int .i64 x]) (hv : Sl KCell l v) (hw : Sl KU8 roles w) (hl : l.length ≤ 1000000) (hl2 : roles.length ≤ 1000000) (hc : ∀ c ∈ l, c.ok) (hx : I64 x)
    (hQ : Q (two (endL l roles x)) m ls) : Wc ip f_ref12_End args m ls Q := by
  refine wc_fn3 rfl fn_ref12_End rfl hz rfl ?_
  repeat' (first
    | refine wo_call rfl rfl rfl (c_pens12 hv hw hl hl2 hc hx ?_)
    | refine z00 ?_ | refine z01 ?_ | refine z02 ?_ | refine z04 ?_ | refine z05 ?_ | refine z08 ?_ | refine zp ?_ | refine z0g ?_ | refine z0h ?_ | refine z0j ?_ | refine z0k ?_
    | refine z0l ?_ | refine z0n ?_ | refine z0o ?_ | refine z0p ?_ | refine z0q ?_ | refine z0r ?_ | refine z0s ?_ | refine z0v ?_ | refine z0z ?_ | refine z12 ?_ | refine z14 ?_
    | refine z15 ?_ | refine z1e ?_ | refine z1f (hk := ?_) | refine z1i ?_ | refine z1j ?_ | refine z1k ?_ | refine z1l ?_ | refine z1m ?_ | refine z1n ?_
    | refine z1o (fun hp => ?_) (fun hp => ?_) | refine z1p (fun hp => ?_) (fun hp => ?_) | refine z1q (fun hp => ?_) (fun hp => ?_) | refine z1r ?_ | refine z1s ?_ | refine z1t ?_
    | refine z1u ?_ | refine z1v ?_ | refine z1w ?_ | refine z1x ?_ | refine z1y ?_ | refine z1z ?_ | refine z20 ?_ | refine z21 ?_ | refine z22 ?_ | refine z23 ?_ | refine z24 ?_
    | refine z25 ?_ | refine z26 ?_ | refine z27 ?_ | refine z28 (fun hp => ?_) (fun hp => ?_) | refine z29 (fun hp => ?_) (fun hp => ?_) | refine z2a ?_ | refine z2b ?_)
  intro u hu
  by_cases he : (pensL l roles x).2 ≠ 0
  · repeat' (first
      | refine wx_ifDT rfl he ?_
      | refine z00 ?_ | refine z01 ?_ | refine z02 ?_ | refine z04 ?_ | refine z05 ?_ | refine z08 ?_ | refine zp ?_ | refine z0g ?_ | refine z0h ?_ | refine z0j ?_ | refine z0k ?_
      | refine z0l ?_ | refine z0n ?_ | refine z0o ?_ | refine z0p ?_ | refine z0q ?_ | refine z0r ?_ | refine z0s ?_ | refine z0v ?_ | refine z0z ?_ | refine z12 ?_ | refine z14 ?_
      | refine z15 ?_ | refine z1e ?_ | refine z1f (hk := ?_) | refine z1i ?_ | refine z1j ?_ | refine z1k ?_ | refine z1l ?_ | refine z1m ?_ | refine z1n ?_
      | refine z1o (fun hp => ?_) (fun hp => ?_) | refine z1p (fun hp => ?_) (fun hp => ?_) | refine z1q (fun hp => ?_) (fun hp => ?_) | refine z1r ?_ | refine z1s ?_ | refine z1t ?_
      | refine z1u ?_ | refine z1v ?_ | refine z1w ?_ | refine z1x ?_ | refine z1y ?_ | refine z1z ?_ | refine z20 ?_ | refine z21 ?_ | refine z22 ?_ | refine z23 ?_ | refine z24 ?_
      | refine z25 ?_ | refine z26 ?_ | refine z27 ?_ | refine z28 (fun hp => ?_) (fun hp => ?_) | refine z29 (fun hp => ?_) (fun hp => ?_) | refine z2a ?_ | refine z2b ?_)
    refine fin_cln rfl ?_
    have e : endL l roles x = (0, (pensL l roles x).2) := by unfold endL; rw [if_pos he]
    rw [e] at hQ
    exact hQ
  · have hne := pensL_ne (Decidable.byContradiction he)
    have hpos : 1 ≤ (pensL l roles x).1.length := by rw [hne]; simp
    have hle : (pensL l roles x).1.length ≤ 2000000 := by
      rw [hne]
      have : ∀ (l : List Cell) (i : Nat) (x : Int), (pensF roles i l x).length ≤ l.length := by
        intro l
        induction l with
        | nil => intro i x; simp [pensF]
        | cons c cs ih =>
          intro i x
          simp only [pensF, List.length_cons]
          split
          · simp
          · have := ih (i + 1) (penF c (roles.getD i 0) x).1; omega
      have := this l 0 x
      simp; omega
    repeat' (first
      | refine wx_ifDF rfl he ?_
      | refine z00 ?_ | refine z01 ?_ | refine z02 ?_ | refine z04 ?_ | refine z05 ?_ | refine z08 ?_ | refine zp ?_ | refine z0g ?_ | refine z0h ?_ | refine z0j ?_ | refine z0k ?_
      | refine z0l ?_ | refine z0n ?_ | refine z0o ?_ | refine z0p ?_ | refine z0q ?_ | refine z0r ?_ | refine z0s ?_ | refine z0v ?_ | refine z0z ?_ | refine z12 ?_ | refine z14 ?_
      | refine z15 ?_ | refine z1e ?_ | refine z1f (hk := ?_) | refine z1i ?_ | refine z1j ?_ | refine z1k ?_ | refine z1l ?_ | refine z1m ?_ | refine z1n ?_
      | refine z1o (fun hp => ?_) (fun hp => ?_) | refine z1p (fun hp => ?_) (fun hp => ?_) | refine z1q (fun hp => ?_) (fun hp => ?_) | refine z1r ?_ | refine z1s ?_ | refine z1t ?_
      | refine z1u ?_ | refine z1v ?_ | refine z1w ?_ | refine z1x ?_ | refine z1y ?_ | refine z1z ?_ | refine z20 ?_ | refine z21 ?_ | refine z22 ?_ | refine z23 ?_ | refine z24 ?_
      | refine z25 ?_ | refine z26 ?_ | refine z27 ?_ | refine z28 (fun hp => ?_) (fun hp => ?_) | refine z29 (fun hp => ?_) (fun hp => ?_) | refine z2a ?_ | refine z2b ?_)
    refine fin_cln rfl ?_
    have e : endL l roles x = ((pensL l roles x).1.getD ((pensL l roles x).1.length - 1) 0, 0) := by unfold endL; rw [if_neg he]
    rw [e] at hQ
    have e2 : (((pensL l roles x).1.length : Int) - 1).toNat = (pensL l roles x).1.length - 1 := by omega
    have hlt : (pensL l roles x).1.length - 1 < (pensL l roles x).1.length := by omega
    simp only [one, two, e2] at hQ ⊢
    rw [getD_lt hlt] at hQ
    exact hQ

/-! ### Roles -/

theorem c_edge13 {c : Cell} {b : Bool} (hb : edgeC c = b) (hQ : Q (.bool b) m ls) : Wc ip f_ref13_edge [.agg c.mv] m ls Q := by
  subst hb
  refine wc_fn3d rfl fn_ref13_edge rfl rfl rfl ?_
  repeat' (first
    | refine z00 ?_ | refine z01 ?_ | refine z02 ?_ | refine z04 ?_ | refine z05 ?_ | refine z08 ?_ | refine zp ?_ | refine z0g ?_ | refine z0h ?_ | refine z0j ?_ | refine z0k ?_
    | refine z0l ?_ | refine z0n ?_ | refine z0o ?_ | refine z0p ?_ | refine z0q ?_ | refine z0r ?_ | refine z0s ?_ | refine z0v ?_ | refine z0z ?_ | refine z12 ?_ | refine z14 ?_
    | refine z15 ?_ | refine z1e ?_ | refine z1f (hk := ?_) | refine z1i ?_ | refine z1j ?_ | refine z1k ?_ | refine z1l ?_ | refine z1m ?_ | refine z1n ?_
    | refine z1o (fun hp => ?_) (fun hp => ?_) | refine z1p (fun hp => ?_) (fun hp => ?_) | refine z1q (fun hp => ?_) (fun hp => ?_) | refine z1r ?_ | refine z1s ?_ | refine z1t ?_
    | refine z1u ?_ | refine z1v ?_ | refine z1w ?_ | refine z1x ?_ | refine z1y ?_ | refine z1z ?_ | refine z20 ?_ | refine z21 ?_ | refine z22 ?_ | refine z23 ?_ | refine z24 ?_
    | refine z25 ?_ | refine z26 ?_ | refine z27 ?_ | refine z28 (fun hp => ?_) (fun hp => ?_) | refine z29 (fun hp => ?_) (fun hp => ?_) | refine z2a ?_ | refine z2b ?_)
  all_goals (refine fin_cln rfl ?_; simpa [one, edgeC, *] using hQ)

/-- Are all cells edges, or of a kind, or of another one? -/
def justF (l : List Cell) (a b : Int) : Bool := l.all fun c => edgeC c || decide (c.kind = a) || decide (c.kind = b)

theorem c_just13 {l : List Cell} {v : MV} {a b : Int} {t : Bool} (ht : justF l a b = t) (hv : Sl KCell l v) (hl : l.length ≤ 1000000) (hQ : Q (.bool t) m ls) : Wc ip f_ref13_just [v, .int .u8 a, .int .u8 b] m ls Q := by
  subst ht
  refine wc_fn3d rfl fn_ref13_just rfl (by simp [deepVs, hv.deep, deepV]) rfl ?_
  have key : ∀ (k i : Nat), i + k = l.length → (justF (l.take i) a b = true) → ∀ {R : Ex → As → Mem → List LRec → Prop}, (justF l a b = true → R (.exit 0) [] [] []) → (justF l a b = false → R .ret [(6, .bool false)] [] []) →
      Wx ip i_ref13_just.nt (.loop (lv [0, 1, 2, 7] 38) ref13_just_b0) [(0, v), (1, .int .u8 a), (2, .int .u8 b), (7, .int .i64 i)] [] [] R := by
    intro k
    induction k with
    | zero =>
      intro i hk hd R h1 h2
      rw [List.take_of_length_le (by omega)] at hd
      refine wx_roundL rfl ?_
      repeat' (first
        | refine wx_exitL [] ?_
        | refine z00 ?_ | refine z01 ?_ | refine z02 ?_ | refine z04 ?_ | refine z05 ?_ | refine z08 ?_ | refine zp ?_ | refine z0g ?_ | refine z0h ?_ | refine z0j ?_ | refine z0k ?_
        | refine z0l ?_ | refine z0n ?_ | refine z0o ?_ | refine z0p ?_ | refine z0q ?_ | refine z0r ?_ | refine z0s ?_ | refine z0v ?_ | refine z0z ?_ | refine z12 ?_ | refine z14 ?_
        | refine z15 ?_ | refine z1e ?_ | refine z1f (hk := ?_) | refine z1i ?_ | refine z1j ?_ | refine z1k ?_ | refine z1l ?_ | refine z1m ?_ | refine z1n ?_
        | refine z1o (fun hp => ?_) (fun hp => ?_) | refine z1p (fun hp => ?_) (fun hp => ?_) | refine z1q (fun hp => ?_) (fun hp => ?_) | refine z1r ?_ | refine z1s ?_ | refine z1t ?_
        | refine z1u ?_ | refine z1v ?_ | refine z1w ?_ | refine z1x ?_ | refine z1y ?_ | refine z1z ?_ | refine z20 ?_ | refine z21 ?_ | refine z22 ?_ | refine z23 ?_ | refine z24 ?_
        | refine z25 ?_ | refine z26 ?_ | refine z27 ?_ | refine z28 (fun hp => ?_) (fun hp => ?_) | refine z29 (fun hp => ?_) (fun hp => ?_) | refine z2a ?_ | refine z2b ?_)
      exact h1 hd
    | succ k ih =>
      intro i hk hd R h1 h2
      have hlt : i < l.length := by omega
      have nx : (edgeC l[i] || decide (l[i].kind = a) || decide (l[i].kind = b)) = true → Wx ip i_ref13_just.nt (.loop (lv [0, 1, 2, 7] 38) ref13_just_b0) [(0, v), (1, .int .u8 a), (2, .int .u8 b), (7, .int .i64 ((i : Int) + 1))] [] [] R := fun h =>
        ih (i + 1) (by omega) (by unfold justF at hd ⊢; rw [List.take_succ_eq_append_getElem hlt, List.all_append, hd]; simpa using h) h1 h2
      refine wx_roundL rfl ?_
      cases he : edgeC l[i] with
      | true =>
        repeat' (first
          | refine wo_call rfl rfl rfl (c_edge13 he ?_)
          | refine z00 ?_ | refine z01 ?_ | refine z02 ?_ | refine z04 ?_ | refine z05 ?_ | refine z08 ?_ | refine zp ?_ | refine z0g ?_ | refine z0h ?_ | refine z0j ?_ | refine z0k ?_
          | refine z0l ?_ | refine z0n ?_ | refine z0o ?_ | refine z0p ?_ | refine z0q ?_ | refine z0r ?_ | refine z0s ?_ | refine z0v ?_ | refine z0z ?_ | refine z12 ?_ | refine z14 ?_
          | refine z15 ?_ | refine z1e ?_ | refine z1f (hk := ?_) | refine z1i ?_ | refine z1j ?_ | refine z1k ?_ | refine z1l ?_ | refine z1m ?_ | refine z1n ?_
          | refine z1o (fun hp => ?_) (fun hp => ?_) | refine z1p (fun hp => ?_) (fun hp => ?_) | refine z1q (fun hp => ?_) (fun hp => ?_) | refine z1r ?_ | refine z1s ?_ | refine z1t ?_
          | refine z1u ?_ | refine z1v ?_ | refine z1w ?_ | refine z1x ?_ | refine z1y ?_ | refine z1z ?_ | refine z20 ?_ | refine z21 ?_ | refine z22 ?_ | refine z23 ?_ | refine z24 ?_
          | refine z25 ?_ | refine z26 ?_ | refine z27 ?_ | refine z28 (fun hp => ?_) (fun hp => ?_) | refine z29 (fun hp => ?_) (fun hp => ?_) | refine z2a ?_ | refine z2b ?_)
        exact wx_loopL (nx (by rw [he]; rfl))
      | false =>
        by_cases ha : l[i].kind ≠ a
        · by_cases hb : l[i].kind ≠ b
          · have e : justF l a b = false := by
              unfold justF
              rw [List.all_eq_false]
              exact ⟨l[i], List.getElem_mem hlt, by rw [he]; simp [ha, hb]⟩
            repeat' (first
              | refine wx_retL [6] ?_
              | refine wo_call rfl rfl rfl (c_edge13 he ?_)
              | refine wo_guardDT rfl ha rfl ?_
              | refine wx_ifDT rfl hb ?_
              | refine z00 ?_ | refine z01 ?_ | refine z02 ?_ | refine z04 ?_ | refine z05 ?_ | refine z08 ?_ | refine zp ?_ | refine z0g ?_ | refine z0h ?_ | refine z0j ?_ | refine z0k ?_
              | refine z0l ?_ | refine z0n ?_ | refine z0o ?_ | refine z0p ?_ | refine z0q ?_ | refine z0r ?_ | refine z0s ?_ | refine z0v ?_ | refine z0z ?_ | refine z12 ?_ | refine z14 ?_
              | refine z15 ?_ | refine z1e ?_ | refine z1f (hk := ?_) | refine z1i ?_ | refine z1j ?_ | refine z1k ?_ | refine z1l ?_ | refine z1m ?_ | refine z1n ?_
              | refine z1o (fun hp => ?_) (fun hp => ?_) | refine z1p (fun hp => ?_) (fun hp => ?_) | refine z1q (fun hp => ?_) (fun hp => ?_) | refine z1r ?_ | refine z1s ?_ | refine z1t ?_
              | refine z1u ?_ | refine z1v ?_ | refine z1w ?_ | refine z1x ?_ | refine z1y ?_ | refine z1z ?_ | refine z20 ?_ | refine z21 ?_ | refine z22 ?_ | refine z23 ?_ | refine z24 ?_
              | refine z25 ?_ | refine z26 ?_ | refine z27 ?_ | refine z28 (fun hp => ?_) (fun hp => ?_) | refine z29 (fun hp => ?_) (fun hp => ?_) | refine z2a ?_ | refine z2b ?_)
            exact h2 e
          · repeat' (first
              | refine wo_call rfl rfl rfl (c_edge13 he ?_)
              | refine wo_guardDT rfl ha rfl ?_
              | refine wx_ifDF rfl hb ?_
              | refine z00 ?_ | refine z01 ?_ | refine z02 ?_ | refine z04 ?_ | refine z05 ?_ | refine z08 ?_ | refine zp ?_ | refine z0g ?_ | refine z0h ?_ | refine z0j ?_ | refine z0k ?_
              | refine z0l ?_ | refine z0n ?_ | refine z0o ?_ | refine z0p ?_ | refine z0q ?_ | refine z0r ?_ | refine z0s ?_ | refine z0v ?_ | refine z0z ?_ | refine z12 ?_ | refine z14 ?_
              | refine z15 ?_ | refine z1e ?_ | refine z1f (hk := ?_) | refine z1i ?_ | refine z1j ?_ | refine z1k ?_ | refine z1l ?_ | refine z1m ?_ | refine z1n ?_
              | refine z1o (fun hp => ?_) (fun hp => ?_) | refine z1p (fun hp => ?_) (fun hp => ?_) | refine z1q (fun hp => ?_) (fun hp => ?_) | refine z1r ?_ | refine z1s ?_ | refine z1t ?_
              | refine z1u ?_ | refine z1v ?_ | refine z1w ?_ | refine z1x ?_ | refine z1y ?_ | refine z1z ?_ | refine z20 ?_ | refine z21 ?_ | refine z22 ?_ | refine z23 ?_ | refine z24 ?_
              | refine z25 ?_ | refine z26 ?_ | refine z27 ?_ | refine z28 (fun hp => ?_) (fun hp => ?_) | refine z29 (fun hp => ?_) (fun hp => ?_) | refine z2a ?_ | refine z2b ?_)
            exact wx_loopL (nx (by simp at hb; simp [hb]))
        · repeat' (first
            | refine wo_call rfl rfl rfl (c_edge13 he ?_)
            | refine wo_guardDF rfl ha rfl ?_
            | refine z00 ?_ | refine z01 ?_ | refine z02 ?_ | refine z04 ?_ | refine z05 ?_ | refine z08 ?_ | refine zp ?_ | refine z0g ?_ | refine z0h ?_ | refine z0j ?_ | refine z0k ?_
            | refine z0l ?_ | refine z0n ?_ | refine z0o ?_ | refine z0p ?_ | refine z0q ?_ | refine z0r ?_ | refine z0s ?_ | refine z0v ?_ | refine z0z ?_ | refine z12 ?_ | refine z14 ?_
            | refine z15 ?_ | refine z1e ?_ | refine z1f (hk := ?_) | refine z1i ?_ | refine z1j ?_ | refine z1k ?_ | refine z1l ?_ | refine z1m ?_ | refine z1n ?_
            | refine z1o (fun hp => ?_) (fun hp => ?_) | refine z1p (fun hp => ?_) (fun hp => ?_) | refine z1q (fun hp => ?_) (fun hp => ?_) | refine z1r ?_ | refine z1s ?_ | refine z1t ?_
            | refine z1u ?_ | refine z1v ?_ | refine z1w ?_ | refine z1x ?_ | refine z1y ?_ | refine z1z ?_ | refine z20 ?_ | refine z21 ?_ | refine z22 ?_ | refine z23 ?_ | refine z24 ?_
            | refine z25 ?_ | refine z26 ?_ | refine z27 ?_ | refine z28 (fun hp => ?_) (fun hp => ?_) | refine z29 (fun hp => ?_) (fun hp => ?_) | refine z2a ?_ | refine z2b ?_)
          exact wx_loopL (nx (by simp at ha; simp [ha]))
  repeat' (first
    | refine z00 ?_ | refine z01 ?_ | refine z02 ?_ | refine z04 ?_ | refine z05 ?_ | refine z08 ?_ | refine zp ?_ | refine z0g ?_ | refine z0h ?_ | refine z0j ?_ | refine z0k ?_
    | refine z0l ?_ | refine z0n ?_ | refine z0o ?_ | refine z0p ?_ | refine z0q ?_ | refine z0r ?_ | refine z0s ?_ | refine z0v ?_ | refine z0z ?_ | refine z12 ?_ | refine z14 ?_
    | refine z15 ?_ | refine z1e ?_ | refine z1f (hk := ?_) | refine z1i ?_ | refine z1j ?_ | refine z1k ?_ | refine z1l ?_ | refine z1m ?_ | refine z1n ?_
    | refine z1o (fun hp => ?_) (fun hp => ?_) | refine z1p (fun hp => ?_) (fun hp => ?_) | refine z1q (fun hp => ?_) (fun hp => ?_) | refine z1r ?_ | refine z1s ?_ | refine z1t ?_
    | refine z1u ?_ | refine z1v ?_ | refine z1w ?_ | refine z1x ?_ | refine z1y ?_ | refine z1z ?_ | refine z20 ?_ | refine z21 ?_ | refine z22 ?_ | refine z23 ?_ | refine z24 ?_
    | refine z25 ?_ | refine z26 ?_ | refine z27 ?_ | refine z28 (fun hp => ?_) (fun hp => ?_) | refine z29 (fun hp => ?_) (fun hp => ?_) | refine z2a ?_ | refine z2b ?_)
  refine wx_loopL ?_
  refine key l.length 0 (by omega) rfl ?_ ?_
  · intro h
    rw [h] at hQ
    repeat' (first
      | refine z00 ?_ | refine z01 ?_ | refine z02 ?_ | refine z04 ?_ | refine z05 ?_ | refine z08 ?_ | refine zp ?_ | refine z0g ?_ | refine z0h ?_ | refine z0j ?_ | refine z0k ?_
      | refine z0l ?_ | refine z0n ?_ | refine z0o ?_ | refine z0p ?_ | refine z0q ?_ | refine z0r ?_ | refine z0s ?_ | refine z0v ?_ | refine z0z ?_ | refine z12 ?_ | refine z14 ?_
      | refine z15 ?_ | refine z1e ?_ | refine z1f (hk := ?_) | refine z1i ?_ | refine z1j ?_ | refine z1k ?_ | refine z1l ?_ | refine z1m ?_ | refine z1n ?_
      | refine z1o (fun hp => ?_) (fun hp => ?_) | refine z1p (fun hp => ?_) (fun hp => ?_) | refine z1q (fun hp => ?_) (fun hp => ?_) | refine z1r ?_ | refine z1s ?_ | refine z1t ?_
      | refine z1u ?_ | refine z1v ?_ | refine z1w ?_ | refine z1x ?_ | refine z1y ?_ | refine z1z ?_ | refine z20 ?_ | refine z21 ?_ | refine z22 ?_ | refine z23 ?_ | refine z24 ?_
      | refine z25 ?_ | refine z26 ?_ | refine z27 ?_ | refine z28 (fun hp => ?_) (fun hp => ?_) | refine z29 (fun hp => ?_) (fun hp => ?_) | refine z2a ?_ | refine z2b ?_)
    exact fin_cln rfl hQ
  · intro h
    rw [h] at hQ
    repeat' (first | refine then_r ?_ | refine block_r ?_)
    refine end_r rfl ?_
    exact fin_cln rfl hQ

/-- Of one cell. -/
def roleF (l : List Cell) (i : Nat) : Int :=
  if (l.getD i default).kind = 1 ∧ (justF (l.take i) 1 1 = true ∨ justF (l.drop (i + 1)) 1 1 = true) then 1
  else if (l.getD i default).kind = 2 ∧ justF (l.drop (i + 1)) 1 2 = true then 2 else 0

theorem c_Role13 {l : List Cell} {v : MV} {i : Nat} {r : Int} (he : roleF l i = r) (hv : Sl KCell l v) (hl : l.length ≤ 1000000) (hi : i < l.length) (hQ : Q (.int .u8 r) m ls) : Wc ip f_ref13_Role [v, .int .i64 i] m ls Q := by
  subst he
  refine wc_fn3d rfl fn_ref13_Role rfl (by simp [deepVs, hv.deep, deepV]) rfl ?_
  unfold roleF at hQ
  rw [getD_lt hi] at hQ
  have d1 : ((l.drop 0).take i) = l.take i := by simp
  have d2 : ((l.drop (i + 1)).take (l.length - (i + 1))) = l.drop (i + 1) := List.take_of_length_le (by simp)
  have b1 : (l.take i).length ≤ 1000000 := by simp; omega
  have b2 : (l.drop (i + 1)).length ≤ 1000000 := by simp; omega
  by_cases h1 : l[i].kind = 1
  · have h12 : ¬ l[i].kind = 2 := by omega
    repeat' (first
      | refine wo_guardDT rfl h1 rfl ?_
      | refine z00 ?_ | refine z01 ?_ | refine z02 ?_ | refine z04 ?_ | refine z05 ?_ | refine z08 ?_ | refine zp ?_ | refine z0g ?_ | refine z0h ?_ | refine z0j ?_ | refine z0k ?_
      | refine z0l ?_ | refine z0n ?_ | refine z0o ?_ | refine z0p ?_ | refine z0q ?_ | refine z0r ?_ | refine z0s ?_ | refine z0v ?_ | refine z0z ?_ | refine z12 ?_ | refine z14 ?_
      | refine z15 ?_ | refine z1e ?_ | refine z1f (hk := ?_) | refine z1i ?_ | refine z1j ?_ | refine z1k ?_ | refine z1l ?_ | refine z1m ?_ | refine z1n ?_
      | refine z1o (fun hp => ?_) (fun hp => ?_) | refine z1p (fun hp => ?_) (fun hp => ?_) | refine z1q (fun hp => ?_) (fun hp => ?_) | refine z1r ?_ | refine z1s ?_ | refine z1t ?_
      | refine z1u ?_ | refine z1v ?_ | refine z1w ?_ | refine z1x ?_ | refine z1y ?_ | refine z1z ?_ | refine z20 ?_ | refine z21 ?_ | refine z22 ?_ | refine z23 ?_ | refine z24 ?_
      | refine z25 ?_ | refine z26 ?_ | refine z27 ?_ | refine z28 (fun hp => ?_) (fun hp => ?_) | refine z29 (fun hp => ?_) (fun hp => ?_) | refine z2a ?_ | refine z2b ?_)
    refine wo_sliceS rfl hv rfl rfl (by omega) rfl rfl fun v1 hv1 => ?_
    have hv1' : Sl KCell (l.take i) v1 := by rw [← d1]; exact hv1
    cases hj1 : justF (l.take i) 1 1 with
    | true =>
      rw [if_pos ⟨h1, .inl hj1⟩] at hQ
      repeat' (first
        | refine wo_call rfl rfl rfl (c_just13 hj1 hv1' b1 ?_)
        | refine z00 ?_ | refine z01 ?_ | refine z02 ?_ | refine z04 ?_ | refine z05 ?_ | refine z08 ?_ | refine zp ?_ | refine z0g ?_ | refine z0h ?_ | refine z0j ?_ | refine z0k ?_
        | refine z0l ?_ | refine z0n ?_ | refine z0o ?_ | refine z0p ?_ | refine z0q ?_ | refine z0r ?_ | refine z0s ?_ | refine z0v ?_ | refine z0z ?_ | refine z12 ?_ | refine z14 ?_
        | refine z15 ?_ | refine z1e ?_ | refine z1f (hk := ?_) | refine z1i ?_ | refine z1j ?_ | refine z1k ?_ | refine z1l ?_ | refine z1m ?_ | refine z1n ?_
        | refine z1o (fun hp => ?_) (fun hp => ?_) | refine z1p (fun hp => ?_) (fun hp => ?_) | refine z1q (fun hp => ?_) (fun hp => ?_) | refine z1r ?_ | refine z1s ?_ | refine z1t ?_
        | refine z1u ?_ | refine z1v ?_ | refine z1w ?_ | refine z1x ?_ | refine z1y ?_ | refine z1z ?_ | refine z20 ?_ | refine z21 ?_ | refine z22 ?_ | refine z23 ?_ | refine z24 ?_
        | refine z25 ?_ | refine z26 ?_ | refine z27 ?_ | refine z28 (fun hp => ?_) (fun hp => ?_) | refine z29 (fun hp => ?_) (fun hp => ?_) | refine z2a ?_ | refine z2b ?_)
      exact fin_cln rfl hQ
    | false =>
      repeat' (first
        | refine wo_call rfl rfl rfl (c_just13 hj1 hv1' b1 ?_)
        | refine z00 ?_ | refine z01 ?_ | refine z02 ?_ | refine z04 ?_ | refine z05 ?_ | refine z08 ?_ | refine zp ?_ | refine z0g ?_ | refine z0h ?_ | refine z0j ?_ | refine z0k ?_
        | refine z0l ?_ | refine z0n ?_ | refine z0o ?_ | refine z0p ?_ | refine z0q ?_ | refine z0r ?_ | refine z0s ?_ | refine z0v ?_ | refine z0z ?_ | refine z12 ?_ | refine z14 ?_
        | refine z15 ?_ | refine z1e ?_ | refine z1f (hk := ?_) | refine z1i ?_ | refine z1j ?_ | refine z1k ?_ | refine z1l ?_ | refine z1m ?_ | refine z1n ?_
        | refine z1o (fun hp => ?_) (fun hp => ?_) | refine z1p (fun hp => ?_) (fun hp => ?_) | refine z1q (fun hp => ?_) (fun hp => ?_) | refine z1r ?_ | refine z1s ?_ | refine z1t ?_
        | refine z1u ?_ | refine z1v ?_ | refine z1w ?_ | refine z1x ?_ | refine z1y ?_ | refine z1z ?_ | refine z20 ?_ | refine z21 ?_ | refine z22 ?_ | refine z23 ?_ | refine z24 ?_
        | refine z25 ?_ | refine z26 ?_ | refine z27 ?_ | refine z28 (fun hp => ?_) (fun hp => ?_) | refine z29 (fun hp => ?_) (fun hp => ?_) | refine z2a ?_ | refine z2b ?_)
      refine wo_sliceS rfl hv rfl rfl (by omega) rfl rfl fun v2 hv2 => ?_
      have hv2' : Sl KCell (l.drop (i + 1)) v2 := by rw [← d2]; exact hv2
      cases hj2 : justF (l.drop (i + 1)) 1 1 with
      | true =>
        rw [if_pos ⟨h1, .inr hj2⟩] at hQ
        repeat' (first
          | refine wo_call rfl rfl rfl (c_just13 hj2 hv2' b2 ?_)
          | refine z00 ?_ | refine z01 ?_ | refine z02 ?_ | refine z04 ?_ | refine z05 ?_ | refine z08 ?_ | refine zp ?_ | refine z0g ?_ | refine z0h ?_ | refine z0j ?_ | refine z0k ?_
          | refine z0l ?_ | refine z0n ?_ | refine z0o ?_ | refine z0p ?_ | refine z0q ?_ | refine z0r ?_ | refine z0s ?_ | refine z0v ?_ | refine z0z ?_ | refine z12 ?_ | refine z14 ?_
          | refine z15 ?_ | refine z1e ?_ | refine z1f (hk := ?_) | refine z1i ?_ | refine z1j ?_ | refine z1k ?_ | refine z1l ?_ | refine z1m ?_ | refine z1n ?_
          | refine z1o (fun hp => ?_) (fun hp => ?_) | refine z1p (fun hp => ?_) (fun hp => ?_) | refine z1q (fun hp => ?_) (fun hp => ?_) | refine z1r ?_ | refine z1s ?_ | refine z1t ?_
          | refine z1u ?_ | refine z1v ?_ | refine z1w ?_ | refine z1x ?_ | refine z1y ?_ | refine z1z ?_ | refine z20 ?_ | refine z21 ?_ | refine z22 ?_ | refine z23 ?_ | refine z24 ?_
          | refine z25 ?_ | refine z26 ?_ | refine z27 ?_ | refine z28 (fun hp => ?_) (fun hp => ?_) | refine z29 (fun hp => ?_) (fun hp => ?_) | refine z2a ?_ | refine z2b ?_)
        exact fin_cln rfl hQ
      | false =>
        rw [if_neg (by rw [hj1, hj2]; simp), if_neg (fun h => h12 h.1)] at hQ
        repeat' (first
          | refine wo_call rfl rfl rfl (c_just13 hj2 hv2' b2 ?_)
          | refine wo_guardDF rfl h12 rfl ?_
          | refine z00 ?_ | refine z01 ?_ | refine z02 ?_ | refine z04 ?_ | refine z05 ?_ | refine z08 ?_ | refine zp ?_ | refine z0g ?_ | refine z0h ?_ | refine z0j ?_ | refine z0k ?_
          | refine z0l ?_ | refine z0n ?_ | refine z0o ?_ | refine z0p ?_ | refine z0q ?_ | refine z0r ?_ | refine z0s ?_ | refine z0v ?_ | refine z0z ?_ | refine z12 ?_ | refine z14 ?_
          | refine z15 ?_ | refine z1e ?_ | refine z1f (hk := ?_) | refine z1i ?_ | refine z1j ?_ | refine z1k ?_ | refine z1l ?_ | refine z1m ?_ | refine z1n ?_
          | refine z1o (fun hp => ?_) (fun hp => ?_) | refine z1p (fun hp => ?_) (fun hp => ?_) | refine z1q (fun hp => ?_) (fun hp => ?_) | refine z1r ?_ | refine z1s ?_ | refine z1t ?_
          | refine z1u ?_ | refine z1v ?_ | refine z1w ?_ | refine z1x ?_ | refine z1y ?_ | refine z1z ?_ | refine z20 ?_ | refine z21 ?_ | refine z22 ?_ | refine z23 ?_ | refine z24 ?_
          | refine z25 ?_ | refine z26 ?_ | refine z27 ?_ | refine z28 (fun hp => ?_) (fun hp => ?_) | refine z29 (fun hp => ?_) (fun hp => ?_) | refine z2a ?_ | refine z2b ?_)
        exact fin_cln rfl hQ
  · rw [if_neg (fun h => h1 h.1)] at hQ
    by_cases h2 : l[i].kind = 2
    · repeat' (first
        | refine wo_guardDF rfl h1 rfl ?_
        | refine wo_guardDT rfl h2 rfl ?_
        | refine z00 ?_ | refine z01 ?_ | refine z02 ?_ | refine z04 ?_ | refine z05 ?_ | refine z08 ?_ | refine zp ?_ | refine z0g ?_ | refine z0h ?_ | refine z0j ?_ | refine z0k ?_
        | refine z0l ?_ | refine z0n ?_ | refine z0o ?_ | refine z0p ?_ | refine z0q ?_ | refine z0r ?_ | refine z0s ?_ | refine z0v ?_ | refine z0z ?_ | refine z12 ?_ | refine z14 ?_
        | refine z15 ?_ | refine z1e ?_ | refine z1f (hk := ?_) | refine z1i ?_ | refine z1j ?_ | refine z1k ?_ | refine z1l ?_ | refine z1m ?_ | refine z1n ?_
        | refine z1o (fun hp => ?_) (fun hp => ?_) | refine z1p (fun hp => ?_) (fun hp => ?_) | refine z1q (fun hp => ?_) (fun hp => ?_) | refine z1r ?_ | refine z1s ?_ | refine z1t ?_
        | refine z1u ?_ | refine z1v ?_ | refine z1w ?_ | refine z1x ?_ | refine z1y ?_ | refine z1z ?_ | refine z20 ?_ | refine z21 ?_ | refine z22 ?_ | refine z23 ?_ | refine z24 ?_
        | refine z25 ?_ | refine z26 ?_ | refine z27 ?_ | refine z28 (fun hp => ?_) (fun hp => ?_) | refine z29 (fun hp => ?_) (fun hp => ?_) | refine z2a ?_ | refine z2b ?_)
      refine wo_sliceS rfl hv rfl rfl (by omega) rfl rfl fun v2 hv2 => ?_
      have hv2' : Sl KCell (l.drop (i + 1)) v2 := by rw [← d2]; exact hv2
      cases hj2 : justF (l.drop (i + 1)) 1 2 with
      | true =>
        rw [if_pos ⟨h2, hj2⟩] at hQ
        repeat' (first
          | refine wo_call rfl rfl rfl (c_just13 hj2 hv2' b2 ?_)
          | refine z00 ?_ | refine z01 ?_ | refine z02 ?_ | refine z04 ?_ | refine z05 ?_ | refine z08 ?_ | refine zp ?_ | refine z0g ?_ | refine z0h ?_ | refine z0j ?_ | refine z0k ?_
          | refine z0l ?_ | refine z0n ?_ | refine z0o ?_ | refine z0p ?_ | refine z0q ?_ | refine z0r ?_ | refine z0s ?_ | refine z0v ?_ | refine z0z ?_ | refine z12 ?_ | refine z14 ?_
          | refine z15 ?_ | refine z1e ?_ | refine z1f (hk := ?_) | refine z1i ?_ | refine z1j ?_ | refine z1k ?_ | refine z1l ?_ | refine z1m ?_ | refine z1n ?_
          | refine z1o (fun hp => ?_) (fun hp => ?_) | refine z1p (fun hp => ?_) (fun hp => ?_) | refine z1q (fun hp => ?_) (fun hp => ?_) | refine z1r ?_ | refine z1s ?_ | refine z1t ?_
          | refine z1u ?_ | refine z1v ?_ | refine z1w ?_ | refine z1x ?_ | refine z1y ?_ | refine z1z ?_ | refine z20 ?_ | refine z21 ?_ | refine z22 ?_ | refine z23 ?_ | refine z24 ?_
          | refine z25 ?_ | refine z26 ?_ | refine z27 ?_ | refine z28 (fun hp => ?_) (fun hp => ?_) | refine z29 (fun hp => ?_) (fun hp => ?_) | refine z2a ?_ | refine z2b ?_)
        exact fin_cln rfl hQ
      | false =>
        rw [if_neg (by rw [hj2]; simp)] at hQ
        repeat' (first
          | refine wo_call rfl rfl rfl (c_just13 hj2 hv2' b2 ?_)
          | refine z00 ?_ | refine z01 ?_ | refine z02 ?_ | refine z04 ?_ | refine z05 ?_ | refine z08 ?_ | refine zp ?_ | refine z0g ?_ | refine z0h ?_ | refine z0j ?_ | refine z0k ?_
          | refine z0l ?_ | refine z0n ?_ | refine z0o ?_ | refine z0p ?_ | refine z0q ?_ | refine z0r ?_ | refine z0s ?_ | refine z0v ?_ | refine z0z ?_ | refine z12 ?_ | refine z14 ?_
          | refine z15 ?_ | refine z1e ?_ | refine z1f (hk := ?_) | refine z1i ?_ | refine z1j ?_ | refine z1k ?_ | refine z1l ?_ | refine z1m ?_ | refine z1n ?_
          | refine z1o (fun hp => ?_) (fun hp => ?_) | refine z1p (fun hp => ?_) (fun hp => ?_) | refine z1q (fun hp => ?_) (fun hp => ?_) | refine z1r ?_ | refine z1s ?_ | refine z1t ?_
          | refine z1u ?_ | refine z1v ?_ | refine z1w ?_ | refine z1x ?_ | refine z1y ?_ | refine z1z ?_ | refine z20 ?_ | refine z21 ?_ | refine z22 ?_ | refine z23 ?_ | refine z24 ?_
          | refine z25 ?_ | refine z26 ?_ | refine z27 ?_ | refine z28 (fun hp => ?_) (fun hp => ?_) | refine z29 (fun hp => ?_) (fun hp => ?_) | refine z2a ?_ | refine z2b ?_)
        exact fin_cln rfl hQ
    · rw [if_neg (fun h => h2 h.1)] at hQ
      repeat' (first
        | refine wo_guardDF rfl h1 rfl ?_
        | refine wo_guardDF rfl h2 rfl ?_
        | refine z00 ?_ | refine z01 ?_ | refine z02 ?_ | refine z04 ?_ | refine z05 ?_ | refine z08 ?_ | refine zp ?_ | refine z0g ?_ | refine z0h ?_ | refine z0j ?_ | refine z0k ?_
        | refine z0l ?_ | refine z0n ?_ | refine z0o ?_ | refine z0p ?_ | refine z0q ?_ | refine z0r ?_ | refine z0s ?_ | refine z0v ?_ | refine z0z ?_ | refine z12 ?_ | refine z14 ?_
        | refine z15 ?_ | refine z1e ?_ | refine z1f (hk := ?_) | refine z1i ?_ | refine z1j ?_ | refine z1k ?_ | refine z1l ?_ | refine z1m ?_ | refine z1n ?_
        | refine z1o (fun hp => ?_) (fun hp => ?_) | refine z1p (fun hp => ?_) (fun hp => ?_) | refine z1q (fun hp => ?_) (fun hp => ?_) | refine z1r ?_ | refine z1s ?_ | refine z1t ?_
        | refine z1u ?_ | refine z1v ?_ | refine z1w ?_ | refine z1x ?_ | refine z1y ?_ | refine z1z ?_ | refine z20 ?_ | refine z21 ?_ | refine z22 ?_ | refine z23 ?_ | refine z24 ?_
        | refine z25 ?_ | refine z26 ?_ | refine z27 ?_ | refine z28 (fun hp => ?_) (fun hp => ?_) | refine z29 (fun hp => ?_) (fun hp => ?_) | refine z2a ?_ | refine z2b ?_)
      exact fin_cln rfl hQ

end
end Go.Proofs.Ytnekgoanadbmmaa
