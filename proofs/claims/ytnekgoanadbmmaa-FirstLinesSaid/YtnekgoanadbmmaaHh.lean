/-
Plainly: the lines of what is behind a place are the lines from that place on.
-/
import Derived.Test.YtnekgoanadbmmaaGa
namespace Go.Proofs.Ytnekgoanadbmmaa
open Go.Mini
set_option linter.unusedSimpArgs false
set_option linter.unusedVariables false

theorem getD_drop {l : List Cell} {s j : Nat} : (l.drop s).getD j default = l.getD (s + j) default := by
  simp [List.getD, List.getElem?_drop]

theorem skip_drop {l : List Cell} {s : Nat} : ∀ {k j : Nat}, lastSkip l k (s + j) = s + lastSkip (l.drop s) k j
  | 0, j => rfl
  | k + 1, j => by
    simp only [lastSkip, getD_drop]
    split
    · rw [show s + j + 1 = s + (j + 1) by omega]; exact skip_drop
    · rfl

theorem lastG_drop {l : List Cell} {s : Nat} : ∀ {k j : Nat}, lastG l k (s + j) = (s + (lastG (l.drop s) k j).1, (lastG (l.drop s) k j).2)
  | 0, j => rfl
  | k + 1, j => by
    simp only [lastG, getD_drop]
    split
    · rw [show s + j + 1 = s + (j + 1) by omega]; exact lastG_drop
    · rw [show s + j + 1 = s + (j + 1) by omega, skip_drop]

theorem lastF_drop {l : List Cell} {s j : Nat} : lastF l (s + j) = (s + (lastF (l.drop s) j).1, (lastF (l.drop s) j).2) := by
  unfold lastF
  rw [show l.length - (s + j) = (l.drop s).length - j by simp; omega]
  exact lastG_drop

theorem cut_drop {l : List Cell} {s j p : Nat} : cut l (s + j) (s + p) = cut (l.drop s) j p := by
  unfold cut
  rw [List.drop_drop]
  congr 1
  omega

theorem endsG_drop {l : List Cell} {is : Cell → Bool} {s j : Nat} : ∀ {k p : Nat}, endsG l is (s + j) k (s + p) = (endsG (l.drop s) is j k p).map (· + (s : Int))
  | 0, p => rfl
  | k + 1, p => by
    have e : endB l is (s + j) (s + p) = endB (l.drop s) is j p := by
      unfold endB
      rw [cut_drop, getD_drop]
    simp only [endsG, e]
    rw [show s + p + 1 = s + (p + 1) by omega, endsG_drop]
    split
    · simp; omega
    · rfl

theorem endsF_drop {l : List Cell} {is : Cell → Bool} {s j to : Nat} : endsF l is (s + j) (s + to) = (endsF (l.drop s) is j to).map (· + (s : Int)) := by
  unfold endsF
  rw [show s + to - (s + j + 1) = to - (j + 1) by omega, show s + j + 1 = s + (j + 1) by omega]
  exact endsG_drop

theorem softs_drop {l : List Cell} {s j : Nat} : softs l (s + j) = (softs (l.drop s) j).map (· + (s : Int)) := by
  unfold softs
  rw [lastF_drop, endsF_drop, List.map_append]
  simp
  omega
theorem emergs_drop {l : List Cell} {s j : Nat} : emergs l (s + j) = (emergs (l.drop s) j).map (· + (s : Int)) := by
  unfold emergs
  rw [lastF_drop, endsF_drop]

theorem fitsF_drop {l : List Cell} {s j : Nat} {r : Room} {q : Int} (h : 0 ≤ q) : fitsF l (s + j) r (q + s) = fitsF (l.drop s) j r q := by
  unfold fitsF
  rw [show (q + s).toNat = s + q.toNat by omega, cut_drop]

def shR (s : Int) (R : Int × Bool × Int) : Int × Bool × Int := if R.2.2 = 0 then (R.1 + s, R.2.1, 0) else R
def shP (s : Int) (P : Int × Int) : Int × Int := if P.2 = 0 then (P.1 + s, 0) else P

theorem reachG_drop {F G : Int → Bool × Int} {s : Int} : ∀ {xs : List Int} {p : Int} {b : Bool}, (∀ q ∈ xs, G (q + s) = F q) → reachG G (p + s) b (xs.map (· + s)) = shR s (reachG F p b xs)
  | [], p, b, _ => by simp [reachG, shR]
  | q :: qs, p, b, h => by
    have hq := h q (by simp)
    by_cases he : (F q).2 ≠ 0
    · have e1 : reachG F p b (q :: qs) = (0, false, (F q).2) := by simp only [reachG]; rw [if_pos he]
      have e2 : reachG G (p + s) b ((q :: qs).map (· + s)) = (0, false, (F q).2) := by simp only [List.map_cons, reachG, hq]; rw [if_pos he]
      rw [e1, e2]
      simp only [shR]
      rw [if_neg he]
    · by_cases hg : (F q).1 = false
      · have e1 : reachG F p b (q :: qs) = if b = true then (q, false, 0) else (p, true, 0) := by simp only [reachG]; rw [if_neg he, if_pos hg]
        have e2 : reachG G (p + s) b ((q :: qs).map (· + s)) = if b = true then (q + s, false, 0) else (p + s, true, 0) := by simp only [List.map_cons, reachG, hq]; rw [if_neg he, if_pos hg]
        rw [e1, e2]
        cases b <;> simp [shR]
      · have e1 : reachG F p b (q :: qs) = reachG F q false qs := by simp only [reachG]; rw [if_neg he, if_neg hg]
        have e2 : reachG G (p + s) b ((q :: qs).map (· + s)) = reachG G (q + s) false (qs.map (· + s)) := by simp only [List.map_cons, reachG, hq]; rw [if_neg he, if_neg hg]
        rw [e1, e2]
        exact reachG_drop (fun q hq => h q (by simp [hq]))

theorem reachF_drop {F G : Int → Bool × Int} {s : Int} {xs : List Int} (hne : xs ≠ []) (h : ∀ q ∈ xs, G (q + s) = F q) :
    reachF G (xs.map (· + s)) = shR s (reachF F xs) := by
  have e : reachF G (xs.map (· + s)) = reachG G (0 + s) true (xs.map (· + s)) := by
    cases xs with
    | nil => exact absurd rfl hne
    | cons q qs => simp only [reachF, List.map_cons, reachG, if_true]
  rw [e, reachG_drop h]
  rfl

theorem near_drop {xs : List Int} {t s : Int} : nearF (xs.map (· + s)) (t + s) = (nearF xs t).map (· + s) := by
  unfold nearF
  rw [List.filter_map]
  congr 1
  apply List.filter_congr
  intro q _
  simp only [Function.comp_apply, decide_eq_decide]
  omega

/-- The pick, from a place on. -/
theorem pick_drop {l : List Cell} {s j : Nat} {r : Room} (h : s + j ≤ l.length) : onePick l (s + j) r = shP s (onePick (l.drop s) j r) := by
  have hl : j ≤ (l.drop s).length := by simp; omega
  have f1 : ∀ q ∈ softs (l.drop s) j, fitsF l (s + j) r (q + s) = fitsF (l.drop s) j r q := fun q hq => fitsF_drop (by have := softs_mem hl hq; omega)
  have hne : softs (l.drop s) j ≠ [] := by unfold softs; simp
  have e1 := reachF_drop (s := (s : Int)) hne f1
  rw [← softs_drop] at e1
  generalize hR : reachF (fitsF (l.drop s) j r) (softs (l.drop s) j) = R at e1
  obtain ⟨t, is, e⟩ := R
  by_cases he : e = 0
  · subst he
    have e1' : reachF (fitsF l (s + j) r) (softs l (s + j)) = (t + s, is, 0) := by rw [e1]; simp [shR]
    by_cases hc : is = false ∧ nearF (emergs (l.drop s) j) t ≠ []
    · have f2 : ∀ q ∈ nearF (emergs (l.drop s) j) t, fitsF l (s + j) r (q + s) = fitsF (l.drop s) j r q := fun q hq => fitsF_drop (by have := emergs_mem hl (List.mem_filter.1 hq).1; omega)
      have e2 := reachF_drop (s := (s : Int)) hc.2 f2
      have hc2 : nearF (emergs l (s + j)) (t + s) ≠ [] := by rw [emergs_drop, near_drop]; simpa using hc.2
      have p1 : onePick (l.drop s) j r = ((reachF (fitsF (l.drop s) j r) (nearF (emergs (l.drop s) j) t)).1, (reachF (fitsF (l.drop s) j r) (nearF (emergs (l.drop s) j) t)).2.2) := by
        unfold onePick; rw [hR]; exact if_pos ⟨rfl, hc.1, hc.2⟩
      have p2 : onePick l (s + j) r = ((reachF (fitsF l (s + j) r) (nearF (emergs l (s + j)) (t + s))).1, (reachF (fitsF l (s + j) r) (nearF (emergs l (s + j)) (t + s))).2.2) := by
        unfold onePick; rw [e1']; exact if_pos ⟨rfl, hc.1, hc2⟩
      rw [p1, p2, emergs_drop, near_drop, e2]
      generalize reachF (fitsF (l.drop s) j r) (nearF (emergs (l.drop s) j) t) = T
      obtain ⟨x, y, z⟩ := T
      by_cases hz : z = 0 <;> simp [shR, shP, hz]
    · have hc2 : ¬ (is = false ∧ nearF (emergs l (s + j)) (t + s) ≠ []) := fun c => hc ⟨c.1, by have := c.2; rw [emergs_drop, near_drop] at this; simpa using this⟩
      have p1 : onePick (l.drop s) j r = (t, 0) := by
        unfold onePick; rw [hR]; exact if_neg (fun c => hc c.2)
      have p2 : onePick l (s + j) r = (t + s, 0) := by
        unfold onePick; rw [e1']; exact if_neg (fun c => hc2 c.2)
      rw [p1, p2]
      simp [shP]
  · have e1' : reachF (fitsF l (s + j) r) (softs l (s + j)) = (t, is, e) := by rw [e1]; simp [shR, he]
    have p1 : onePick (l.drop s) j r = (t, e) := by
      unfold onePick; rw [hR]; exact if_neg (fun c => he c.1)
    have p2 : onePick l (s + j) r = (t, e) := by
      unfold onePick; rw [e1']; exact if_neg (fun c => he c.1)
    rw [p1, p2]
    simp [shP, he]

def shiftL (s : Nat) (x : Line) : Line := ⟨x.fr + s, x.to + s, x.forced⟩

theorem any_drop {l : List Cell} {s : Nat} (h : l.any badTab = false) : (l.drop s).any badTab = false := by
  rw [List.any_eq_false] at h ⊢
  exact fun c hc => h c (List.mem_of_mem_drop hc)

def sh1 (s : Nat) (P : Line × Int) : Line × Int := if P.2 = 0 then (shiftL s P.1, 0) else P

theorem one_drop {l : List Cell} {s j : Nat} {r : Room} (hb : l.any badTab = false) (h : s + j ≤ l.length) : oneF l (s + j) r = sh1 s (oneF (l.drop s) j r) := by
  have hb2 := any_drop (s := s) hb
  by_cases hw : r.width < 0
  · have p1 : oneF (l.drop s) j r = (badLine, 2) := by unfold oneF; exact if_pos (.inr hw)
    have p2 : oneF l (s + j) r = (badLine, 2) := by unfold oneF; exact if_pos (.inr hw)
    rw [p1, p2]; simp [sh1]
  · have e0 := pick_drop (l := l) (s := s) (j := j) (r := r) h
    generalize hP : onePick (l.drop s) j r = P at e0
    obtain ⟨t, e⟩ := P
    by_cases he : e = 0
    · subst he
      have e0' : onePick l (s + j) r = (t + s, 0) := by rw [e0]; simp [shP]
      have p1 : oneF (l.drop s) j r = (⟨j, t, (lastF (l.drop s) j).2 && decide (t = (lastF (l.drop s) j).1)⟩, 0) := by
        unfold oneF; rw [if_neg (by rw [hb2]; simp [hw]), hP]; simp
      have p2 : oneF l (s + j) r = (⟨((s + j : Nat) : Int), t + s, (lastF l (s + j)).2 && decide (t + s = (lastF l (s + j)).1)⟩, 0) := by
        unfold oneF; rw [if_neg (by rw [hb]; simp [hw]), e0']; simp
      rw [p1, p2, lastF_drop]
      simp only [sh1, shiftL, if_true, Prod.mk.injEq, Line.mk.injEq, and_true]
      refine ⟨by omega, trivial, ?_⟩
      congr 1
      rw [decide_eq_decide]
      omega
    · have e0' : onePick l (s + j) r = (t, e) := by rw [e0]; simp [shP, he]
      have p1 : oneF (l.drop s) j r = (badLine, e) := by
        unfold oneF; rw [if_neg (by rw [hb2]; simp [hw]), hP]; simp [he]
      have p2 : oneF l (s + j) r = (badLine, e) := by
        unfold oneF; rw [if_neg (by rw [hb]; simp [hw]), e0']; simp [he]
      rw [p1, p2]; simp [sh1, he]

theorem more_drop {l : List Cell} {s : Nat} {x : Line} (hs : s ≤ l.length) : moreB l (shiftL s x) = moreB (l.drop s) x := by
  unfold moreB shiftL
  simp only
  congr 1
  rw [decide_eq_decide]
  simp
  omega

theorem lines_drop {l : List Cell} {s : Nat} {rest : Room} (hb : l.any badTab = false) : ∀ (k j : Nat) (r : Room), s + j ≤ l.length →
    linesG l r rest k (s + j) = ((linesG (l.drop s) r rest k j).1.map (shiftL s), (linesG (l.drop s) r rest k j).2)
  | 0, j, r, h => rfl
  | k + 1, j, r, h => by
    simp only [linesG, one_drop hb h]
    generalize hone : oneF (l.drop s) j r = P
    obtain ⟨x, e⟩ := P
    by_cases he : e = 0
    · subst he
      have e0 : sh1 s (x, 0) = (shiftL s x, 0) := by simp [sh1]
      rw [e0]
      simp only [ne_eq, not_true, if_false, more_drop (show s ≤ l.length by omega)]
      by_cases hm : moreB (l.drop s) x = true
      · have hok := oneF_ok (l := l.drop s) (i := j) (r := r) (by simp; omega) (by rw [hone])
        rw [hone] at hok
        obtain ⟨_, to, h1, h2, h3, _, _⟩ := hok
        simp only at h1
        simp at h3
        rw [if_pos hm, if_pos hm]
        have e1 : (shiftL s x).to.toNat = s + x.to.toNat := by unfold shiftL; simp only; omega
        rw [e1, lines_drop hb k x.to.toNat rest (by omega)]
        simp only
        split <;> simp
      · rw [if_neg hm, if_neg hm]; rfl
    · have e0 : sh1 s (x, e) = (x, e) := by simp [sh1, he]
      rw [e0]
      simp only
      rw [if_pos he, if_pos he]; rfl

/-- More fuel tells the same. -/
theorem lines_fuel {l : List Cell} {rest : Room} : ∀ (k i : Nat) (r : Room), i ≤ l.length → l.length + 1 ≤ i + k → linesG l r rest (k + 1) i = linesG l r rest k i
  | 0, i, r, h1, h2 => by omega
  | k + 1, i, r, h1, h2 => by
    rw [show linesG l r rest (k + 1 + 1) i = (if (oneF l i r).2 ≠ 0 then ([], (oneF l i r).2) else if moreB l (oneF l i r).1 = true then (if (linesG l rest rest (k + 1) (oneF l i r).1.to.toNat).2 ≠ 0 then ([], (linesG l rest rest (k + 1) (oneF l i r).1.to.toNat).2) else ((oneF l i r).1 :: (linesG l rest rest (k + 1) (oneF l i r).1.to.toNat).1, 0)) else ([(oneF l i r).1], 0)) from rfl]
    rw [show linesG l r rest (k + 1) i = (if (oneF l i r).2 ≠ 0 then ([], (oneF l i r).2) else if moreB l (oneF l i r).1 = true then (if (linesG l rest rest k (oneF l i r).1.to.toNat).2 ≠ 0 then ([], (linesG l rest rest k (oneF l i r).1.to.toNat).2) else ((oneF l i r).1 :: (linesG l rest rest k (oneF l i r).1.to.toNat).1, 0)) else ([(oneF l i r).1], 0)) from rfl]
    by_cases he : (oneF l i r).2 = 0
    · by_cases hm : moreB l (oneF l i r).1 = true
      · have hlt := more_lt h1 he hm
        obtain ⟨_, to, g1, g2, g3, g4, _⟩ := oneF_ok h1 he
        have e1 : (oneF l i r).1.to.toNat = to := by omega
        rw [e1, lines_fuel k to rest g3 (by have := g4 hlt; omega)]
      · rw [if_neg hm, if_neg hm]
    · rw [if_pos he, if_pos he]

theorem lines_fuels {l : List Cell} {rest : Room} {i : Nat} {r : Room} (h1 : i ≤ l.length) : ∀ (d k : Nat), l.length + 1 ≤ i + k → linesG l r rest (k + d) i = linesG l r rest k i
  | 0, k, _ => rfl
  | d + 1, k, h => by
    rw [show k + (d + 1) = (k + d) + 1 by omega, lines_fuel (k + d) i r h1 (by omega), lines_fuels h1 d k h]

/-- The lines of two rows: the first one, and the others' of what is behind it. -/
theorem first_eq {first rest : List Cell} {a b : Room} (hal : alikeF first rest = true) (hb : rest.any badTab = false) (hw : ¬ b.width < 0) :
    firstL first rest a b = if (oneF first 0 a).2 ≠ 0 then ([], (oneF first 0 a).2) else if moreB first (oneF first 0 a).1 = true then
      (if (linesF (rest.drop (oneF first 0 a).1.to.toNat) b b).2 ≠ 0 then ([], (linesF (rest.drop (oneF first 0 a).1.to.toNat) b b).2) else ((oneF first 0 a).1 :: (linesF (rest.drop (oneF first 0 a).1.to.toNat) b b).1.map (shiftL (oneF first 0 a).1.to.toNat), 0)) else ([(oneF first 0 a).1], 0) := by
  have hlen := alikeF_len hal
  unfold firstL
  rw [if_neg (by rw [hal, hb]; simp [hw])]
  rw [show firstG rest b first a (first.length + 2) 0 = oneF first 0 a :: (if (oneF first 0 a).2 ≠ 0 then [] else if moreB first (oneF first 0 a).1 = true then firstG rest b rest b (first.length + 1) (oneF first 0 a).1.to.toNat else []) from rfl]
  by_cases he : (oneF first 0 a).2 = 0
  · have hbp : bad (oneF first 0 a) = false := by simp [bad, he]
    by_cases hm : moreB first (oneF first 0 a).1 = true
    · obtain ⟨_, to, g1, g2, g3, g4, _⟩ := oneF_ok (i := 0) (by omega) he
      have e1 : (oneF first 0 a).1.to.toNat = to := by omega
      have e2 : linesF (rest.drop to) b b = linesG (rest.drop to) b b ((rest.drop to).length + 2) 0 := by unfold linesF; rw [if_neg hw]
      have e3 := lines_drop (l := rest) (s := to) (rest := b) hb ((rest.drop to).length + 2) 0 b (by omega)
      rw [← e2] at e3
      have e3' : linesG rest b b ((rest.drop to).length + 2) to = ((linesF (rest.drop to) b b).1.map (shiftL to), (linesF (rest.drop to) b b).2) := e3
      have e4 : linesG rest b b (first.length + 1) to = linesG rest b b ((rest.drop to).length + 2) to := by
        have hd : (rest.drop to).length = rest.length - to := by simp
        by_cases ht : to = 0
        · rw [hd, ht, hlen, show rest.length - 0 + 2 = rest.length + 1 + 1 by omega]
          exact (lines_fuels (l := rest) (rest := b) (i := 0) (r := b) (by omega) 1 (rest.length + 1) (by omega)).symm
        · rw [hd, hlen, show rest.length + 1 = (rest.length - to + 2) + (to - 1) by omega]
          exact lines_fuels (by omega) _ _ (by omega)
      have e5 := lines_first (l := rest) (rest := b) (first.length + 1) to b
      rw [if_neg (fun c => c he), if_pos hm, if_neg (fun c => c he), if_pos hm]
      simp only [List.find?_cons, hbp, e1, List.map_cons]
      rw [show (linesF (rest.drop to) b b).2 = (linesG rest b b (first.length + 1) to).2 from by rw [e4, e3'],
        show (linesF (rest.drop to) b b).1.map (shiftL to) = (linesG rest b b (first.length + 1) to).1 from by rw [e4, e3'], e5]
      cases hf : (firstG rest b rest b (first.length + 1) to).find? bad with
      | none => simp
      | some p =>
        have := List.find?_some hf
        simp only [bad, decide_eq_true_eq] at this
        simp only
        rw [if_pos this]
    · rw [if_neg (fun c => c he), if_neg hm, if_neg (fun c => c he), if_neg hm]
      simp [List.find?_cons, hbp]
  · have hbp : bad (oneF first 0 a) = true := by simp [bad, he]
    rw [if_pos he]
    simp [List.find?_cons, hbp, he]

end Go.Proofs.Ytnekgoanadbmmaa
