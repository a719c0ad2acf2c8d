/-
The document's cells of lines: ref15.Cells.
-/
import Derived.Test.YtnekgoanadbmmaaHg
import Derived.Test.YtnekgoanadbmmaaFe
namespace Go.Proofs.Ytnekgoanadbmmaa
open Go.Mini
set_option linter.unusedSimpArgs false
set_option linter.unusedVariables false
set_option maxHeartbeats 4000000

/-! ### Own slices of own slices -/

inductive OwnL {α : Type} (K : Enc α) (m : Mem) : List (List α) → List MV → Prop
  | nil : OwnL K m [] []
  | cons {x : List α} {xs : List (List α)} {v : MV} {vs : List MV} (h : Own K x m v) (t : OwnL K m xs vs) : OwnL K m (x :: xs) (v :: vs)

section
variable {α : Type} {K : Enc α} {m : Mem}

theorem OwnL.app1 {x : List α} {v : MV} (h : Own K x m v) : ∀ {xs : List (List α)} {vs : List MV}, OwnL K m xs vs → OwnL K m (xs ++ [x]) (vs ++ [v])
  | _, _, .nil => .cons h .nil
  | _, _, .cons h1 t => .cons h1 (t.app1 h)
theorem OwnL.length : ∀ {xs : List (List α)} {vs : List MV}, OwnL K m xs vs → vs.length = xs.length
  | _, _, .nil => rfl
  | _, _, .cons _ t => by simp [t.length]
theorem own_keep {xs : List α} {v : MV} (h : Own K xs m v) {m' : Mem} (hm : ∀ q, slB v q → m'[q]? = m[q]?) : Own K xs m' v := by
  rcases h with h | ⟨b, g, kc, rfl, h3⟩
  · exact .inl h
  · exact .inr ⟨b, g, kc, rfl, by rw [hm b rfl]; exact h3⟩
theorem OwnL.keep {m' : Mem} : ∀ {xs : List (List α)} {vs : List MV}, OwnL K m xs vs → (∀ v ∈ vs, ∀ q, slB v q → m'[q]? = m[q]?) → OwnL K m' xs vs
  | _, _, .nil, _ => .nil
  | _, _, .cons h t, hm => .cons (own_keep h (hm _ (by simp))) (t.keep fun v hv => hm v (by simp [hv]))
theorem own_lt {xs : List α} {v : MV} (h : Own K xs m v) {q : Nat} (hq : slB v q) : q < m.length := by
  rcases h with ⟨rfl, rfl⟩ | ⟨b, g, kc, rfl, h3⟩
  · cases hq
  · have e : q = b := hq
    subst e
    exact get_lt h3
theorem OwnL.lt : ∀ {xs : List (List α)} {vs : List MV}, OwnL K m xs vs → ∀ v ∈ vs, ∀ q, slB v q → q < m.length
  | _, _, .cons h t, v, hv, q, hq => by
    rcases List.mem_cons.1 hv with rfl | hv
    · exact own_lt h hq
    · exact t.lt v hv q hq
theorem OwnL.tzs : ∀ {xs : List (List α)} {vs : List MV}, OwnL K m xs vs → ∃ vs', Tzs m (vs.length + 1) vs vs' ∧ Sls K xs vs'
  | _, _, .nil => ⟨[], Tzs.nil, .nil⟩
  | _, _, .cons h t => by
    obtain ⟨v', h1, h2⟩ := h.tz
    obtain ⟨vs', h3, h4⟩ := t.tzs
    exact ⟨v' :: vs', Tzs.cons (h1.le (by omega)) h3, .cons h2 h4⟩

/-- The own slice that holds such. -/
def OutV (vs : List MV) (m : Mem) (u : MV) : Prop := (u = .nils ∧ vs = []) ∨ ∃ b g, u = .sl b g 0 vs.length 1 none ∧ m[b]? = some ⟨vs, g, deepVs vs⟩

theorem OutV.keep {vs : List MV} {u : MV} (h : OutV vs m u) {m' : Mem} (hm : ∀ q, slB u q → m'[q]? = m[q]?) : OutV vs m' u := by
  rcases h with h | ⟨b, g, rfl, h3⟩
  · exact .inl h
  · exact .inr ⟨b, g, rfl, by rw [hm b rfl]; exact h3⟩
theorem OutV.lt {vs : List MV} {u : MV} (h : OutV vs m u) {q : Nat} (hq : slB u q) : q < m.length := by
  rcases h with ⟨rfl, rfl⟩ | ⟨b, g, rfl, h3⟩
  · cases hq
  · have e : q = b := hq
    subst e
    exact get_lt h3

theorem deepVs_app : ∀ {xs ys : List MV}, deepVs (xs ++ ys) = (deepVs xs && deepVs ys)
  | [], ys => by simp [deepVs]
  | x :: xs, ys => by simp [deepVs, deepVs_app, Bool.and_assoc]

/-- An append of one row, out of a literal. -/
theorem OutV.add1 {vs : List MV} {u row : MV} (h : OutV vs m u) (hr : (vs.length + 1) * 24 ≤ 35184372088832) :
    ∃ v' m', appM (m ++ [⟨[row], 0, deepVs [row]⟩]) 1 24 u (.sl m.length 0 0 1 1 (some 1)) = some (v', m') ∧ OutV (vs ++ [row]) m' v' ∧ (∀ q, q < m.length → ¬ slB u q → m'[q]? = m[q]?) ∧ (∀ q, slB v' q → slB u q ∨ m.length < q) := by
  have hroom : roomy (vs.length + 1) 24 = true := by simp [roomy, hr]
  have e2 : lenM (.sl m.length 0 0 1 1 (some 1)) = some 1 := rfl
  have hb : (m ++ [(⟨[row], 0, deepVs [row]⟩ : Blk)])[m.length]? = some ⟨[row], 0, deepVs [row]⟩ := get_last _ _
  have e3 : srcCells (m ++ [⟨[row], 0, deepVs [row]⟩]) 1 (.sl m.length 0 0 1 1 (some 1)) = some ([row], deepVs [row]) := by
    simp only [srcCells, blk_of hb rfl, if_true]
    rfl
  rcases h with ⟨rfl, rfl⟩ | ⟨b, g, rfl, h3⟩
  · refine ⟨.sl (m.length + 1) 1 0 1 1 none, (m ++ [⟨[row], 0, deepVs [row]⟩]) ++ [⟨[row], 1, deepVs [row]⟩], ?_, .inr ⟨m.length + 1, 1, rfl, ?_⟩, fun q hq _ => by rw [List.getElem?_append_left (by simp; omega), List.getElem?_append_left hq], fun q hq => .inr (by have : q = m.length + 1 := hq; omega)⟩
    · have hroom' : roomy 1 24 = true := by simpa using hroom
      have e : lenM .nils = some 0 := rfl
      unfold appM
      rw [e2, e3, e]
      simp [hroom']
    · have e : (m ++ [(⟨[row], 0, deepVs [row]⟩ : Blk)]).length = m.length + 1 := by simp
      rw [← e]
      exact get_last _ _
  · have hbl := get_lt h3
    refine ⟨.sl b (g + 1) 0 (vs.length + 1) 1 none, (m ++ [(⟨[row], 0, deepVs [row]⟩ : Blk)]).set b ⟨vs ++ [row], g + 1, deepVs vs && deepVs [row]⟩, ?_, .inr ⟨b, g + 1, by simp, ?_⟩, fun q hq hn => ?_, fun q hq => .inl hq⟩
    · have e : lenM (.sl b g 0 vs.length 1 none) = some vs.length := rfl
      unfold appM
      rw [e2, e3, e]
      simp only [hroom, if_true, blk_of (get_app h3 _) rfl, take_all (show vs.length = vs.length * 1 by omega), fullK]
      simp
    · rw [get_set_self (get_app h3 _), deepVs_app]
    · have : b ≠ q := fun e => hn e.symm
      rw [List.getElem?_set_ne this, List.getElem?_append_left hq]

/-- The result, as a tree. -/
theorem OutV.tz {xs : List (List α)} {vs : List MV} {u : MV} (h : OutV vs m u) (hr : OwnL K m xs vs) : ∃ vs' u', SlV vs' u' ∧ Sls K xs vs' ∧ Tz m (vs.length + 2) u u' := by
  obtain ⟨vs', h1, h2⟩ := hr.tzs
  rcases h with ⟨rfl, rfl⟩ | ⟨b, g, rfl, hb⟩
  · cases hr with | nil =>
    exact ⟨[], .nils, .inl ⟨rfl, rfl⟩, .nil, (Tz.deep rfl).le (by omega)⟩
  · have hl : vs'.length = vs.length := by rw [h2.length, hr.length]
    refine ⟨vs', .lit vs' vs'.length none, .inr ⟨none, rfl⟩, h2, fun n => ?_⟩
    rw [show n + (vs.length + 2) = (n + (vs.length + 1)) + 1 by omega]
    unfold Go.Mini.frz
    rw [if_neg (by simp [deepV])]
    simp only [blk_of hb rfl, take_all (show vs.length = vs.length * 1 by omega)]
    have hn := h1 n
    cases hd : deepVs vs with
    | true =>
      rw [show n + (vs.length + 1) = (n + vs.length) + 1 by omega, frzs_deep hd] at hn
      simp only [Option.some.injEq] at hn
      subst hn
      simp
    | false =>
      simp only [Bool.false_eq_true, if_false, hn, hl]
end

section
variable {m : Mem} {ls : List LRec} {Q : MV → Mem → List LRec → Prop}

theorem cut_succ {l : List Cell} {i j : Nat} (h1 : i ≤ j) (h2 : j < l.length) : cut l i (j + 1) = cut l i j ++ [l[j]] := by
  unfold cut
  rw [show j + 1 - i = (j - i) + 1 by omega, List.take_succ_eq_append_getElem (by simp; omega)]
  congr 2
  simp
  congr 1
  omega

theorem c_Cells15 {first rest : List Cell} {L : List Line} {v w z : MV} (hv : Sl KCell first v) (hw : Sl KCell rest w) (hz : Sl KLine L z) (hl1 : first.length ≤ 1000000) (hl2 : rest.length ≤ 1000000) (hl3 : L.length ≤ 500)
    (hN : firstC first rest L = none → Q (.tup [.nils, .int .i64 2]) m ls) (hS : ∀ out, firstC first rest L = some out → ∀ vs u, SlV vs u → Sls KCell out vs → Q (.tup [u, .int .i64 0]) m ls) : Wc ip f_ref15_Cells [v, w, z] m ls Q := by
  refine wc_fn1 rfl fn_ref15_Cells rfl (by simp [deepVs, hv.deep, hw.deep, hz.deep]) rfl ?_
  cases hal : alikeF first rest with
  | false =>
    have e : firstC first rest L = none := by unfold firstC; rw [if_pos hal]
    repeat' (first
      | refine wo_call rfl rfl rfl (c_Alike15 hal hv hw hl1 ?_)
      | refine z00 ?_ | refine z01 ?_ | refine z02 ?_ | refine z04 ?_ | refine z05 ?_ | refine z08 ?_ | refine zp ?_ | refine z0g ?_ | refine z0h ?_ | refine z0j ?_ | refine z0k ?_
      | refine z0l ?_ | refine z0n ?_ | refine z0o ?_ | refine z0p ?_ | refine z0q ?_ | refine z0r ?_ | refine z0s ?_ | refine z0v ?_ | refine z0z ?_ | refine z12 ?_ | refine z14 ?_
      | refine z15 ?_ | refine z1e ?_ | refine z1f (hk := ?_) | refine z1i ?_ | refine z1j ?_ | refine z1k ?_ | refine z1l ?_ | refine z1m ?_ | refine z1n ?_
      | refine z1o (fun hp => ?_) (fun hp => ?_) | refine z1p (fun hp => ?_) (fun hp => ?_) | refine z1q (fun hp => ?_) (fun hp => ?_) | refine z1r ?_ | refine z1s ?_ | refine z1t ?_
      | refine z1u ?_ | refine z1v ?_ | refine z1w ?_ | refine z1x ?_ | refine z1y ?_ | refine z1z ?_ | refine z20 ?_ | refine z21 ?_ | refine z22 ?_ | refine z23 ?_ | refine z24 ?_
      | refine z25 ?_ | refine z26 ?_ | refine z27 ?_ | refine z28 (fun hp => ?_) (fun hp => ?_) | refine z29 (fun hp => ?_) (fun hp => ?_) | refine z2a ?_ | refine z2b ?_)
    exact fin1_deep rfl (hN e)
  | true =>
    have hlen := alikeF_len hal
    have e : firstC first rest L = cellsG rest first L := by unfold firstC; rw [if_neg (by rw [hal]; simp)]
    rw [e] at hN hS
    -- one line's cells
    have inner : ∀ (i : Nat) (hi : i < L.length) (y : Line), L[i] = y → 0 ≤ y.fr → y.fr ≤ y.to → y.to ≤ first.length → ∀ (u : MV) (m0 : Mem) (src : List Cell), (i = 0 → src = first) → (i ≠ 0 → src = rest) → ∀ (d k : Nat), (k : Int) + d = y.to → y.fr ≤ k → ∀ (m : Mem) (row : MV), Hold KCell m0.length (cut src y.fr.toNat k) m row → m0.length ≤ m.length → (∀ q, q < m0.length → m[q]? = m0[q]?) →
        ∀ {R : Ex → As → Mem → List LRec → Prop}, (∀ m' row', Hold KCell m0.length (cut src y.fr.toNat y.to.toNat) m' row' → m0.length ≤ m'.length → (∀ q, q < m0.length → m'[q]? = m0[q]?) → R (.exit 2) [(0, v), (1, w), (2, z), (8, u), (9, .int .i64 i), (10, row')] m' []) →
        Wx ip i_ref15_Cells.nt (.loop (lv [0, 1, 2, 8, 9, 10, 11] 85) ref15_Cells_b0) [(0, v), (1, w), (2, z), (8, u), (9, .int .i64 i), (10, row), (11, .int .i64 k)] m [] R := by
      intro i hi y hy y1 y2 y3 u m0 src hs0 hs1 d
      have hyt : (L[(i : Int).toNat]).to = y.to := by rw [← hy]; rfl
      induction d with
      | zero =>
        intro k hk hfk m row hr hm hsame R hR
        have e : k = y.to.toNat := by omega
        subst e
        refine wx_roundL rfl ?_
        repeat' (first
          | refine wx_exitL [0, 1, 2, 8, 9, 10] ?_
          | refine wo_loadc (K := KLine) (u := .int .i64 y.to) rfl hi (congrArg (fun n => some (MV.int .i64 n)) hyt) rfl ?_
          | refine z00 ?_ | refine z01 ?_ | refine z02 ?_ | refine z04 ?_ | refine z05 ?_ | refine z08 ?_ | refine zp ?_ | refine z0g ?_ | refine z0h ?_ | refine z0j ?_ | refine z0k ?_
          | refine z0l ?_ | refine z0n ?_ | refine z0o ?_ | refine z0p ?_ | refine z0q ?_ | refine z0r ?_ | refine z0s ?_ | refine z0v ?_ | refine z0z ?_ | refine z12 ?_ | refine z14 ?_
          | refine z15 ?_ | refine z1e ?_ | refine z1f (hk := ?_) | refine z1i ?_ | refine z1j ?_ | refine z1k ?_ | refine z1l ?_ | refine z1m ?_ | refine z1n ?_
          | refine z1o (fun hp => ?_) (fun hp => ?_) | refine z1p (fun hp => ?_) (fun hp => ?_) | refine z1q (fun hp => ?_) (fun hp => ?_) | refine z1r ?_ | refine z1s ?_ | refine z1t ?_
          | refine z1u ?_ | refine z1v ?_ | refine z1w ?_ | refine z1x ?_ | refine z1y ?_ | refine z1z ?_ | refine z20 ?_ | refine z21 ?_ | refine z22 ?_ | refine z23 ?_ | refine z24 ?_
          | refine z25 ?_ | refine z26 ?_ | refine z27 ?_ | refine z28 (fun hp => ?_) (fun hp => ?_) | refine z29 (fun hp => ?_) (fun hp => ?_) | refine z2a ?_ | refine z2b ?_)
        exact hR _ _ hr hm hsame
      | succ d ih =>
        intro k hk hfk m row hr hm hsame R hR
        have hk1 : k < first.length := by omega
        have hk2 : k < rest.length := by omega
        have hks : k < src.length := by
          by_cases h : i = 0
          · rw [hs0 h]; exact hk1
          · rw [hs1 h]; exact hk2
        have hcut := cut_succ (l := src) (i := y.fr.toNat) (j := k) (by omega) hks
        have hcl := cut_len (l := src) (i := y.fr.toNat) (j := k) (by omega) (by omega)
        have hsl : src.length ≤ 1000000 := by
          by_cases h : i = 0
          · rw [hs0 h]; exact hl1
          · rw [hs1 h]; exact hl2
        obtain ⟨v2, m2, a1, a2, a3, a4⟩ := (hr.push ⟨src[k].mv, 0, true⟩).add1 (bytes := 40) (sz := 6) (y := src[k]) (cs := src[k].mv) (kc := some 1) (by simp; omega) (by omega) rfl rfl
        have a4' : m0.length ≤ m2.length := by simp at a4; omega
        have nx := ih (k + 1) (by omega) (by omega) m2 v2 (by rw [hcut]; exact a2) a4' (fun q hq => by rw [a3 q hq, List.getElem?_append_left (by omega)]; exact hsame q hq) hR
        refine wx_roundL rfl ?_
        by_cases h : i = 0
        · have hs := hs0 h
          subst hs
          have h' : (i : Int) = 0 := by omega
          repeat' (first
            | refine wo_loadc (K := KLine) (u := .int .i64 y.to) rfl hi (congrArg (fun n => some (MV.int .i64 n)) hyt) rfl ?_
            | refine wo_app rfl rfl a1 rfl ?_
            | refine z00 ?_ | refine z01 ?_ | refine z02 ?_ | refine z04 ?_ | refine z05 ?_ | refine z08 ?_ | refine zp ?_ | refine z0g ?_ | refine z0h ?_ | refine z0j ?_ | refine z0k ?_
            | refine z0l ?_ | refine z0n ?_ | refine z0o ?_ | refine z0p ?_ | refine z0q ?_ | refine z0r ?_ | refine z0s ?_ | refine z0v ?_ | refine z0z ?_ | refine z12 ?_ | refine z14 ?_
            | refine z15 ?_ | refine z1e ?_ | refine z1f (hk := ?_) | refine z1i ?_ | refine z1j ?_ | refine z1k ?_ | refine z1l ?_ | refine z1m ?_ | refine z1n ?_
            | refine z1o (fun hp => ?_) (fun hp => ?_) | refine z1p (fun hp => ?_) (fun hp => ?_) | refine z1q (fun hp => ?_) (fun hp => ?_) | refine z1r ?_ | refine z1s ?_ | refine z1t ?_
            | refine z1u ?_ | refine z1v ?_ | refine z1w ?_ | refine z1x ?_ | refine z1y ?_ | refine z1z ?_ | refine z20 ?_ | refine z21 ?_ | refine z22 ?_ | refine z23 ?_ | refine z24 ?_
            | refine z25 ?_ | refine z26 ?_ | refine z27 ?_ | refine z28 (fun hp => ?_) (fun hp => ?_) | refine z29 (fun hp => ?_) (fun hp => ?_) | refine z2a ?_ | refine z2b ?_)
          exact wx_loopL nx
        · have hs := hs1 h
          subst hs
          have h' : ¬ (i : Int) = 0 := by omega
          repeat' (first
            | refine wo_loadc (K := KLine) (u := .int .i64 y.to) rfl hi (congrArg (fun n => some (MV.int .i64 n)) hyt) rfl ?_
            | refine wo_app rfl rfl a1 rfl ?_
            | refine z00 ?_ | refine z01 ?_ | refine z02 ?_ | refine z04 ?_ | refine z05 ?_ | refine z08 ?_ | refine zp ?_ | refine z0g ?_ | refine z0h ?_ | refine z0j ?_ | refine z0k ?_
            | refine z0l ?_ | refine z0n ?_ | refine z0o ?_ | refine z0p ?_ | refine z0q ?_ | refine z0r ?_ | refine z0s ?_ | refine z0v ?_ | refine z0z ?_ | refine z12 ?_ | refine z14 ?_
            | refine z15 ?_ | refine z1e ?_ | refine z1f (hk := ?_) | refine z1i ?_ | refine z1j ?_ | refine z1k ?_ | refine z1l ?_ | refine z1m ?_ | refine z1n ?_
            | refine z1o (fun hp => ?_) (fun hp => ?_) | refine z1p (fun hp => ?_) (fun hp => ?_) | refine z1q (fun hp => ?_) (fun hp => ?_) | refine z1r ?_ | refine z1s ?_ | refine z1t ?_
            | refine z1u ?_ | refine z1v ?_ | refine z1w ?_ | refine z1x ?_ | refine z1y ?_ | refine z1z ?_ | refine z20 ?_ | refine z21 ?_ | refine z22 ?_ | refine z23 ?_ | refine z24 ?_
            | refine z25 ?_ | refine z26 ?_ | refine z27 ?_ | refine z28 (fun hp => ?_) (fun hp => ?_) | refine z29 (fun hp => ?_) (fun hp => ?_) | refine z2a ?_ | refine z2b ?_)
          exact wx_loopL nx
    have key : ∀ (k i : Nat), i + k = L.length → ∀ (m : Mem) (u : MV) (vs : List MV) (rows : List (List Cell)), OutV vs m u → OwnL KCell m rows vs → (∀ v ∈ vs, ∀ q, slB v q → ¬ slB u q) → rows.length = i → ∀ {R : Ex → As → Mem → List LRec → Prop},
        (cellsG rest (if i = 0 then first else rest) (L.drop i) = none → ∀ m', R .ret [(6, .nils), (7, .int .i64 2)] m' []) → (∀ out, cellsG rest (if i = 0 then first else rest) (L.drop i) = some out → ∀ m' u' vs', OutV vs' m' u' → OwnL KCell m' (rows ++ out) vs' → R (.exit 0) [(8, u')] m' []) →
        Wx ip i_ref15_Cells.nt (.loop (lv [0, 1, 2, 8, 9] 85) ref15_Cells_b1) [(0, v), (1, w), (2, z), (8, u), (9, .int .i64 i)] m [] R := by
      intro k
      induction k with
      | zero =>
        intro i hk m u vs rows hu hr hd hn R h0 h1
        rw [List.drop_eq_nil_of_le (by omega)] at h1
        refine wx_roundL rfl ?_
        repeat' (first
          | refine wx_exitL [8] ?_
          | refine z00 ?_ | refine z01 ?_ | refine z02 ?_ | refine z04 ?_ | refine z05 ?_ | refine z08 ?_ | refine zp ?_ | refine z0g ?_ | refine z0h ?_ | refine z0j ?_ | refine z0k ?_
          | refine z0l ?_ | refine z0n ?_ | refine z0o ?_ | refine z0p ?_ | refine z0q ?_ | refine z0r ?_ | refine z0s ?_ | refine z0v ?_ | refine z0z ?_ | refine z12 ?_ | refine z14 ?_
          | refine z15 ?_ | refine z1e ?_ | refine z1f (hk := ?_) | refine z1i ?_ | refine z1j ?_ | refine z1k ?_ | refine z1l ?_ | refine z1m ?_ | refine z1n ?_
          | refine z1o (fun hp => ?_) (fun hp => ?_) | refine z1p (fun hp => ?_) (fun hp => ?_) | refine z1q (fun hp => ?_) (fun hp => ?_) | refine z1r ?_ | refine z1s ?_ | refine z1t ?_
          | refine z1u ?_ | refine z1v ?_ | refine z1w ?_ | refine z1x ?_ | refine z1y ?_ | refine z1z ?_ | refine z20 ?_ | refine z21 ?_ | refine z22 ?_ | refine z23 ?_ | refine z24 ?_
          | refine z25 ?_ | refine z26 ?_ | refine z27 ?_ | refine z28 (fun hp => ?_) (fun hp => ?_) | refine z29 (fun hp => ?_) (fun hp => ?_) | refine z2a ?_ | refine z2b ?_)
        exact h1 [] rfl _ _ _ hu (by simpa using hr)
      | succ k ih =>
        intro i hk m u vs rows hu hr hd hn R h0 h1
        have hlt : i < L.length := by omega
        obtain ⟨src, hsrc⟩ : ∃ src, src = if i = 0 then first else rest := ⟨_, rfl⟩
        have hs0 : i = 0 → src = first := fun h => by rw [hsrc, if_pos h]
        have hs1 : i ≠ 0 → src = rest := fun h => by rw [hsrc, if_neg h]
        have hsl : src.length = first.length := by
          by_cases h : i = 0
          · rw [hs0 h]
          · rw [hs1 h, hlen]
        rw [← hsrc, List.drop_eq_getElem_cons hlt] at h0 h1
        simp only [cellsG] at h0 h1
        generalize hye : L[i] = y at h0 h1
        have hyf : (L[(i : Int).toNat]).fr = y.fr := by rw [← hye]; rfl
        have hyt : (L[(i : Int).toNat]).to = y.to := by rw [← hye]; rfl
        refine wx_roundL rfl ?_
        by_cases hbc : badCut src y
        · rw [if_pos hbc] at h0
          unfold badCut at hbc
          by_cases c1 : y.fr < 0
          · repeat' (first
              | refine wx_retL [6, 7] ?_
              | refine wo_loadc (K := KLine) (o := 0) (u := .int .i64 y.fr) rfl hlt (congrArg (fun n => some (MV.int .i64 n)) hyf) rfl ?_
              | refine wo_loadc (K := KLine) (o := 1) (u := .int .i64 y.to) rfl hlt (congrArg (fun n => some (MV.int .i64 n)) hyt) rfl ?_
              | refine z00 ?_ | refine z01 ?_ | refine z02 ?_ | refine z04 ?_ | refine z05 ?_ | refine z08 ?_ | refine zp ?_ | refine z0g ?_ | refine z0h ?_ | refine z0j ?_ | refine z0k ?_
              | refine z0l ?_ | refine z0n ?_ | refine z0o ?_ | refine z0p ?_ | refine z0q ?_ | refine z0r ?_ | refine z0s ?_ | refine z0v ?_ | refine z0z ?_ | refine z12 ?_ | refine z14 ?_
              | refine z15 ?_ | refine z1e ?_ | refine z1f (hk := ?_) | refine z1i ?_ | refine z1j ?_ | refine z1k ?_ | refine z1l ?_ | refine z1m ?_ | refine z1n ?_
              | refine z1o (fun hp => ?_) (fun hp => ?_) | refine z1p (fun hp => ?_) (fun hp => ?_) | refine z1q (fun hp => ?_) (fun hp => ?_) | refine z1r ?_ | refine z1s ?_ | refine z1t ?_
              | refine z1u ?_ | refine z1v ?_ | refine z1w ?_ | refine z1x ?_ | refine z1y ?_ | refine z1z ?_ | refine z20 ?_ | refine z21 ?_ | refine z22 ?_ | refine z23 ?_ | refine z24 ?_
              | refine z25 ?_ | refine z26 ?_ | refine z27 ?_ | refine z28 (fun hp => ?_) (fun hp => ?_) | refine z29 (fun hp => ?_) (fun hp => ?_) | refine z2a ?_ | refine z2b ?_)
            exact h0 rfl _
          · by_cases c2 : y.to < y.fr
            · repeat' (first
                | refine wx_retL [6, 7] ?_
                | refine wo_loadc (K := KLine) (o := 0) (u := .int .i64 y.fr) rfl hlt (congrArg (fun n => some (MV.int .i64 n)) hyf) rfl ?_
                | refine wo_loadc (K := KLine) (o := 1) (u := .int .i64 y.to) rfl hlt (congrArg (fun n => some (MV.int .i64 n)) hyt) rfl ?_
                | refine z00 ?_ | refine z01 ?_ | refine z02 ?_ | refine z04 ?_ | refine z05 ?_ | refine z08 ?_ | refine zp ?_ | refine z0g ?_ | refine z0h ?_ | refine z0j ?_ | refine z0k ?_
                | refine z0l ?_ | refine z0n ?_ | refine z0o ?_ | refine z0p ?_ | refine z0q ?_ | refine z0r ?_ | refine z0s ?_ | refine z0v ?_ | refine z0z ?_ | refine z12 ?_ | refine z14 ?_
                | refine z15 ?_ | refine z1e ?_ | refine z1f (hk := ?_) | refine z1i ?_ | refine z1j ?_ | refine z1k ?_ | refine z1l ?_ | refine z1m ?_ | refine z1n ?_
                | refine z1o (fun hp => ?_) (fun hp => ?_) | refine z1p (fun hp => ?_) (fun hp => ?_) | refine z1q (fun hp => ?_) (fun hp => ?_) | refine z1r ?_ | refine z1s ?_ | refine z1t ?_
                | refine z1u ?_ | refine z1v ?_ | refine z1w ?_ | refine z1x ?_ | refine z1y ?_ | refine z1z ?_ | refine z20 ?_ | refine z21 ?_ | refine z22 ?_ | refine z23 ?_ | refine z24 ?_
                | refine z25 ?_ | refine z26 ?_ | refine z27 ?_ | refine z28 (fun hp => ?_) (fun hp => ?_) | refine z29 (fun hp => ?_) (fun hp => ?_) | refine z2a ?_ | refine z2b ?_)
              exact h0 rfl _
            · have c3 : (first.length : Int) < y.to := by omega
              repeat' (first
                | refine wx_retL [6, 7] ?_
                | refine wo_loadc (K := KLine) (o := 0) (u := .int .i64 y.fr) rfl hlt (congrArg (fun n => some (MV.int .i64 n)) hyf) rfl ?_
                | refine wo_loadc (K := KLine) (o := 1) (u := .int .i64 y.to) rfl hlt (congrArg (fun n => some (MV.int .i64 n)) hyt) rfl ?_
                | refine z00 ?_ | refine z01 ?_ | refine z02 ?_ | refine z04 ?_ | refine z05 ?_ | refine z08 ?_ | refine zp ?_ | refine z0g ?_ | refine z0h ?_ | refine z0j ?_ | refine z0k ?_
                | refine z0l ?_ | refine z0n ?_ | refine z0o ?_ | refine z0p ?_ | refine z0q ?_ | refine z0r ?_ | refine z0s ?_ | refine z0v ?_ | refine z0z ?_ | refine z12 ?_ | refine z14 ?_
                | refine z15 ?_ | refine z1e ?_ | refine z1f (hk := ?_) | refine z1i ?_ | refine z1j ?_ | refine z1k ?_ | refine z1l ?_ | refine z1m ?_ | refine z1n ?_
                | refine z1o (fun hp => ?_) (fun hp => ?_) | refine z1p (fun hp => ?_) (fun hp => ?_) | refine z1q (fun hp => ?_) (fun hp => ?_) | refine z1r ?_ | refine z1s ?_ | refine z1t ?_
                | refine z1u ?_ | refine z1v ?_ | refine z1w ?_ | refine z1x ?_ | refine z1y ?_ | refine z1z ?_ | refine z20 ?_ | refine z21 ?_ | refine z22 ?_ | refine z23 ?_ | refine z24 ?_
                | refine z25 ?_ | refine z26 ?_ | refine z27 ?_ | refine z28 (fun hp => ?_) (fun hp => ?_) | refine z29 (fun hp => ?_) (fun hp => ?_) | refine z2a ?_ | refine z2b ?_)
              exact h0 rfl _
        · rw [if_neg hbc] at h0 h1
          unfold badCut at hbc
          obtain ⟨c1, c2, c3⟩ : 0 ≤ y.fr ∧ y.fr ≤ y.to ∧ y.to ≤ first.length := by omega
          clear hbc
          have hyn : y.fr = (y.fr.toNat : Int) := by omega
          have hcut0 : cut src y.fr.toNat y.fr.toNat = [] := by unfold cut; simp
          repeat' (first
            | refine wo_loadc (K := KLine) (o := 0) (u := .int .i64 (y.fr.toNat : Int)) rfl hlt (congrArg (fun n => some (MV.int .i64 n)) (hyf.trans hyn)) rfl ?_
            | refine wo_loadc (K := KLine) (o := 1) (u := .int .i64 y.to) rfl hlt (congrArg (fun n => some (MV.int .i64 n)) hyt) rfl ?_
            | refine z00 ?_ | refine z01 ?_ | refine z02 ?_ | refine z04 ?_ | refine z05 ?_ | refine z08 ?_ | refine zp ?_ | refine z0g ?_ | refine z0h ?_ | refine z0j ?_ | refine z0k ?_
            | refine z0l ?_ | refine z0n ?_ | refine z0o ?_ | refine z0p ?_ | refine z0q ?_ | refine z0r ?_ | refine z0s ?_ | refine z0v ?_ | refine z0z ?_ | refine z12 ?_ | refine z14 ?_
            | refine z15 ?_ | refine z1e ?_ | refine z1f (hk := ?_) | refine z1i ?_ | refine z1j ?_ | refine z1k ?_ | refine z1l ?_ | refine z1m ?_ | refine z1n ?_
            | refine z1o (fun hp => ?_) (fun hp => ?_) | refine z1p (fun hp => ?_) (fun hp => ?_) | refine z1q (fun hp => ?_) (fun hp => ?_) | refine z1r ?_ | refine z1s ?_ | refine z1t ?_
            | refine z1u ?_ | refine z1v ?_ | refine z1w ?_ | refine z1x ?_ | refine z1y ?_ | refine z1z ?_ | refine z20 ?_ | refine z21 ?_ | refine z22 ?_ | refine z23 ?_ | refine z24 ?_
            | refine z25 ?_ | refine z26 ?_ | refine z27 ?_ | refine z28 (fun hp => ?_) (fun hp => ?_) | refine z29 (fun hp => ?_) (fun hp => ?_) | refine z2a ?_ | refine z2b ?_)
          refine wx_loopL ?_
          refine inner i hlt y hye c1 c2 c3 u m src hs0 hs1 (y.to.toNat - y.fr.toNat) y.fr.toNat (by omega) (by omega) m .nils (by rw [hcut0]; exact .nil) (Nat.le_refl _) (fun _ _ => rfl) ?_
          intro m1 row hrow hm1 hsame
          have hu1 := hu.keep (m' := m1) fun q hq => hsame q (hu.lt hq)
          have hr1 := hr.keep (m' := m1) fun v hv q hq => hsame q (hr.lt v hv q hq)
          have hvl := hr.length
          obtain ⟨v2, m2, a1, a2, a3, a4⟩ := hu1.add1 (row := row) (by omega)
          have hrow2 := own_keep hrow.own (m' := m2) fun q hq => a3 q (hrow.lt hq).2 (fun h => by have := hu.lt h; have := (hrow.lt hq).1; omega)
          have hr2 := hr1.keep (m' := m2) fun v hv q hq => a3 q (hr1.lt v hv q hq) (hd v hv q hq)
          repeat' (first
            | refine wo_blitm (cs := [row]) (fill1 rfl hrow.cells) rfl rfl ?_
            | refine wo_app rfl rfl a1 rfl ?_
            | refine z00 ?_ | refine z01 ?_ | refine z02 ?_ | refine z04 ?_ | refine z05 ?_ | refine z08 ?_ | refine zp ?_ | refine z0g ?_ | refine z0h ?_ | refine z0j ?_ | refine z0k ?_
            | refine z0l ?_ | refine z0n ?_ | refine z0o ?_ | refine z0p ?_ | refine z0q ?_ | refine z0r ?_ | refine z0s ?_ | refine z0v ?_ | refine z0z ?_ | refine z12 ?_ | refine z14 ?_
            | refine z15 ?_ | refine z1e ?_ | refine z1f (hk := ?_) | refine z1i ?_ | refine z1j ?_ | refine z1k ?_ | refine z1l ?_ | refine z1m ?_ | refine z1n ?_
            | refine z1o (fun hp => ?_) (fun hp => ?_) | refine z1p (fun hp => ?_) (fun hp => ?_) | refine z1q (fun hp => ?_) (fun hp => ?_) | refine z1r ?_ | refine z1s ?_ | refine z1t ?_
            | refine z1u ?_ | refine z1v ?_ | refine z1w ?_ | refine z1x ?_ | refine z1y ?_ | refine z1z ?_ | refine z20 ?_ | refine z21 ?_ | refine z22 ?_ | refine z23 ?_ | refine z24 ?_
            | refine z25 ?_ | refine z26 ?_ | refine z27 ?_ | refine z28 (fun hp => ?_) (fun hp => ?_) | refine z29 (fun hp => ?_) (fun hp => ?_) | refine z2a ?_ | refine z2b ?_)
          refine wx_loopL ?_
          refine ih (i + 1) (by omega) m2 v2 (vs ++ [row]) (rows ++ [cut src y.fr.toNat y.to.toNat]) a2 (hr2.app1 hrow2) ?_ (by simp; omega) ?_ ?_
          · intro x hx q hq h
            rcases a4 q h with h | h
            · rcases List.mem_append.1 hx with hx | hx
              · exact hd x hx q hq h
              · simp only [List.mem_singleton] at hx
                subst hx
                have := hu.lt h
                have := (hrow.lt hq).1
                omega
            · rcases List.mem_append.1 hx with hx | hx
              · have := hr.lt x hx q hq; omega
              · simp only [List.mem_singleton] at hx
                subst hx
                have := (hrow.lt hq).2
                omega
          · intro h m'
            rw [if_neg (by omega)] at h
            exact h0 (by rw [h]; rfl) m'
          · intro out h m' u' vs' g1 g2
            rw [if_neg (by omega)] at h
            exact h1 _ (by rw [h]; rfl) m' u' vs' g1 (by simpa using g2)
    repeat' (first
      | refine wo_call rfl rfl rfl (c_Alike15 hal hv hw hl1 ?_)
      | refine z00 ?_ | refine z01 ?_ | refine z02 ?_ | refine z04 ?_ | refine z05 ?_ | refine z08 ?_ | refine zp ?_ | refine z0g ?_ | refine z0h ?_ | refine z0j ?_ | refine z0k ?_
      | refine z0l ?_ | refine z0n ?_ | refine z0o ?_ | refine z0p ?_ | refine z0q ?_ | refine z0r ?_ | refine z0s ?_ | refine z0v ?_ | refine z0z ?_ | refine z12 ?_ | refine z14 ?_
      | refine z15 ?_ | refine z1e ?_ | refine z1f (hk := ?_) | refine z1i ?_ | refine z1j ?_ | refine z1k ?_ | refine z1l ?_ | refine z1m ?_ | refine z1n ?_
      | refine z1o (fun hp => ?_) (fun hp => ?_) | refine z1p (fun hp => ?_) (fun hp => ?_) | refine z1q (fun hp => ?_) (fun hp => ?_) | refine z1r ?_ | refine z1s ?_ | refine z1t ?_
      | refine z1u ?_ | refine z1v ?_ | refine z1w ?_ | refine z1x ?_ | refine z1y ?_ | refine z1z ?_ | refine z20 ?_ | refine z21 ?_ | refine z22 ?_ | refine z23 ?_ | refine z24 ?_
      | refine z25 ?_ | refine z26 ?_ | refine z27 ?_ | refine z28 (fun hp => ?_) (fun hp => ?_) | refine z29 (fun hp => ?_) (fun hp => ?_) | refine z2a ?_ | refine z2b ?_)
    refine wx_loopL ?_
    refine key L.length 0 (by omega) _ .nils [] [] (.inl ⟨rfl, rfl⟩) .nil (fun v h => by cases h) rfl ?_ ?_
    · intro h m'
      repeat' (first | refine then_r ?_ | refine block_r ?_)
      refine end_r rfl ?_
      exact fin1_deep rfl (hN h)
    · intro out h m' u' vs' g1 g2
      have h' : cellsG rest first L = some out := h
      have g2' : OwnL KCell m' out vs' := by simpa using g2
      obtain ⟨ws, u2, g3, g4, g5⟩ := g1.tz g2'
      have hol : out.length ≤ L.length := by
        have : ∀ (L : List Line) (row : List Cell) (out : List (List Cell)), cellsG rest row L = some out → out.length = L.length := by
          intro L
          induction L with
          | nil => intro row out h; simp [cellsG] at h; subst h; rfl
          | cons y L ih =>
            intro row out h
            simp only [cellsG] at h
            split at h
            · cases h
            · cases hc : cellsG rest rest L with
              | none => rw [hc] at h; cases h
              | some t => rw [hc] at h; simp at h; subst h; simp [ih _ _ hc]
        rw [this _ _ _ h']; exact Nat.le_refl _
      have hvl := g2'.length
      repeat' (first
        | refine z00 ?_ | refine z01 ?_ | refine z02 ?_ | refine z04 ?_ | refine z05 ?_ | refine z08 ?_ | refine zp ?_ | refine z0g ?_ | refine z0h ?_ | refine z0j ?_ | refine z0k ?_
        | refine z0l ?_ | refine z0n ?_ | refine z0o ?_ | refine z0p ?_ | refine z0q ?_ | refine z0r ?_ | refine z0s ?_ | refine z0v ?_ | refine z0z ?_ | refine z12 ?_ | refine z14 ?_
        | refine z15 ?_ | refine z1e ?_ | refine z1f (hk := ?_) | refine z1i ?_ | refine z1j ?_ | refine z1k ?_ | refine z1l ?_ | refine z1m ?_ | refine z1n ?_
        | refine z1o (fun hp => ?_) (fun hp => ?_) | refine z1p (fun hp => ?_) (fun hp => ?_) | refine z1q (fun hp => ?_) (fun hp => ?_) | refine z1r ?_ | refine z1s ?_ | refine z1t ?_
        | refine z1u ?_ | refine z1v ?_ | refine z1w ?_ | refine z1x ?_ | refine z1y ?_ | refine z1z ?_ | refine z20 ?_ | refine z21 ?_ | refine z22 ?_ | refine z23 ?_ | refine z24 ?_
        | refine z25 ?_ | refine z26 ?_ | refine z27 ?_ | refine z28 (fun hp => ?_) (fun hp => ?_) | refine z29 (fun hp => ?_) (fun hp => ?_) | refine z2a ?_ | refine z2b ?_)
      have hT : Tz m' (vs'.length + 4) (.tup [u', .int .i64 0]) (.tup [u2, .int .i64 0]) := Tz.tup (Tzs.cons (g5.le (by omega)) (Tzs.cons ((Tz.deep rfl).le (by omega)) (Tzs.nil.le (by omega))))
      obtain ⟨n, hn⟩ := fuel (vs'.length + 4) (by omega)
      exact ⟨by rw [hn]; exact hT n, hS out h' ws u2 g3 g4⟩

end
end Go.Proofs.Ytnekgoanadbmmaa
