/-
The cells of lines: first.Cells; the document's answers of law15.
-/
import Derived.Test.YtnekgoanadbmmaaFd
import Derived.KernelRfl
namespace Go.Proofs.Ytnekgoanadbmmaa
open Go.Mini
set_option linter.unusedSimpArgs false
set_option linter.unusedVariables false
set_option maxHeartbeats 4000000

/-! ### Slices of slices -/

inductive Sls {α : Type} (K : Enc α) : List (List α) → List MV → Prop
  | nil : Sls K [] []
  | cons {x : List α} {xs : List (List α)} {v : MV} {vs : List MV} (h : Sl K x v) (t : Sls K xs vs) : Sls K (x :: xs) (v :: vs)

theorem Sls.app1 {α : Type} {K : Enc α} {x : List α} {v : MV} (h : Sl K x v) : ∀ {xs : List (List α)} {vs : List MV}, Sls K xs vs → Sls K (xs ++ [x]) (vs ++ [v])
  | _, _, .nil => .cons h .nil
  | _, _, .cons h1 t => .cons h1 (t.app1 h)
theorem Sls.length {α : Type} {K : Enc α} : ∀ {xs : List (List α)} {vs : List MV}, Sls K xs vs → vs.length = xs.length
  | _, _, .nil => rfl
  | _, _, .cons _ t => by simp [t.length]
theorem Sls.deep {α : Type} {K : Enc α} : ∀ {xs : List (List α)} {vs : List MV}, Sls K xs vs → deepVs vs = true
  | _, _, .nil => rfl
  | _, _, .cons h t => by simp [deepVs, h.deep, t.deep]
theorem Sls.get {α : Type} {K : Enc α} : ∀ {xs : List (List α)} {vs : List MV}, Sls K xs vs → ∀ (i : Nat) (h : i < xs.length) (h' : i < vs.length), Sl K xs[i] vs[i]
  | _, _, .cons h t, 0, _, _ => h
  | _, _, .cons h t, i + 1, h1, h2 => t.get i (by simpa using h1) (by simpa using h2)

/-- A slice of such, read. -/
def SlV (vs : List MV) (u : MV) : Prop := (u = .nils ∧ vs = []) ∨ ∃ kc, u = .lit vs vs.length kc
theorem SlV.deep {vs : List MV} {u : MV} (h : SlV vs u) : deepV u = true := by
  rcases h with ⟨rfl, rfl⟩ | ⟨kc, rfl⟩ <;> simp [deepV]
theorem SlV.len {vs : List MV} {u : MV} (h : SlV vs u) : lenM u = some vs.length := by
  rcases h with ⟨rfl, rfl⟩ | ⟨kc, rfl⟩ <;> rfl

/-- The own slice of such, appended to. -/
def HoldV (N : Nat) (vs : List MV) (m : Mem) (v : MV) : Prop :=
  (v = .nils ∧ vs = []) ∨ ∃ b g, N ≤ b ∧ v = .sl b g 0 vs.length 1 none ∧ m[b]? = some ⟨vs, g, true⟩

section
variable {P : IProg} {nt : Nat} {A : As} {m : Mem} {ls : List LRec} {d : Option Nat} {l : List IOper}

theorem HoldV.push {N : Nat} {xs : List MV} {v : MV} (h : HoldV N xs m v) (k : Blk) : HoldV N xs (m ++ [k]) v := by
  rcases h with h | ⟨b, g, h1, h2, h3⟩
  · exact .inl h
  · exact .inr ⟨b, g, h1, h2, get_app h3 k⟩
theorem HoldV.add1 {N bytes : Nat} {xs : List MV} {y v : MV} {kc : Option Nat} (h : HoldV N xs m v) (hN : N ≤ m.length) (hr : (xs.length + 1) * bytes ≤ 35184372088832) :
    ∃ v' m', appM m 1 bytes v (.lit [y] 1 kc) = some (v', m') ∧ (deepV y = true → HoldV N (xs ++ [y]) m' v') := by
  have hroom : roomy (xs.length + 1) bytes = true := by simp [roomy, hr]
  have e2 : lenM (.lit [y] 1 kc) = some 1 := rfl
  have e3 : srcCells m 1 (.lit [y] 1 kc) = some ([y], true) := rfl
  rcases h with ⟨rfl, rfl⟩ | ⟨b, g, h1, rfl, h3⟩
  · refine ⟨.sl m.length 1 0 1 1 none, m ++ [⟨[y], 1, true⟩], ?_, fun _ => .inr ⟨m.length, 1, hN, rfl, by simp⟩⟩
    have hroom' : roomy 1 bytes = true := by simpa using hroom
    have e : lenM .nils = some 0 := rfl
    unfold appM
    rw [e2, e3, e]
    simp [hroom']
  · refine ⟨.sl b (g + 1) 0 (xs.length + 1) 1 none, m.set b ⟨xs ++ [y], g + 1, true⟩, ?_, fun _ => .inr ⟨b, g + 1, h1, by simp, ?_⟩⟩
    · have e : lenM (.sl b g 0 xs.length 1 none) = some xs.length := rfl
      unfold appM
      rw [e2, e3, e]
      simp only [hroom, if_true, blk_of h3 rfl, take_all (show xs.length = xs.length * 1 by omega), fullK]
      simp
    · rw [List.getElem?_set_self (List.getElem?_eq_some_iff.1 h3).1]
theorem HoldV.tz {N : Nat} {xs : List MV} {v : MV} (h : HoldV N xs m v) : ∃ u, SlV xs u ∧ ∀ n, Go.Mini.frz m (n + 1) v = some u := by
  rcases h with ⟨rfl, rfl⟩ | ⟨b, g, _, rfl, hb⟩
  · exact ⟨.nils, .inl ⟨rfl, rfl⟩, fun n => frz_deep rfl⟩
  · refine ⟨.lit xs xs.length none, .inr ⟨none, rfl⟩, fun n => ?_⟩
    unfold Go.Mini.frz
    rw [if_neg (by simp [deepV])]
    simp only [blk_of hb rfl, take_all (show xs.length = xs.length * 1 by omega), if_true]

theorem fill1 {x : Opd} {v z : MV} (hx : lk A x = some v) (hc : cellsOf v = some [v]) : fillA A [z] [(0, 1, x)] = some [v] := by
  simp [fillA, hx, hc, setAt]
  rfl

theorem Tz.tup {k : Nat} {vs vs' : List MV} (h : Tzs m (k + 1) vs vs') : Tz m (k + 2) (.tup vs) (.tup vs') := by
  intro n
  by_cases hc : deepV (.tup vs) = true
  · have hv : deepVs vs = true := by simpa [deepV] using hc
    have e2 := h n
    rw [show n + (k + 1) = (n + k) + 1 by omega, frzs_deep hv] at e2
    simp only [Option.some.injEq] at e2
    subst e2
    exact frz_deep hc
  · rw [show n + (k + 2) = (n + (k + 1)) + 1 by omega]
    unfold frz
    rw [if_neg hc]
    simp only [h n]

/-- An element that is known. -/
theorem wo_loadeE {α : Type} {K : Enc α} {Q : As → Mem → List LRec → Prop} {a : Opd} {n : Nat} {xs : List α} {i : Nat} {hi : i < xs.length} {y : α} (he : xs[i]'hi = y) (ha : lk A a = some (.pimm (flat K.E xs) (i * K.sz + 0))) (hn : K.sz = n) (hd : okD nt d = true)
    (hk : Wo P nt l (putA A d (.agg (K.E y))) m ls Q) : Wo P nt (⟨d, none, .load (some n) a⟩ :: l) A m ls Q := by
  subst he
  exact wo_loade ha hi hn hd hk

theorem wo_sliceS3 {α : Type} {K : Enc α} {Q : As → Mem → List LRec → Prop} {sz : Nat} {x mx : Opd} {lo hi : Option Opd} {v : MV} {xs : List α} {a b c : Int} (hx : lk A x = some v) (hs : Sl K xs v) (hl : bdA A lo 0 = some a) (hh : bdA A hi xs.length = some b) (hm : bdA A (some mx) 0 = some c) (h : 0 ≤ a ∧ a ≤ b ∧ b ≤ c ∧ c ≤ xs.length) (his : hi.isSome = true) (hz : K.sz = sz) (hd : okD nt d = true)
    (hk : ∀ v', Sl K ((xs.drop a.toNat).take (b.toNat - a.toNat)) v' → Wo P nt l (putA A d v') m ls Q) : Wo P nt (⟨d, none, .slice sz x lo hi (some mx)⟩ :: l) A m ls Q := by
  subst hz
  rcases hs with ⟨rfl, rfl⟩ | ⟨kc, rfl⟩
  · exact wo_slicen3 hx hl hh hm h.1 h.2.1 h.2.2.1 h.2.2.2 his hd (hk _ (by simp only [List.drop_nil, List.take_nil]; exact .nil))
  · refine wo_slicel3 hx hl hh hm h.1 h.2.1 h.2.2.1 h.2.2.2 his (flat_len K xs) hd (hk _ (.inr ⟨some (c.toNat - a.toNat), ?_⟩))
    rw [flat_drop, flat_take]
    congr 1
    simp; omega
end

section
variable {m : Mem} {ls : List LRec} {Q : MV → Mem → List LRec → Prop}

theorem c_Clone {l : List Cell} {v : MV} (hv : Sl KCell l v) (hl : l.length ≤ 1000000) (hQ : ∀ u, Sl KCell l u → Q u m ls) : Wc ip f_slices_Clone_api_Cell [v] m ls Q := by
  refine wc_fn1 rfl fn_slices_Clone_api_Cell rfl (by simp [deepVs, hv.deep]) rfl ?_
  rcases hv with ⟨rfl, rfl⟩ | ⟨kc, rfl⟩
  · repeat' (first
      | refine wo_eqn rfl rfl rfl rfl ?_
      | refine z00 ?_ | refine z01 ?_ | refine z02 ?_ | refine z04 ?_ | refine z05 ?_ | refine z08 ?_ | refine zp ?_ | refine z0g ?_ | refine z0h ?_ | refine z0j ?_ | refine z0k ?_
      | refine z0l ?_ | refine z0n ?_ | refine z0o ?_ | refine z0p ?_ | refine z0q ?_ | refine z0r ?_ | refine z0s ?_ | refine z0v ?_ | refine z0z ?_ | refine z12 ?_ | refine z14 ?_
      | refine z15 ?_ | refine z1e ?_ | refine z1f (hk := ?_) | refine z1i ?_ | refine z1j ?_ | refine z1k ?_ | refine z1l ?_ | refine z1m ?_ | refine z1n ?_
      | refine z1o (fun hp => ?_) (fun hp => ?_) | refine z1p (fun hp => ?_) (fun hp => ?_) | refine z1q (fun hp => ?_) (fun hp => ?_) | refine z1r ?_ | refine z1s ?_ | refine z1t ?_
      | refine z1u ?_ | refine z1v ?_ | refine z1w ?_ | refine z1x ?_ | refine z1y ?_ | refine z1z ?_ | refine z20 ?_ | refine z21 ?_ | refine z22 ?_ | refine z23 ?_ | refine z24 ?_
      | refine z25 ?_ | refine z26 ?_ | refine z27 ?_ | refine z28 (fun hp => ?_) (fun hp => ?_) | refine z29 (fun hp => ?_) (fun hp => ?_) | refine z2a ?_ | refine z2b ?_)
    exact fin1_deep rfl (hQ _ .nil)
  · by_cases h0 : l = []
    · subst h0
      repeat' (first
        | refine wo_eqn rfl rfl rfl rfl ?_
        | refine wo_app rfl rfl rfl rfl ?_
        | refine z00 ?_ | refine z01 ?_ | refine z02 ?_ | refine z04 ?_ | refine z05 ?_ | refine z08 ?_ | refine zp ?_ | refine z0g ?_ | refine z0h ?_ | refine z0j ?_ | refine z0k ?_
        | refine z0l ?_ | refine z0n ?_ | refine z0o ?_ | refine z0p ?_ | refine z0q ?_ | refine z0r ?_ | refine z0s ?_ | refine z0v ?_ | refine z0z ?_ | refine z12 ?_ | refine z14 ?_
        | refine z15 ?_ | refine z1e ?_ | refine z1f (hk := ?_) | refine z1i ?_ | refine z1j ?_ | refine z1k ?_ | refine z1l ?_ | refine z1m ?_ | refine z1n ?_
        | refine z1o (fun hp => ?_) (fun hp => ?_) | refine z1p (fun hp => ?_) (fun hp => ?_) | refine z1q (fun hp => ?_) (fun hp => ?_) | refine z1r ?_ | refine z1s ?_ | refine z1t ?_
        | refine z1u ?_ | refine z1v ?_ | refine z1w ?_ | refine z1x ?_ | refine z1y ?_ | refine z1z ?_ | refine z20 ?_ | refine z21 ?_ | refine z22 ?_ | refine z23 ?_ | refine z24 ?_
        | refine z25 ?_ | refine z26 ?_ | refine z27 ?_ | refine z28 (fun hp => ?_) (fun hp => ?_) | refine z29 (fun hp => ?_) (fun hp => ?_) | refine z2a ?_ | refine z2b ?_)
      exact fin1_deep rfl (hQ _ .lit)
    · have ha : App KCell 0 [] [] (.lit (flat KCell.E ([] : List Cell)) 0 (some 0)) := .inr (.inl rfl)
      obtain ⟨v', m', h1, h2, _, _⟩ := ha.app (bytes := 40) (ys := l) (x := .lit (flat KCell.E l) l.length kc) (by simp) (src_lit (K := KCell) (xs := l) (kc := kc)) rfl h0 (by simp; omega) rfl
      repeat' (first
        | refine wo_eqn rfl rfl rfl rfl ?_
        | refine wo_app rfl rfl h1 rfl ?_
        | refine z00 ?_ | refine z01 ?_ | refine z02 ?_ | refine z04 ?_ | refine z05 ?_ | refine z08 ?_ | refine zp ?_ | refine z0g ?_ | refine z0h ?_ | refine z0j ?_ | refine z0k ?_
        | refine z0l ?_ | refine z0n ?_ | refine z0o ?_ | refine z0p ?_ | refine z0q ?_ | refine z0r ?_ | refine z0s ?_ | refine z0v ?_ | refine z0z ?_ | refine z12 ?_ | refine z14 ?_
        | refine z15 ?_ | refine z1e ?_ | refine z1f (hk := ?_) | refine z1i ?_ | refine z1j ?_ | refine z1k ?_ | refine z1l ?_ | refine z1m ?_ | refine z1n ?_
        | refine z1o (fun hp => ?_) (fun hp => ?_) | refine z1p (fun hp => ?_) (fun hp => ?_) | refine z1q (fun hp => ?_) (fun hp => ?_) | refine z1r ?_ | refine z1s ?_ | refine z1t ?_
        | refine z1u ?_ | refine z1v ?_ | refine z1w ?_ | refine z1x ?_ | refine z1y ?_ | refine z1z ?_ | refine z20 ?_ | refine z21 ?_ | refine z22 ?_ | refine z23 ?_ | refine z24 ?_
        | refine z25 ?_ | refine z26 ?_ | refine z27 ?_ | refine z28 (fun hp => ?_) (fun hp => ?_) | refine z29 (fun hp => ?_) (fun hp => ?_) | refine z2a ?_ | refine z2b ?_)
      obtain ⟨n, hn⟩ := fuel 2 (by omega)
      obtain ⟨u, h3, h4⟩ := h2.frz (n + 1)
      exact ⟨by rw [hn]; exact h3, hQ u h4⟩

def badCut (l : List Cell) (x : Line) : Prop := x.fr < 0 ∨ x.to < x.fr ∨ x.to > l.length
instance (l : List Cell) (x : Line) : Decidable (badCut l x) := inferInstanceAs (Decidable (_ ∨ _))

/-- The cells of lines. -/
def cellsG (rest : List Cell) : List Cell → List Line → Option (List (List Cell))
  | _, [] => some []
  | row, x :: xs => if badCut row x then none else (cellsG rest rest xs).map fun t => cut row x.fr.toNat x.to.toNat :: t
def firstC (first rest : List Cell) (l : List Line) : Option (List (List Cell)) := if alikeF first rest = false then none else cellsG rest first l

theorem c_Cells {first rest : List Cell} {L : List Line} {v w z : MV} (hv : Sl KCell first v) (hw : Sl KCell rest w) (hz : Sl KLine L z) (hl1 : first.length ≤ 1000000) (hl2 : rest.length ≤ 1000000) (hl3 : L.length ≤ 1000000)
    (hN : firstC first rest L = none → Q (.tup [.nils, .int .i64 2]) m ls) (hS : ∀ out, firstC first rest L = some out → ∀ vs u, SlV vs u → Sls KCell out vs → Q (.tup [u, .int .i64 0]) m ls) : Wc ip f_first_Cells [v, w, z] m ls Q := by
  refine wc_fn1 rfl fn_first_Cells rfl (by simp [deepVs, hv.deep, hw.deep, hz.deep]) rfl ?_
  cases hal : alikeF first rest with
  | false =>
    have e : firstC first rest L = none := by unfold firstC; rw [if_pos hal]
    repeat' (first
      | refine wo_call rfl rfl rfl (c_Alike hal hv hw hl1 ?_)
      | refine z00 ?_ | refine z01 ?_ | refine z02 ?_ | refine z04 ?_ | refine z05 ?_ | refine z08 ?_ | refine zp ?_ | refine z0g ?_ | refine z0h ?_ | refine z0j ?_ | refine z0k ?_
      | refine z0l ?_ | refine z0n ?_ | refine z0o ?_ | refine z0p ?_ | refine z0q ?_ | refine z0r ?_ | refine z0s ?_ | refine z0v ?_ | refine z0z ?_ | refine z12 ?_ | refine z14 ?_
      | refine z15 ?_ | refine z1e ?_ | refine z1f (hk := ?_) | refine z1i ?_ | refine z1j ?_ | refine z1k ?_ | refine z1l ?_ | refine z1m ?_ | refine z1n ?_
      | refine z1o (fun hp => ?_) (fun hp => ?_) | refine z1p (fun hp => ?_) (fun hp => ?_) | refine z1q (fun hp => ?_) (fun hp => ?_) | refine z1r ?_ | refine z1s ?_ | refine z1t ?_
      | refine z1u ?_ | refine z1v ?_ | refine z1w ?_ | refine z1x ?_ | refine z1y ?_ | refine z1z ?_ | refine z20 ?_ | refine z21 ?_ | refine z22 ?_ | refine z23 ?_ | refine z24 ?_
      | refine z25 ?_ | refine z26 ?_ | refine z27 ?_ | refine z28 (fun hp => ?_) (fun hp => ?_) | refine z29 (fun hp => ?_) (fun hp => ?_) | refine z2a ?_ | refine z2b ?_)
    exact fin1_deep rfl (hN e)
  | true =>
    have e : firstC first rest L = cellsG rest first L := by unfold firstC; rw [if_neg (by rw [hal]; simp)]
    rw [e] at hN hS
    have key : ∀ (k i : Nat) (row : List Cell) (x : MV), i + k = L.length → Sl KCell row x → row.length ≤ 1000000 → ∀ (m : Mem) (u : MV) (vs : List MV) (done : List (List Cell)), HoldV 0 vs m u → Sls KCell done vs → done.length = i → ∀ {R : Ex → As → Mem → List LRec → Prop},
        (cellsG rest row (L.drop i) = none → ∀ m', R .ret [(6, .nils), (7, .int .i64 2)] m' []) → (∀ out, cellsG rest row (L.drop i) = some out → ∀ m' u' vs', HoldV 0 vs' m' u' → Sls KCell (done ++ out) vs' → R (.exit 0) [(9, u')] m' []) →
        Wx ip i_first_Cells.nt (.loop (lv [1, 8, 9, 18, 19, 20] 56) first_Cells_b0) [(1, w), (8, x), (9, u), (18, z), (19, .int .i64 L.length), (20, .int .i64 i)] m [] R := by
      intro k
      induction k with
      | zero =>
        intro i row x hk hx hxl m u vs done hu hs hd R h0 h1
        rw [List.drop_eq_nil_of_le (by omega)] at h1
        refine wx_roundL rfl ?_
        repeat' (first
          | refine wx_exitL [9] ?_
          | refine z00 ?_ | refine z01 ?_ | refine z02 ?_ | refine z04 ?_ | refine z05 ?_ | refine z08 ?_ | refine zp ?_ | refine z0g ?_ | refine z0h ?_ | refine z0j ?_ | refine z0k ?_
          | refine z0l ?_ | refine z0n ?_ | refine z0o ?_ | refine z0p ?_ | refine z0q ?_ | refine z0r ?_ | refine z0s ?_ | refine z0v ?_ | refine z0z ?_ | refine z12 ?_ | refine z14 ?_
          | refine z15 ?_ | refine z1e ?_ | refine z1f (hk := ?_) | refine z1i ?_ | refine z1j ?_ | refine z1k ?_ | refine z1l ?_ | refine z1m ?_ | refine z1n ?_
          | refine z1o (fun hp => ?_) (fun hp => ?_) | refine z1p (fun hp => ?_) (fun hp => ?_) | refine z1q (fun hp => ?_) (fun hp => ?_) | refine z1r ?_ | refine z1s ?_ | refine z1t ?_
          | refine z1u ?_ | refine z1v ?_ | refine z1w ?_ | refine z1x ?_ | refine z1y ?_ | refine z1z ?_ | refine z20 ?_ | refine z21 ?_ | refine z22 ?_ | refine z23 ?_ | refine z24 ?_
          | refine z25 ?_ | refine z26 ?_ | refine z27 ?_ | refine z28 (fun hp => ?_) (fun hp => ?_) | refine z29 (fun hp => ?_) (fun hp => ?_) | refine z2a ?_ | refine z2b ?_)
        exact h1 [] rfl _ _ _ hu (by simpa using hs)
      | succ k ih =>
        intro i row x hk hx hxl m u vs done hu hs hd R h0 h1
        have hlt : i < L.length := by omega
        rw [List.drop_eq_getElem_cons hlt] at h0 h1
        simp only [cellsG] at h0 h1
        generalize hxe : L[i] = y at h0 h1
        have hxe' : L[(i : Int).toNat] = y := hxe
        refine wx_roundL rfl ?_
        by_cases hbc : badCut row y
        · rw [if_pos hbc] at h0
          unfold badCut at hbc
          by_cases c1 : y.fr < 0
          · repeat' (first
              | refine wo_loadeE hxe' rfl rfl rfl ?_
              | refine wx_retL [6, 7] ?_
              | refine z00 ?_ | refine z01 ?_ | refine z02 ?_ | refine z04 ?_ | refine z05 ?_ | refine z08 ?_ | refine zp ?_ | refine z0g ?_ | refine z0h ?_ | refine z0j ?_ | refine z0k ?_
              | refine z0l ?_ | refine z0n ?_ | refine z0o ?_ | refine z0p ?_ | refine z0q ?_ | refine z0r ?_ | refine z0s ?_ | refine z0v ?_ | refine z0z ?_ | refine z12 ?_ | refine z14 ?_
              | refine z15 ?_ | refine z1e ?_ | refine z1f (hk := ?_) | refine z1i ?_ | refine z1j ?_ | refine z1k ?_ | refine z1l ?_ | refine z1m ?_ | refine z1n ?_
              | refine z1o (fun hp => ?_) (fun hp => ?_) | refine z1p (fun hp => ?_) (fun hp => ?_) | refine z1q (fun hp => ?_) (fun hp => ?_) | refine z1r ?_ | refine z1s ?_ | refine z1t ?_
              | refine z1u ?_ | refine z1v ?_ | refine z1w ?_ | refine z1x ?_ | refine z1y ?_ | refine z1z ?_ | refine z20 ?_ | refine z21 ?_ | refine z22 ?_ | refine z23 ?_ | refine z24 ?_
              | refine z25 ?_ | refine z26 ?_ | refine z27 ?_ | refine z28 (fun hp => ?_) (fun hp => ?_) | refine z29 (fun hp => ?_) (fun hp => ?_) | refine z2a ?_ | refine z2b ?_)
            exact h0 rfl _
          · by_cases c2 : y.to < y.fr
            · repeat' (first
                | refine wo_loadeE hxe' rfl rfl rfl ?_
                | refine wx_retL [6, 7] ?_
                | refine z00 ?_ | refine z01 ?_ | refine z02 ?_ | refine z04 ?_ | refine z05 ?_ | refine z08 ?_ | refine zp ?_ | refine z0g ?_ | refine z0h ?_ | refine z0j ?_ | refine z0k ?_
                | refine z0l ?_ | refine z0n ?_ | refine z0o ?_ | refine z0p ?_ | refine z0q ?_ | refine z0r ?_ | refine z0s ?_ | refine z0v ?_ | refine z0z ?_ | refine z12 ?_ | refine z14 ?_
                | refine z15 ?_ | refine z1e ?_ | refine z1f (hk := ?_) | refine z1i ?_ | refine z1j ?_ | refine z1k ?_ | refine z1l ?_ | refine z1m ?_ | refine z1n ?_
                | refine z1o (fun hp => ?_) (fun hp => ?_) | refine z1p (fun hp => ?_) (fun hp => ?_) | refine z1q (fun hp => ?_) (fun hp => ?_) | refine z1r ?_ | refine z1s ?_ | refine z1t ?_
                | refine z1u ?_ | refine z1v ?_ | refine z1w ?_ | refine z1x ?_ | refine z1y ?_ | refine z1z ?_ | refine z20 ?_ | refine z21 ?_ | refine z22 ?_ | refine z23 ?_ | refine z24 ?_
                | refine z25 ?_ | refine z26 ?_ | refine z27 ?_ | refine z28 (fun hp => ?_) (fun hp => ?_) | refine z29 (fun hp => ?_) (fun hp => ?_) | refine z2a ?_ | refine z2b ?_)
              exact h0 rfl _
            · have c3 : (row.length : Int) < y.to := by omega
              repeat' (first
                | refine wo_loadeE hxe' rfl rfl rfl ?_
                | refine wx_retL [6, 7] ?_
                | refine z00 ?_ | refine z01 ?_ | refine z02 ?_ | refine z04 ?_ | refine z05 ?_ | refine z08 ?_ | refine zp ?_ | refine z0g ?_ | refine z0h ?_ | refine z0j ?_ | refine z0k ?_
                | refine z0l ?_ | refine z0n ?_ | refine z0o ?_ | refine z0p ?_ | refine z0q ?_ | refine z0r ?_ | refine z0s ?_ | refine z0v ?_ | refine z0z ?_ | refine z12 ?_ | refine z14 ?_
                | refine z15 ?_ | refine z1e ?_ | refine z1f (hk := ?_) | refine z1i ?_ | refine z1j ?_ | refine z1k ?_ | refine z1l ?_ | refine z1m ?_ | refine z1n ?_
                | refine z1o (fun hp => ?_) (fun hp => ?_) | refine z1p (fun hp => ?_) (fun hp => ?_) | refine z1q (fun hp => ?_) (fun hp => ?_) | refine z1r ?_ | refine z1s ?_ | refine z1t ?_
                | refine z1u ?_ | refine z1v ?_ | refine z1w ?_ | refine z1x ?_ | refine z1y ?_ | refine z1z ?_ | refine z20 ?_ | refine z21 ?_ | refine z22 ?_ | refine z23 ?_ | refine z24 ?_
                | refine z25 ?_ | refine z26 ?_ | refine z27 ?_ | refine z28 (fun hp => ?_) (fun hp => ?_) | refine z29 (fun hp => ?_) (fun hp => ?_) | refine z2a ?_ | refine z2b ?_)
              exact h0 rfl _
        · rw [if_neg hbc] at h0 h1
          unfold badCut at hbc
          obtain ⟨c1, c2, c3⟩ : 0 ≤ y.fr ∧ y.fr ≤ y.to ∧ y.to ≤ row.length := by omega
          clear hbc
          repeat' (first
            | refine wo_loadeE hxe' rfl rfl rfl ?_
            | refine z00 ?_ | refine z01 ?_ | refine z02 ?_ | refine z04 ?_ | refine z05 ?_ | refine z08 ?_ | refine zp ?_ | refine z0g ?_ | refine z0h ?_ | refine z0j ?_ | refine z0k ?_
            | refine z0l ?_ | refine z0n ?_ | refine z0o ?_ | refine z0p ?_ | refine z0q ?_ | refine z0r ?_ | refine z0s ?_ | refine z0v ?_ | refine z0z ?_ | refine z12 ?_ | refine z14 ?_
            | refine z15 ?_ | refine z1e ?_ | refine z1f (hk := ?_) | refine z1i ?_ | refine z1j ?_ | refine z1k ?_ | refine z1l ?_ | refine z1m ?_ | refine z1n ?_
            | refine z1o (fun hp => ?_) (fun hp => ?_) | refine z1p (fun hp => ?_) (fun hp => ?_) | refine z1q (fun hp => ?_) (fun hp => ?_) | refine z1r ?_ | refine z1s ?_ | refine z1t ?_
            | refine z1u ?_ | refine z1v ?_ | refine z1w ?_ | refine z1x ?_ | refine z1y ?_ | refine z1z ?_ | refine z20 ?_ | refine z21 ?_ | refine z22 ?_ | refine z23 ?_ | refine z24 ?_
            | refine z25 ?_ | refine z26 ?_ | refine z27 ?_ | refine z28 (fun hp => ?_) (fun hp => ?_) | refine z29 (fun hp => ?_) (fun hp => ?_) | refine z2a ?_ | refine z2b ?_)
          refine wo_sliceS3 rfl hx rfl rfl rfl (show 0 ≤ y.fr ∧ y.fr ≤ y.to ∧ y.to ≤ y.to ∧ y.to ≤ row.length by omega) rfl rfl rfl fun v' hv' => ?_
          have hv'' : Sl KCell (cut row y.fr.toNat y.to.toNat) v' := hv'
          have hcl := cut_len (l := row) (i := y.fr.toNat) (j := y.to.toNat) (by omega) (by omega)
          refine wo_call rfl rfl rfl (c_Clone hv'' (by omega) ?_)
          intro v2 hv2
          have hvl := hs.length
          obtain ⟨u3, m3, a1, a2⟩ := (hu.push ⟨[.int .i64 y.fr, .int .i64 y.to, .bool y.forced], 0, true⟩).add1 (bytes := 24) (y := v2) (kc := some 1) (by simp) (by omega)
          have hdv : deepVs [v2] = true := by simp [deepVs, hv2.deep]
          repeat' (first
            | refine wo_blit (cs := [v2]) (fill1 rfl hv2.cells) hdv rfl ?_
            | refine wo_app rfl rfl a1 rfl ?_
            | refine z00 ?_ | refine z01 ?_ | refine z02 ?_ | refine z04 ?_ | refine z05 ?_ | refine z08 ?_ | refine zp ?_ | refine z0g ?_ | refine z0h ?_ | refine z0j ?_ | refine z0k ?_
            | refine z0l ?_ | refine z0n ?_ | refine z0o ?_ | refine z0p ?_ | refine z0q ?_ | refine z0r ?_ | refine z0s ?_ | refine z0v ?_ | refine z0z ?_ | refine z12 ?_ | refine z14 ?_
            | refine z15 ?_ | refine z1e ?_ | refine z1f (hk := ?_) | refine z1i ?_ | refine z1j ?_ | refine z1k ?_ | refine z1l ?_ | refine z1m ?_ | refine z1n ?_
            | refine z1o (fun hp => ?_) (fun hp => ?_) | refine z1p (fun hp => ?_) (fun hp => ?_) | refine z1q (fun hp => ?_) (fun hp => ?_) | refine z1r ?_ | refine z1s ?_ | refine z1t ?_
            | refine z1u ?_ | refine z1v ?_ | refine z1w ?_ | refine z1x ?_ | refine z1y ?_ | refine z1z ?_ | refine z20 ?_ | refine z21 ?_ | refine z22 ?_ | refine z23 ?_ | refine z24 ?_
            | refine z25 ?_ | refine z26 ?_ | refine z27 ?_ | refine z28 (fun hp => ?_) (fun hp => ?_) | refine z29 (fun hp => ?_) (fun hp => ?_) | refine z2a ?_ | refine z2b ?_)
          refine wx_loopL ?_
          refine ih (i + 1) rest w (by omega) hw hl2 _ _ _ (done ++ [cut row y.fr.toNat y.to.toNat]) (a2 hv2.deep) (hs.app1 hv2) (by simp; omega) ?_ ?_
          · intro h m'
            exact h0 (by rw [h]; rfl) m'
          · intro out h m' u' vs' g1 g2
            exact h1 _ (by rw [h]; rfl) m' u' vs' g1 (by simpa using g2)
    repeat' (first
      | refine wo_call rfl rfl rfl (c_Alike hal hv hw hl1 ?_)
      | refine wo_call rfl rfl rfl (c_Clone hv hl1 ?_)
      | refine z00 ?_ | refine z01 ?_ | refine z02 ?_ | refine z04 ?_ | refine z05 ?_ | refine z08 ?_ | refine zp ?_ | refine z0g ?_ | refine z0h ?_ | refine z0j ?_ | refine z0k ?_
      | refine z0l ?_ | refine z0n ?_ | refine z0o ?_ | refine z0p ?_ | refine z0q ?_ | refine z0r ?_ | refine z0s ?_ | refine z0v ?_ | refine z0z ?_ | refine z12 ?_ | refine z14 ?_
      | refine z15 ?_ | refine z1e ?_ | refine z1f (hk := ?_) | refine z1i ?_ | refine z1j ?_ | refine z1k ?_ | refine z1l ?_ | refine z1m ?_ | refine z1n ?_
      | refine z1o (fun hp => ?_) (fun hp => ?_) | refine z1p (fun hp => ?_) (fun hp => ?_) | refine z1q (fun hp => ?_) (fun hp => ?_) | refine z1r ?_ | refine z1s ?_ | refine z1t ?_
      | refine z1u ?_ | refine z1v ?_ | refine z1w ?_ | refine z1x ?_ | refine z1y ?_ | refine z1z ?_ | refine z20 ?_ | refine z21 ?_ | refine z22 ?_ | refine z23 ?_ | refine z24 ?_
      | refine z25 ?_ | refine z26 ?_ | refine z27 ?_ | refine z28 (fun hp => ?_) (fun hp => ?_) | refine z29 (fun hp => ?_) (fun hp => ?_) | refine z2a ?_ | refine z2b ?_)
    intro x hx
    repeat' (first
      | refine z00 ?_ | refine z01 ?_ | refine z02 ?_ | refine z04 ?_ | refine z05 ?_ | refine z08 ?_ | refine zp ?_ | refine z0g ?_ | refine z0h ?_ | refine z0j ?_ | refine z0k ?_
      | refine z0l ?_ | refine z0n ?_ | refine z0o ?_ | refine z0p ?_ | refine z0q ?_ | refine z0r ?_ | refine z0s ?_ | refine z0v ?_ | refine z0z ?_ | refine z12 ?_ | refine z14 ?_
      | refine z15 ?_ | refine z1e ?_ | refine z1f (hk := ?_) | refine z1i ?_ | refine z1j ?_ | refine z1k ?_ | refine z1l ?_ | refine z1m ?_ | refine z1n ?_
      | refine z1o (fun hp => ?_) (fun hp => ?_) | refine z1p (fun hp => ?_) (fun hp => ?_) | refine z1q (fun hp => ?_) (fun hp => ?_) | refine z1r ?_ | refine z1s ?_ | refine z1t ?_
      | refine z1u ?_ | refine z1v ?_ | refine z1w ?_ | refine z1x ?_ | refine z1y ?_ | refine z1z ?_ | refine z20 ?_ | refine z21 ?_ | refine z22 ?_ | refine z23 ?_ | refine z24 ?_
      | refine z25 ?_ | refine z26 ?_ | refine z27 ?_ | refine z28 (fun hp => ?_) (fun hp => ?_) | refine z29 (fun hp => ?_) (fun hp => ?_) | refine z2a ?_ | refine z2b ?_)
    refine wx_loopL ?_
    refine key L.length 0 first x (by omega) hx hl1 _ .nils [] [] (.inl ⟨rfl, rfl⟩) .nil rfl ?_ ?_
    · intro h m'
      repeat' (first | refine then_r ?_ | refine block_r ?_)
      refine end_r rfl ?_
      exact fin1_deep rfl (hN h)
    · intro out h m' u' vs' g1 g2
      repeat' (first
        | refine z00 ?_ | refine z01 ?_ | refine z02 ?_ | refine z04 ?_ | refine z05 ?_ | refine z08 ?_ | refine zp ?_ | refine z0g ?_ | refine z0h ?_ | refine z0j ?_ | refine z0k ?_
        | refine z0l ?_ | refine z0n ?_ | refine z0o ?_ | refine z0p ?_ | refine z0q ?_ | refine z0r ?_ | refine z0s ?_ | refine z0v ?_ | refine z0z ?_ | refine z12 ?_ | refine z14 ?_
        | refine z15 ?_ | refine z1e ?_ | refine z1f (hk := ?_) | refine z1i ?_ | refine z1j ?_ | refine z1k ?_ | refine z1l ?_ | refine z1m ?_ | refine z1n ?_
        | refine z1o (fun hp => ?_) (fun hp => ?_) | refine z1p (fun hp => ?_) (fun hp => ?_) | refine z1q (fun hp => ?_) (fun hp => ?_) | refine z1r ?_ | refine z1s ?_ | refine z1t ?_
        | refine z1u ?_ | refine z1v ?_ | refine z1w ?_ | refine z1x ?_ | refine z1y ?_ | refine z1z ?_ | refine z20 ?_ | refine z21 ?_ | refine z22 ?_ | refine z23 ?_ | refine z24 ?_
        | refine z25 ?_ | refine z26 ?_ | refine z27 ?_ | refine z28 (fun hp => ?_) (fun hp => ?_) | refine z29 (fun hp => ?_) (fun hp => ?_) | refine z2a ?_ | refine z2b ?_)
      obtain ⟨u2, g3, g4⟩ := g1.tz
      have hT : Tz m' 4 (.tup [u', .int .i64 0]) (.tup [u2, .int .i64 0]) := Tz.tup ((Tzs.cons (Tz.le (show Tz m' 1 u' u2 from g4) (by omega)) (Tzs.cons ((Tz.deep rfl).le (by omega)) (Tzs.nil.le (by omega)))))
      obtain ⟨n, hn⟩ := fuel 4 (by omega)
      exact ⟨by rw [hn]; exact hT n, hS out h vs' u2 g3 (by simpa using g2)⟩

/-! ### Sameness -/

theorem eq_line (x y : Line) : eqCells [1, 1, 0] x.mv y.mv = some (decide (x = y)) := by
  obtain ⟨a, b, c⟩ := x
  obtain ⟨d, e, f⟩ := y
  simp only [Line.mv, eqCells, eqCell, if_true, Bool.and_true, Line.mk.injEq, Option.some.injEq]
  by_cases h1 : a = d <;> by_cases h2 : b = e <;> cases c <;> cases f <;> simp [h1, h2]
theorem eq_cell (x y : Cell) : eqCells [1, 1, 1, 1, 0, 0] x.mv y.mv = some (decide (x = y)) := by
  obtain ⟨a, b, c, d, e, f⟩ := x
  obtain ⟨a', b', c', d', e', f'⟩ := y
  simp only [Cell.mv, eqCells, eqCell, if_true, Bool.and_true, Cell.mk.injEq, Option.some.injEq]
  by_cases h1 : a = a' <;> by_cases h2 : b = b' <;> by_cases h3 : c = c' <;> by_cases h4 : d = d' <;> cases e <;> cases e' <;> cases f <;> cases f' <;> simp [h1, h2, h3, h4]
theorem eq_lineE {x y : Line} {t : Bool} (h : decide (x = y) = t) : eqCells [1, 1, 0] x.mv y.mv = some t := by rw [eq_line, h]
theorem eq_cellE {x y : Cell} {t : Bool} (h : decide (x = y) = t) : eqCells [1, 1, 1, 1, 0, 0] x.mv y.mv = some t := by rw [eq_cell, h]

theorem c_Same14 {a b : List Line} {v w : MV} {t : Bool} (ht : decide (a = b) = t) (hv : Sl KLine a v) (hw : Sl KLine b w) (hl : a.length ≤ 1000000000) (hQ : Q (.bool t) m ls) : Wc ip f_ref14_Same [v, w] m ls Q := by
  subst ht
  refine wc_fn3d rfl fn_ref14_Same rfl (by simp [deepVs, hv.deep, hw.deep]) rfl ?_
  by_cases hlen : a.length = b.length
  · have key : ∀ (k i : Nat), i + k = a.length → ∀ {R : Ex → As → Mem → List LRec → Prop}, (a.drop i = b.drop i → R (.exit 0) [] [] []) → (a.drop i ≠ b.drop i → R .ret [(4, .bool false)] [] []) →
        Wx ip i_ref14_Same.nt (.loop (lv [0, 1, 5] 26) ref14_Same_b0) [(0, v), (1, w), (5, .int .i64 i)] [] [] R := by
      intro k
      induction k with
      | zero =>
        intro i hk R h0 h1
        refine wx_roundL rfl ?_
        repeat' (first
          | refine wx_exitL [] ?_
          | refine z00 ?_ | refine z01 ?_ | refine z02 ?_ | refine z04 ?_ | refine z05 ?_ | refine z08 ?_ | refine zp ?_ | refine z0g ?_ | refine z0h ?_ | refine z0j ?_ | refine z0k ?_
          | refine z0l ?_ | refine z0n ?_ | refine z0o ?_ | refine z0p ?_ | refine z0q ?_ | refine z0r ?_ | refine z0s ?_ | refine z0v ?_ | refine z0z ?_ | refine z12 ?_ | refine z14 ?_
          | refine z15 ?_ | refine z1e ?_ | refine z1f (hk := ?_) | refine z1i ?_ | refine z1j ?_ | refine z1k ?_ | refine z1l ?_ | refine z1m ?_ | refine z1n ?_
          | refine z1o (fun hp => ?_) (fun hp => ?_) | refine z1p (fun hp => ?_) (fun hp => ?_) | refine z1q (fun hp => ?_) (fun hp => ?_) | refine z1r ?_ | refine z1s ?_ | refine z1t ?_
          | refine z1u ?_ | refine z1v ?_ | refine z1w ?_ | refine z1x ?_ | refine z1y ?_ | refine z1z ?_ | refine z20 ?_ | refine z21 ?_ | refine z22 ?_ | refine z23 ?_ | refine z24 ?_
          | refine z25 ?_ | refine z26 ?_ | refine z27 ?_ | refine z28 (fun hp => ?_) (fun hp => ?_) | refine z29 (fun hp => ?_) (fun hp => ?_) | refine z2a ?_ | refine z2b ?_)
        exact h0 (by rw [List.drop_eq_nil_of_le (by omega), List.drop_eq_nil_of_le (by omega)])
      | succ k ih =>
        intro i hk R h0 h1
        have hlt : i < a.length := by omega
        have hlt2 : i < b.length := by omega
        rw [List.drop_eq_getElem_cons hlt, List.drop_eq_getElem_cons hlt2] at h0 h1
        refine wx_roundL rfl ?_
        by_cases hxy : a[i] = b[i]
        · rw [hxy] at h0 h1
          repeat' (first
            | refine wo_eqa rfl rfl (eq_lineE (decide_eq_true hxy)) rfl ?_
            | refine z00 ?_ | refine z01 ?_ | refine z02 ?_ | refine z04 ?_ | refine z05 ?_ | refine z08 ?_ | refine zp ?_ | refine z0g ?_ | refine z0h ?_ | refine z0j ?_ | refine z0k ?_
            | refine z0l ?_ | refine z0n ?_ | refine z0o ?_ | refine z0p ?_ | refine z0q ?_ | refine z0r ?_ | refine z0s ?_ | refine z0v ?_ | refine z0z ?_ | refine z12 ?_ | refine z14 ?_
            | refine z15 ?_ | refine z1e ?_ | refine z1f (hk := ?_) | refine z1i ?_ | refine z1j ?_ | refine z1k ?_ | refine z1l ?_ | refine z1m ?_ | refine z1n ?_
            | refine z1o (fun hp => ?_) (fun hp => ?_) | refine z1p (fun hp => ?_) (fun hp => ?_) | refine z1q (fun hp => ?_) (fun hp => ?_) | refine z1r ?_ | refine z1s ?_ | refine z1t ?_
            | refine z1u ?_ | refine z1v ?_ | refine z1w ?_ | refine z1x ?_ | refine z1y ?_ | refine z1z ?_ | refine z20 ?_ | refine z21 ?_ | refine z22 ?_ | refine z23 ?_ | refine z24 ?_
            | refine z25 ?_ | refine z26 ?_ | refine z27 ?_ | refine z28 (fun hp => ?_) (fun hp => ?_) | refine z29 (fun hp => ?_) (fun hp => ?_) | refine z2a ?_ | refine z2b ?_)
          exact wx_loopL (ih (i + 1) (by omega) (fun h => h0 (by rw [h])) (fun h => h1 (fun e => h (List.cons.inj e).2)))
        · repeat' (first
            | refine wo_eqa rfl rfl (eq_lineE (decide_eq_false hxy)) rfl ?_
            | refine wx_retL [4] ?_
            | refine z00 ?_ | refine z01 ?_ | refine z02 ?_ | refine z04 ?_ | refine z05 ?_ | refine z08 ?_ | refine zp ?_ | refine z0g ?_ | refine z0h ?_ | refine z0j ?_ | refine z0k ?_
            | refine z0l ?_ | refine z0n ?_ | refine z0o ?_ | refine z0p ?_ | refine z0q ?_ | refine z0r ?_ | refine z0s ?_ | refine z0v ?_ | refine z0z ?_ | refine z12 ?_ | refine z14 ?_
            | refine z15 ?_ | refine z1e ?_ | refine z1f (hk := ?_) | refine z1i ?_ | refine z1j ?_ | refine z1k ?_ | refine z1l ?_ | refine z1m ?_ | refine z1n ?_
            | refine z1o (fun hp => ?_) (fun hp => ?_) | refine z1p (fun hp => ?_) (fun hp => ?_) | refine z1q (fun hp => ?_) (fun hp => ?_) | refine z1r ?_ | refine z1s ?_ | refine z1t ?_
            | refine z1u ?_ | refine z1v ?_ | refine z1w ?_ | refine z1x ?_ | refine z1y ?_ | refine z1z ?_ | refine z20 ?_ | refine z21 ?_ | refine z22 ?_ | refine z23 ?_ | refine z24 ?_
            | refine z25 ?_ | refine z26 ?_ | refine z27 ?_ | refine z28 (fun hp => ?_) (fun hp => ?_) | refine z29 (fun hp => ?_) (fun hp => ?_) | refine z2a ?_ | refine z2b ?_)
          exact h1 (fun e => hxy (List.cons.inj e).1)
    repeat' (first
      | refine z00 ?_ | refine z01 ?_ | refine z02 ?_ | refine z04 ?_ | refine z05 ?_ | refine z08 ?_ | refine zp ?_ | refine z0g ?_ | refine z0h ?_ | refine z0j ?_ | refine z0k ?_
      | refine z0l ?_ | refine z0n ?_ | refine z0o ?_ | refine z0p ?_ | refine z0q ?_ | refine z0r ?_ | refine z0s ?_ | refine z0v ?_ | refine z0z ?_ | refine z12 ?_ | refine z14 ?_
      | refine z15 ?_ | refine z1e ?_ | refine z1f (hk := ?_) | refine z1i ?_ | refine z1j ?_ | refine z1k ?_ | refine z1l ?_ | refine z1m ?_ | refine z1n ?_
      | refine z1o (fun hp => ?_) (fun hp => ?_) | refine z1p (fun hp => ?_) (fun hp => ?_) | refine z1q (fun hp => ?_) (fun hp => ?_) | refine z1r ?_ | refine z1s ?_ | refine z1t ?_
      | refine z1u ?_ | refine z1v ?_ | refine z1w ?_ | refine z1x ?_ | refine z1y ?_ | refine z1z ?_ | refine z20 ?_ | refine z21 ?_ | refine z22 ?_ | refine z23 ?_ | refine z24 ?_
      | refine z25 ?_ | refine z26 ?_ | refine z27 ?_ | refine z28 (fun hp => ?_) (fun hp => ?_) | refine z29 (fun hp => ?_) (fun hp => ?_) | refine z2a ?_ | refine z2b ?_)
    refine wx_loopL ?_
    refine key a.length 0 (by omega) ?_ ?_
    · intro h
      have e : decide (a = b) = true := decide_eq_true h
      rw [e] at hQ
      repeat' (first
        | refine z00 ?_ | refine z01 ?_ | refine z02 ?_ | refine z04 ?_ | refine z05 ?_ | refine z08 ?_ | refine zp ?_ | refine z0g ?_ | refine z0h ?_ | refine z0j ?_ | refine z0k ?_
        | refine z0l ?_ | refine z0n ?_ | refine z0o ?_ | refine z0p ?_ | refine z0q ?_ | refine z0r ?_ | refine z0s ?_ | refine z0v ?_ | refine z0z ?_ | refine z12 ?_ | refine z14 ?_
        | refine z15 ?_ | refine z1e ?_ | refine z1f (hk := ?_) | refine z1i ?_ | refine z1j ?_ | refine z1k ?_ | refine z1l ?_ | refine z1m ?_ | refine z1n ?_
        | refine z1o (fun hp => ?_) (fun hp => ?_) | refine z1p (fun hp => ?_) (fun hp => ?_) | refine z1q (fun hp => ?_) (fun hp => ?_) | refine z1r ?_ | refine z1s ?_ | refine z1t ?_
        | refine z1u ?_ | refine z1v ?_ | refine z1w ?_ | refine z1x ?_ | refine z1y ?_ | refine z1z ?_ | refine z20 ?_ | refine z21 ?_ | refine z22 ?_ | refine z23 ?_ | refine z24 ?_
        | refine z25 ?_ | refine z26 ?_ | refine z27 ?_ | refine z28 (fun hp => ?_) (fun hp => ?_) | refine z29 (fun hp => ?_) (fun hp => ?_) | refine z2a ?_ | refine z2b ?_)
      exact fin_cln rfl hQ
    · intro h
      have e : decide (a = b) = false := decide_eq_false h
      rw [e] at hQ
      repeat' (first | refine then_r ?_ | refine block_r ?_)
      refine end_r rfl ?_
      exact fin_cln rfl hQ
  · have e : decide (a = b) = false := decide_eq_false fun h => hlen (by rw [h])
    rw [e] at hQ
    repeat' (first
      | refine z00 ?_ | refine z01 ?_ | refine z02 ?_ | refine z04 ?_ | refine z05 ?_ | refine z08 ?_ | refine zp ?_ | refine z0g ?_ | refine z0h ?_ | refine z0j ?_ | refine z0k ?_
      | refine z0l ?_ | refine z0n ?_ | refine z0o ?_ | refine z0p ?_ | refine z0q ?_ | refine z0r ?_ | refine z0s ?_ | refine z0v ?_ | refine z0z ?_ | refine z12 ?_ | refine z14 ?_
      | refine z15 ?_ | refine z1e ?_ | refine z1f (hk := ?_) | refine z1i ?_ | refine z1j ?_ | refine z1k ?_ | refine z1l ?_ | refine z1m ?_ | refine z1n ?_
      | refine z1o (fun hp => ?_) (fun hp => ?_) | refine z1p (fun hp => ?_) (fun hp => ?_) | refine z1q (fun hp => ?_) (fun hp => ?_) | refine z1r ?_ | refine z1s ?_ | refine z1t ?_
      | refine z1u ?_ | refine z1v ?_ | refine z1w ?_ | refine z1x ?_ | refine z1y ?_ | refine z1z ?_ | refine z20 ?_ | refine z21 ?_ | refine z22 ?_ | refine z23 ?_ | refine z24 ?_
      | refine z25 ?_ | refine z26 ?_ | refine z27 ?_ | refine z28 (fun hp => ?_) (fun hp => ?_) | refine z29 (fun hp => ?_) (fun hp => ?_) | refine z2a ?_ | refine z2b ?_)
    exact fin_cln rfl hQ

theorem c_Same11 {a b : List Cell} {v w : MV} {t : Bool} (ht : decide (a = b) = t) (hv : Sl KCell a v) (hw : Sl KCell b w) (hl : a.length ≤ 1000000000) (hQ : Q (.bool t) m ls) : Wc ip f_ref11_Same [v, w] m ls Q := by
  subst ht
  refine wc_fn3d rfl fn_ref11_Same rfl (by simp [deepVs, hv.deep, hw.deep]) rfl ?_
  by_cases hlen : a.length = b.length
  · have key : ∀ (k i : Nat), i + k = a.length → ∀ {R : Ex → As → Mem → List LRec → Prop}, (a.drop i = b.drop i → R (.exit 0) [] [] []) → (a.drop i ≠ b.drop i → R .ret [(4, .bool false)] [] []) →
        Wx ip i_ref11_Same.nt (.loop (lv [0, 1, 5] 26) ref11_Same_b0) [(0, v), (1, w), (5, .int .i64 i)] [] [] R := by
      intro k
      induction k with
      | zero =>
        intro i hk R h0 h1
        refine wx_roundL rfl ?_
        repeat' (first
          | refine wx_exitL [] ?_
          | refine z00 ?_ | refine z01 ?_ | refine z02 ?_ | refine z04 ?_ | refine z05 ?_ | refine z08 ?_ | refine zp ?_ | refine z0g ?_ | refine z0h ?_ | refine z0j ?_ | refine z0k ?_
          | refine z0l ?_ | refine z0n ?_ | refine z0o ?_ | refine z0p ?_ | refine z0q ?_ | refine z0r ?_ | refine z0s ?_ | refine z0v ?_ | refine z0z ?_ | refine z12 ?_ | refine z14 ?_
          | refine z15 ?_ | refine z1e ?_ | refine z1f (hk := ?_) | refine z1i ?_ | refine z1j ?_ | refine z1k ?_ | refine z1l ?_ | refine z1m ?_ | refine z1n ?_
          | refine z1o (fun hp => ?_) (fun hp => ?_) | refine z1p (fun hp => ?_) (fun hp => ?_) | refine z1q (fun hp => ?_) (fun hp => ?_) | refine z1r ?_ | refine z1s ?_ | refine z1t ?_
          | refine z1u ?_ | refine z1v ?_ | refine z1w ?_ | refine z1x ?_ | refine z1y ?_ | refine z1z ?_ | refine z20 ?_ | refine z21 ?_ | refine z22 ?_ | refine z23 ?_ | refine z24 ?_
          | refine z25 ?_ | refine z26 ?_ | refine z27 ?_ | refine z28 (fun hp => ?_) (fun hp => ?_) | refine z29 (fun hp => ?_) (fun hp => ?_) | refine z2a ?_ | refine z2b ?_)
        exact h0 (by rw [List.drop_eq_nil_of_le (by omega), List.drop_eq_nil_of_le (by omega)])
      | succ k ih =>
        intro i hk R h0 h1
        have hlt : i < a.length := by omega
        have hlt2 : i < b.length := by omega
        rw [List.drop_eq_getElem_cons hlt, List.drop_eq_getElem_cons hlt2] at h0 h1
        refine wx_roundL rfl ?_
        by_cases hxy : a[i] = b[i]
        · rw [hxy] at h0 h1
          repeat' (first
            | refine wo_eqa rfl rfl (eq_cellE (decide_eq_true hxy)) rfl ?_
            | refine z00 ?_ | refine z01 ?_ | refine z02 ?_ | refine z04 ?_ | refine z05 ?_ | refine z08 ?_ | refine zp ?_ | refine z0g ?_ | refine z0h ?_ | refine z0j ?_ | refine z0k ?_
            | refine z0l ?_ | refine z0n ?_ | refine z0o ?_ | refine z0p ?_ | refine z0q ?_ | refine z0r ?_ | refine z0s ?_ | refine z0v ?_ | refine z0z ?_ | refine z12 ?_ | refine z14 ?_
            | refine z15 ?_ | refine z1e ?_ | refine z1f (hk := ?_) | refine z1i ?_ | refine z1j ?_ | refine z1k ?_ | refine z1l ?_ | refine z1m ?_ | refine z1n ?_
            | refine z1o (fun hp => ?_) (fun hp => ?_) | refine z1p (fun hp => ?_) (fun hp => ?_) | refine z1q (fun hp => ?_) (fun hp => ?_) | refine z1r ?_ | refine z1s ?_ | refine z1t ?_
            | refine z1u ?_ | refine z1v ?_ | refine z1w ?_ | refine z1x ?_ | refine z1y ?_ | refine z1z ?_ | refine z20 ?_ | refine z21 ?_ | refine z22 ?_ | refine z23 ?_ | refine z24 ?_
            | refine z25 ?_ | refine z26 ?_ | refine z27 ?_ | refine z28 (fun hp => ?_) (fun hp => ?_) | refine z29 (fun hp => ?_) (fun hp => ?_) | refine z2a ?_ | refine z2b ?_)
          exact wx_loopL (ih (i + 1) (by omega) (fun h => h0 (by rw [h])) (fun h => h1 (fun e => h (List.cons.inj e).2)))
        · repeat' (first
            | refine wo_eqa rfl rfl (eq_cellE (decide_eq_false hxy)) rfl ?_
            | refine wx_retL [4] ?_
            | refine z00 ?_ | refine z01 ?_ | refine z02 ?_ | refine z04 ?_ | refine z05 ?_ | refine z08 ?_ | refine zp ?_ | refine z0g ?_ | refine z0h ?_ | refine z0j ?_ | refine z0k ?_
            | refine z0l ?_ | refine z0n ?_ | refine z0o ?_ | refine z0p ?_ | refine z0q ?_ | refine z0r ?_ | refine z0s ?_ | refine z0v ?_ | refine z0z ?_ | refine z12 ?_ | refine z14 ?_
            | refine z15 ?_ | refine z1e ?_ | refine z1f (hk := ?_) | refine z1i ?_ | refine z1j ?_ | refine z1k ?_ | refine z1l ?_ | refine z1m ?_ | refine z1n ?_
            | refine z1o (fun hp => ?_) (fun hp => ?_) | refine z1p (fun hp => ?_) (fun hp => ?_) | refine z1q (fun hp => ?_) (fun hp => ?_) | refine z1r ?_ | refine z1s ?_ | refine z1t ?_
            | refine z1u ?_ | refine z1v ?_ | refine z1w ?_ | refine z1x ?_ | refine z1y ?_ | refine z1z ?_ | refine z20 ?_ | refine z21 ?_ | refine z22 ?_ | refine z23 ?_ | refine z24 ?_
            | refine z25 ?_ | refine z26 ?_ | refine z27 ?_ | refine z28 (fun hp => ?_) (fun hp => ?_) | refine z29 (fun hp => ?_) (fun hp => ?_) | refine z2a ?_ | refine z2b ?_)
          exact h1 (fun e => hxy (List.cons.inj e).1)
    repeat' (first
      | refine z00 ?_ | refine z01 ?_ | refine z02 ?_ | refine z04 ?_ | refine z05 ?_ | refine z08 ?_ | refine zp ?_ | refine z0g ?_ | refine z0h ?_ | refine z0j ?_ | refine z0k ?_
      | refine z0l ?_ | refine z0n ?_ | refine z0o ?_ | refine z0p ?_ | refine z0q ?_ | refine z0r ?_ | refine z0s ?_ | refine z0v ?_ | refine z0z ?_ | refine z12 ?_ | refine z14 ?_
      | refine z15 ?_ | refine z1e ?_ | refine z1f (hk := ?_) | refine z1i ?_ | refine z1j ?_ | refine z1k ?_ | refine z1l ?_ | refine z1m ?_ | refine z1n ?_
      | refine z1o (fun hp => ?_) (fun hp => ?_) | refine z1p (fun hp => ?_) (fun hp => ?_) | refine z1q (fun hp => ?_) (fun hp => ?_) | refine z1r ?_ | refine z1s ?_ | refine z1t ?_
      | refine z1u ?_ | refine z1v ?_ | refine z1w ?_ | refine z1x ?_ | refine z1y ?_ | refine z1z ?_ | refine z20 ?_ | refine z21 ?_ | refine z22 ?_ | refine z23 ?_ | refine z24 ?_
      | refine z25 ?_ | refine z26 ?_ | refine z27 ?_ | refine z28 (fun hp => ?_) (fun hp => ?_) | refine z29 (fun hp => ?_) (fun hp => ?_) | refine z2a ?_ | refine z2b ?_)
    refine wx_loopL ?_
    refine key a.length 0 (by omega) ?_ ?_
    · intro h
      have e : decide (a = b) = true := decide_eq_true h
      rw [e] at hQ
      repeat' (first
        | refine z00 ?_ | refine z01 ?_ | refine z02 ?_ | refine z04 ?_ | refine z05 ?_ | refine z08 ?_ | refine zp ?_ | refine z0g ?_ | refine z0h ?_ | refine z0j ?_ | refine z0k ?_
        | refine z0l ?_ | refine z0n ?_ | refine z0o ?_ | refine z0p ?_ | refine z0q ?_ | refine z0r ?_ | refine z0s ?_ | refine z0v ?_ | refine z0z ?_ | refine z12 ?_ | refine z14 ?_
        | refine z15 ?_ | refine z1e ?_ | refine z1f (hk := ?_) | refine z1i ?_ | refine z1j ?_ | refine z1k ?_ | refine z1l ?_ | refine z1m ?_ | refine z1n ?_
        | refine z1o (fun hp => ?_) (fun hp => ?_) | refine z1p (fun hp => ?_) (fun hp => ?_) | refine z1q (fun hp => ?_) (fun hp => ?_) | refine z1r ?_ | refine z1s ?_ | refine z1t ?_
        | refine z1u ?_ | refine z1v ?_ | refine z1w ?_ | refine z1x ?_ | refine z1y ?_ | refine z1z ?_ | refine z20 ?_ | refine z21 ?_ | refine z22 ?_ | refine z23 ?_ | refine z24 ?_
        | refine z25 ?_ | refine z26 ?_ | refine z27 ?_ | refine z28 (fun hp => ?_) (fun hp => ?_) | refine z29 (fun hp => ?_) (fun hp => ?_) | refine z2a ?_ | refine z2b ?_)
      exact fin_cln rfl hQ
    · intro h
      have e : decide (a = b) = false := decide_eq_false h
      rw [e] at hQ
      repeat' (first | refine then_r ?_ | refine block_r ?_)
      refine end_r rfl ?_
      exact fin_cln rfl hQ
  · have e : decide (a = b) = false := decide_eq_false fun h => hlen (by rw [h])
    rw [e] at hQ
    repeat' (first
      | refine z00 ?_ | refine z01 ?_ | refine z02 ?_ | refine z04 ?_ | refine z05 ?_ | refine z08 ?_ | refine zp ?_ | refine z0g ?_ | refine z0h ?_ | refine z0j ?_ | refine z0k ?_
      | refine z0l ?_ | refine z0n ?_ | refine z0o ?_ | refine z0p ?_ | refine z0q ?_ | refine z0r ?_ | refine z0s ?_ | refine z0v ?_ | refine z0z ?_ | refine z12 ?_ | refine z14 ?_
      | refine z15 ?_ | refine z1e ?_ | refine z1f (hk := ?_) | refine z1i ?_ | refine z1j ?_ | refine z1k ?_ | refine z1l ?_ | refine z1m ?_ | refine z1n ?_
      | refine z1o (fun hp => ?_) (fun hp => ?_) | refine z1p (fun hp => ?_) (fun hp => ?_) | refine z1q (fun hp => ?_) (fun hp => ?_) | refine z1r ?_ | refine z1s ?_ | refine z1t ?_
      | refine z1u ?_ | refine z1v ?_ | refine z1w ?_ | refine z1x ?_ | refine z1y ?_ | refine z1z ?_ | refine z20 ?_ | refine z21 ?_ | refine z22 ?_ | refine z23 ?_ | refine z24 ?_
      | refine z25 ?_ | refine z26 ?_ | refine z27 ?_ | refine z28 (fun hp => ?_) (fun hp => ?_) | refine z29 (fun hp => ?_) (fun hp => ?_) | refine z2a ?_ | refine z2b ?_)
    exact fin_cln rfl hQ

/-! ### The head of law15 -/

def threeF (x : Int) : List Cell := [⟨0, 0, 0, x, false, false⟩, ⟨0, 0, 1, x, false, true⟩, ⟨0, 0, 2, x, false, true⟩]
theorem c_three {x : Int} (hQ : Q (.lit (flat KCell.E (threeF x)) 3 (some 3)) m ls) : Wc ip f_law15_three [.int .i64 x] m ls Q := by
  refine wc_fn1 rfl fn_law15_three rfl rfl rfl ?_
  repeat' (first
    | refine z00 ?_ | refine z01 ?_ | refine z02 ?_ | refine z04 ?_ | refine z05 ?_ | refine z08 ?_ | refine zp ?_ | refine z0g ?_ | refine z0h ?_ | refine z0j ?_ | refine z0k ?_
    | refine z0l ?_ | refine z0n ?_ | refine z0o ?_ | refine z0p ?_ | refine z0q ?_ | refine z0r ?_ | refine z0s ?_ | refine z0v ?_ | refine z0z ?_ | refine z12 ?_ | refine z14 ?_
    | refine z15 ?_ | refine z1e ?_ | refine z1f (hk := ?_) | refine z1i ?_ | refine z1j ?_ | refine z1k ?_ | refine z1l ?_ | refine z1m ?_ | refine z1n ?_
    | refine z1o (fun hp => ?_) (fun hp => ?_) | refine z1p (fun hp => ?_) (fun hp => ?_) | refine z1q (fun hp => ?_) (fun hp => ?_) | refine z1r ?_ | refine z1s ?_ | refine z1t ?_
    | refine z1u ?_ | refine z1v ?_ | refine z1w ?_ | refine z1x ?_ | refine z1y ?_ | refine z1z ?_ | refine z20 ?_ | refine z21 ?_ | refine z22 ?_ | refine z23 ?_ | refine z24 ?_
    | refine z25 ?_ | refine z26 ?_ | refine z27 ?_ | refine z28 (fun hp => ?_) (fun hp => ?_) | refine z29 (fun hp => ?_) (fun hp => ?_) | refine z2a ?_ | refine z2b ?_)
  exact fin1_deep rfl hQ
theorem sl_three (x : Int) : Sl KCell (threeF x) (.lit (flat KCell.E (threeF x)) 3 (some 3)) := .inr ⟨some 3, rfl⟩
theorem ok_three {x : Int} (h : I64 x) : ∀ c ∈ threeF x, c.ok := by
  intro c hc
  simp [threeF] at hc
  rcases hc with rfl | rfl | rfl <;> exact h

theorem c_lines15 {x y : Int} {want : List Line} {w : MV} (he : firstL (threeF 10) (threeF 5) ⟨x, 0⟩ ⟨y, 0⟩ = (want, 0)) (hw : Sl KLine want w) (hl : want.length ≤ 1000) (hQ : Q (.bool true) m ls) : Wc ip f_law15_lines [.int .i64 x, .int .i64 y, w] m ls Q := by
  refine wc_fn3d rfl fn_law15_lines rfl (by simp [deepVs, deepV, hw.deep]) rfl ?_
  repeat' (first
    | refine wo_call rfl rfl rfl (c_three ?_)
    | refine wo_call rfl rfl rfl (c_firstLines (a := ⟨x, 0⟩) (b := ⟨y, 0⟩) (sl_three 10) (sl_three 5) (by decide) (by decide) (ok_three (by decide)) (ok_three (by decide)) (show I64 0 by decide) (show I64 0 by decide) ?_)
    | refine z00 ?_ | refine z01 ?_ | refine z02 ?_ | refine z04 ?_ | refine z05 ?_ | refine z08 ?_ | refine zp ?_ | refine z0g ?_ | refine z0h ?_ | refine z0j ?_ | refine z0k ?_
    | refine z0l ?_ | refine z0n ?_ | refine z0o ?_ | refine z0p ?_ | refine z0q ?_ | refine z0r ?_ | refine z0s ?_ | refine z0v ?_ | refine z0z ?_ | refine z12 ?_ | refine z14 ?_
    | refine z15 ?_ | refine z1e ?_ | refine z1f (hk := ?_) | refine z1i ?_ | refine z1j ?_ | refine z1k ?_ | refine z1l ?_ | refine z1m ?_ | refine z1n ?_
    | refine z1o (fun hp => ?_) (fun hp => ?_) | refine z1p (fun hp => ?_) (fun hp => ?_) | refine z1q (fun hp => ?_) (fun hp => ?_) | refine z1r ?_ | refine z1s ?_ | refine z1t ?_
    | refine z1u ?_ | refine z1v ?_ | refine z1w ?_ | refine z1x ?_ | refine z1y ?_ | refine z1z ?_ | refine z20 ?_ | refine z21 ?_ | refine z22 ?_ | refine z23 ?_ | refine z24 ?_
    | refine z25 ?_ | refine z26 ?_ | refine z27 ?_ | refine z28 (fun hp => ?_) (fun hp => ?_) | refine z29 (fun hp => ?_) (fun hp => ?_) | refine z2a ?_ | refine z2b ?_)
  rw [he]
  intro u hu
  have hu' : Sl KLine want u := hu
  repeat' (first
    | refine wo_call rfl rfl rfl (c_Same14 (decide_eq_true rfl) hu' hw (by omega) ?_)
    | refine z00 ?_ | refine z01 ?_ | refine z02 ?_ | refine z04 ?_ | refine z05 ?_ | refine z08 ?_ | refine zp ?_ | refine z0g ?_ | refine z0h ?_ | refine z0j ?_ | refine z0k ?_
    | refine z0l ?_ | refine z0n ?_ | refine z0o ?_ | refine z0p ?_ | refine z0q ?_ | refine z0r ?_ | refine z0s ?_ | refine z0v ?_ | refine z0z ?_ | refine z12 ?_ | refine z14 ?_
    | refine z15 ?_ | refine z1e ?_ | refine z1f (hk := ?_) | refine z1i ?_ | refine z1j ?_ | refine z1k ?_ | refine z1l ?_ | refine z1m ?_ | refine z1n ?_
    | refine z1o (fun hp => ?_) (fun hp => ?_) | refine z1p (fun hp => ?_) (fun hp => ?_) | refine z1q (fun hp => ?_) (fun hp => ?_) | refine z1r ?_ | refine z1s ?_ | refine z1t ?_
    | refine z1u ?_ | refine z1v ?_ | refine z1w ?_ | refine z1x ?_ | refine z1y ?_ | refine z1z ?_ | refine z20 ?_ | refine z21 ?_ | refine z22 ?_ | refine z23 ?_ | refine z24 ?_
    | refine z25 ?_ | refine z26 ?_ | refine z27 ?_ | refine z28 (fun hp => ?_) (fun hp => ?_) | refine z29 (fun hp => ?_) (fun hp => ?_) | refine z2a ?_ | refine z2b ?_)
  exact fin_cln rfl (by simpa [one] using hQ)

theorem c_head15 (hQ : Q (.bool true) m ls) : Wc ip f_law15_head [] m ls Q := by
  refine wc_fn3d rfl fn_law15_head rfl rfl rfl ?_
  have e1 : firstL (threeF 10) ((threeF 5).take 2) ⟨0, 0⟩ ⟨0, 0⟩ = ([], 2) := by kernel_rfl
  have e2 : firstC (threeF 1) (threeF 2) [⟨2, 4, false⟩] = none := by kernel_rfl
  have e3 : firstL (threeF 10) (threeF 5) ⟨10, 0⟩ ⟨10, 0⟩ = ([⟨0, 1, false⟩, ⟨1, 3, false⟩], 0) := by kernel_rfl
  have e4 : firstL (threeF 10) (threeF 5) ⟨20, 0⟩ ⟨5, 0⟩ = ([⟨0, 2, false⟩, ⟨2, 3, false⟩], 0) := by kernel_rfl
  have e5 : firstL (threeF 10) (threeF 5) ⟨30, 0⟩ ⟨0, 0⟩ = ([⟨0, 3, false⟩], 0) := by kernel_rfl
  have e6 : firstL (threeF 10) (threeF 5) ⟨0, 0⟩ ⟨0, 0⟩ = ([⟨0, 1, false⟩, ⟨1, 2, false⟩, ⟨2, 3, false⟩], 0) := by kernel_rfl
  have e7 : alikeF (threeF 1) (threeF 2) = true := by kernel_rfl
  repeat' (first
    | refine wo_call rfl rfl rfl (c_three ?_)
    | refine z00 ?_ | refine z01 ?_ | refine z02 ?_ | refine z04 ?_ | refine z05 ?_ | refine z08 ?_ | refine zp ?_ | refine z0g ?_ | refine z0h ?_ | refine z0j ?_ | refine z0k ?_
    | refine z0l ?_ | refine z0n ?_ | refine z0o ?_ | refine z0p ?_ | refine z0q ?_ | refine z0r ?_ | refine z0s ?_ | refine z0v ?_ | refine z0z ?_ | refine z12 ?_ | refine z14 ?_
    | refine z15 ?_ | refine z1e ?_ | refine z1f (hk := ?_) | refine z1i ?_ | refine z1j ?_ | refine z1k ?_ | refine z1l ?_ | refine z1m ?_ | refine z1n ?_
    | refine z1o (fun hp => ?_) (fun hp => ?_) | refine z1p (fun hp => ?_) (fun hp => ?_) | refine z1q (fun hp => ?_) (fun hp => ?_) | refine z1r ?_ | refine z1s ?_ | refine z1t ?_
    | refine z1u ?_ | refine z1v ?_ | refine z1w ?_ | refine z1x ?_ | refine z1y ?_ | refine z1z ?_ | refine z20 ?_ | refine z21 ?_ | refine z22 ?_ | refine z23 ?_ | refine z24 ?_
    | refine z25 ?_ | refine z26 ?_ | refine z27 ?_ | refine z28 (fun hp => ?_) (fun hp => ?_) | refine z29 (fun hp => ?_) (fun hp => ?_) | refine z2a ?_ | refine z2b ?_)
  refine wo_sliceS rfl (sl_three 5) rfl rfl (by simp [threeF]) rfl rfl fun v' hv' => ?_
  have hv2 : Sl KCell ((threeF 5).take 2) v' := hv'
  repeat' (first
    | refine wo_call rfl rfl rfl (c_three ?_)
    | refine wo_call rfl rfl rfl (c_firstLines (a := ⟨0, 0⟩) (b := ⟨0, 0⟩) (sl_three 10) hv2 (by decide) (by decide) (ok_three (by decide)) (fun c hc => ok_three (by decide) c (List.mem_of_mem_take hc)) (show I64 0 by decide) (show I64 0 by decide) ?_)
    | refine z00 ?_ | refine z01 ?_ | refine z02 ?_ | refine z04 ?_ | refine z05 ?_ | refine z08 ?_ | refine zp ?_ | refine z0g ?_ | refine z0h ?_ | refine z0j ?_ | refine z0k ?_
    | refine z0l ?_ | refine z0n ?_ | refine z0o ?_ | refine z0p ?_ | refine z0q ?_ | refine z0r ?_ | refine z0s ?_ | refine z0v ?_ | refine z0z ?_ | refine z12 ?_ | refine z14 ?_
    | refine z15 ?_ | refine z1e ?_ | refine z1f (hk := ?_) | refine z1i ?_ | refine z1j ?_ | refine z1k ?_ | refine z1l ?_ | refine z1m ?_ | refine z1n ?_
    | refine z1o (fun hp => ?_) (fun hp => ?_) | refine z1p (fun hp => ?_) (fun hp => ?_) | refine z1q (fun hp => ?_) (fun hp => ?_) | refine z1r ?_ | refine z1s ?_ | refine z1t ?_
    | refine z1u ?_ | refine z1v ?_ | refine z1w ?_ | refine z1x ?_ | refine z1y ?_ | refine z1z ?_ | refine z20 ?_ | refine z21 ?_ | refine z22 ?_ | refine z23 ?_ | refine z24 ?_
    | refine z25 ?_ | refine z26 ?_ | refine z27 ?_ | refine z28 (fun hp => ?_) (fun hp => ?_) | refine z29 (fun hp => ?_) (fun hp => ?_) | refine z2a ?_ | refine z2b ?_)
  rw [e1]
  intro u1 hu1
  have s24 : Sl KLine [⟨2, 4, false⟩] (.lit [.int .i64 2, .int .i64 4, .bool false] 1 (some 1)) := .inr ⟨some 1, rfl⟩
  repeat' (first
    | refine wo_call rfl rfl rfl (c_three ?_)
    | refine wo_call rfl rfl rfl (c_Cells (sl_three 1) (sl_three 2) s24 (by decide) (by decide) (by decide) (fun _ => ?_) (fun out h => absurd h (by rw [e2]; simp)))
    | refine z00 ?_ | refine z01 ?_ | refine z02 ?_ | refine z04 ?_ | refine z05 ?_ | refine z08 ?_ | refine zp ?_ | refine z0g ?_ | refine z0h ?_ | refine z0j ?_ | refine z0k ?_
    | refine z0l ?_ | refine z0n ?_ | refine z0o ?_ | refine z0p ?_ | refine z0q ?_ | refine z0r ?_ | refine z0s ?_ | refine z0v ?_ | refine z0z ?_ | refine z12 ?_ | refine z14 ?_
    | refine z15 ?_ | refine z1e ?_ | refine z1f (hk := ?_) | refine z1i ?_ | refine z1j ?_ | refine z1k ?_ | refine z1l ?_ | refine z1m ?_ | refine z1n ?_
    | refine z1o (fun hp => ?_) (fun hp => ?_) | refine z1p (fun hp => ?_) (fun hp => ?_) | refine z1q (fun hp => ?_) (fun hp => ?_) | refine z1r ?_ | refine z1s ?_ | refine z1t ?_
    | refine z1u ?_ | refine z1v ?_ | refine z1w ?_ | refine z1x ?_ | refine z1y ?_ | refine z1z ?_ | refine z20 ?_ | refine z21 ?_ | refine z22 ?_ | refine z23 ?_ | refine z24 ?_
    | refine z25 ?_ | refine z26 ?_ | refine z27 ?_ | refine z28 (fun hp => ?_) (fun hp => ?_) | refine z29 (fun hp => ?_) (fun hp => ?_) | refine z2a ?_ | refine z2b ?_)
  repeat' (first
    | refine wo_call rfl rfl rfl (c_three ?_)
    | refine wo_call rfl rfl rfl (c_lines15 e3 (.inr ⟨some 2, rfl⟩) (by decide) ?_)
    | refine wo_call rfl rfl rfl (c_lines15 e4 (.inr ⟨some 2, rfl⟩) (by decide) ?_)
    | refine wo_call rfl rfl rfl (c_lines15 e5 (.inr ⟨some 1, rfl⟩) (by decide) ?_)
    | refine wo_call rfl rfl rfl (c_lines15 e6 (.inr ⟨some 3, rfl⟩) (by decide) ?_)
    | refine wo_call rfl rfl rfl (c_Alike e7 (sl_three 1) (sl_three 2) (by decide) ?_)
    | refine z00 ?_ | refine z01 ?_ | refine z02 ?_ | refine z04 ?_ | refine z05 ?_ | refine z08 ?_ | refine zp ?_ | refine z0g ?_ | refine z0h ?_ | refine z0j ?_ | refine z0k ?_
    | refine z0l ?_ | refine z0n ?_ | refine z0o ?_ | refine z0p ?_ | refine z0q ?_ | refine z0r ?_ | refine z0s ?_ | refine z0v ?_ | refine z0z ?_ | refine z12 ?_ | refine z14 ?_
    | refine z15 ?_ | refine z1e ?_ | refine z1f (hk := ?_) | refine z1i ?_ | refine z1j ?_ | refine z1k ?_ | refine z1l ?_ | refine z1m ?_ | refine z1n ?_
    | refine z1o (fun hp => ?_) (fun hp => ?_) | refine z1p (fun hp => ?_) (fun hp => ?_) | refine z1q (fun hp => ?_) (fun hp => ?_) | refine z1r ?_ | refine z1s ?_ | refine z1t ?_
    | refine z1u ?_ | refine z1v ?_ | refine z1w ?_ | refine z1x ?_ | refine z1y ?_ | refine z1z ?_ | refine z20 ?_ | refine z21 ?_ | refine z22 ?_ | refine z23 ?_ | refine z24 ?_
    | refine z25 ?_ | refine z26 ?_ | refine z27 ?_ | refine z28 (fun hp => ?_) (fun hp => ?_) | refine z29 (fun hp => ?_) (fun hp => ?_) | refine z2a ?_ | refine z2b ?_)
  exact fin_cln rfl (by simpa [one] using hQ)

end
end Go.Proofs.Ytnekgoanadbmmaa
