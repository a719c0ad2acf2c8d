/-
The document's pens: ref01, ref12.
-/
import Derived.Test.YtnekgoanadbmmaaCe
namespace Go.Proofs.Ytnekgoanadbmmaa
open Go.Mini
set_option linter.unusedSimpArgs false
set_option linter.unusedVariables false
set_option maxHeartbeats 4000000

section
variable {m : Mem} {ls : List LRec} {Q : MV → Mem → List LRec → Prop}

def fitB (x : Int) : Bool := decide (-4611686018427387904 ≤ x ∧ x ≤ 4611686018427387904)
theorem fits_b {x : Int} : fits x = if fitB x = true then (x, 0) else (0, 10) := by
  unfold fits fitB
  by_cases h : x < -4611686018427387904 ∨ x > 4611686018427387904
  · rw [if_pos h, if_neg (by rw [decide_eq_true_eq]; omega)]
  · rw [if_neg h, if_pos (by rw [decide_eq_true_eq]; omega)]

theorem c_fits01 {x : Int} {b : Bool} (hb : fitB x = b) (hQ : Q (.bool b) m ls) : Wc ip f_ref01_fits [.int .i64 x] m ls Q := by
  subst hb
  refine wc_fn3d rfl fn_ref01_fits rfl rfl rfl ?_
  repeat' (first
    | refine z00 ?_ | refine z01 ?_ | refine z02 ?_ | refine z04 ?_ | refine z05 ?_ | refine z08 ?_ | refine zp ?_ | refine z0g ?_ | refine z0h ?_ | refine z0j ?_ | refine z0k ?_
    | refine z0l ?_ | refine z0n ?_ | refine z0o ?_ | refine z0p ?_ | refine z0q ?_ | refine z0r ?_ | refine z0s ?_ | refine z0v ?_ | refine z0z ?_ | refine z12 ?_ | refine z14 ?_
    | refine z15 ?_ | refine z1e ?_ | refine z1f (hk := ?_) | refine z1i ?_ | refine z1j ?_ | refine z1k ?_ | refine z1l ?_ | refine z1m ?_ | refine z1n ?_
    | refine z1o (fun hp => ?_) (fun hp => ?_) | refine z1p (fun hp => ?_) (fun hp => ?_) | refine z1q (fun hp => ?_) (fun hp => ?_) | refine z1r ?_ | refine z1s ?_ | refine z1t ?_
    | refine z1u ?_ | refine z1v ?_ | refine z1w ?_ | refine z1x ?_ | refine z1y ?_ | refine z1z ?_ | refine z20 ?_ | refine z21 ?_ | refine z22 ?_ | refine z23 ?_ | refine z24 ?_
    | refine z25 ?_ | refine z26 ?_ | refine z27 ?_ | refine z28 (fun hp => ?_) (fun hp => ?_) | refine z29 (fun hp => ?_) (fun hp => ?_) | refine z2a ?_ | refine z2b ?_)
  all_goals
    refine fin_cln rfl ?_
    have e : ∀ b : Bool, b = fitB x → Q (.bool b) m ls := fun b h => h ▸ hQ
    refine e _ ?_
    unfold fitB
    first
      | exact decide_eq_decide.2 (by omega)
      | exact (decide_eq_false (by omega)).symm
theorem c_fits12 {x : Int} {b : Bool} (hb : fitB x = b) (hQ : Q (.bool b) m ls) : Wc ip f_ref12_fits [.int .i64 x] m ls Q := by
  subst hb
  refine wc_fn3d rfl fn_ref12_fits rfl rfl rfl ?_
  repeat' (first
    | refine z00 ?_ | refine z01 ?_ | refine z02 ?_ | refine z04 ?_ | refine z05 ?_ | refine z08 ?_ | refine zp ?_ | refine z0g ?_ | refine z0h ?_ | refine z0j ?_ | refine z0k ?_
    | refine z0l ?_ | refine z0n ?_ | refine z0o ?_ | refine z0p ?_ | refine z0q ?_ | refine z0r ?_ | refine z0s ?_ | refine z0v ?_ | refine z0z ?_ | refine z12 ?_ | refine z14 ?_
    | refine z15 ?_ | refine z1e ?_ | refine z1f (hk := ?_) | refine z1i ?_ | refine z1j ?_ | refine z1k ?_ | refine z1l ?_ | refine z1m ?_ | refine z1n ?_
    | refine z1o (fun hp => ?_) (fun hp => ?_) | refine z1p (fun hp => ?_) (fun hp => ?_) | refine z1q (fun hp => ?_) (fun hp => ?_) | refine z1r ?_ | refine z1s ?_ | refine z1t ?_
    | refine z1u ?_ | refine z1v ?_ | refine z1w ?_ | refine z1x ?_ | refine z1y ?_ | refine z1z ?_ | refine z20 ?_ | refine z21 ?_ | refine z22 ?_ | refine z23 ?_ | refine z24 ?_
    | refine z25 ?_ | refine z26 ?_ | refine z27 ?_ | refine z28 (fun hp => ?_) (fun hp => ?_) | refine z29 (fun hp => ?_) (fun hp => ?_) | refine z2a ?_ | refine z2b ?_)
  all_goals
    refine fin_cln rfl ?_
    have e : ∀ b : Bool, b = fitB x → Q (.bool b) m ls := fun b h => h ▸ hQ
    refine e _ ?_
    unfold fitB
    first
      | exact decide_eq_decide.2 (by omega)
      | exact (decide_eq_false (by omega)).symm

theorem div_parts (x : Int) : ∃ q t : Int, x.tdiv 1000000 = q ∧ x.tmod 1000000 = t ∧ 1000000 * q + t = x ∧ -1000000 < t ∧ t < 1000000 ∧ (0 ≤ x → 0 ≤ t) ∧ (x ≤ 0 → t ≤ 0) := by
  refine ⟨_, _, rfl, rfl, Int.mul_tdiv_add_tmod x 1000000, ?_, ?_, ?_, ?_⟩
  · exact (tmod_bd (x := x) (y := 1000000) (by omega)).1
  · exact (tmod_bd (x := x) (y := 1000000) (by omega)).2
  · exact fun h => Int.tmod_nonneg _ h
  · intro h
    have := Int.tmod_nonneg (a := -x) 1000000 (by omega)
    rw [Int.neg_tmod] at this
    omega

theorem wo_quoE {P : IProg} {nt : Nat} {A : As} {d : Option Nat} {l : List IOper} {Q : As → Mem → List LRec → Prop} {x y : Opd} {a b q : Int} (he : a.tdiv b = q) (hx : lk A x = some (.int .i64 a)) (hy : lk A y = some (.int .i64 b)) (h0 : b ≠ 0) (h : -9223372036854775808 ≤ q ∧ q ≤ 9223372036854775807) (hd : okD nt d = true)
    (hk : Wo P nt l (putA A d (.int .i64 q)) m ls Q) : Wo P nt (⟨d, none, .bin .quo x y⟩ :: l) A m ls Q := by
  subst he
  exact wo_quo hx hy h0 (wrap_i64 h.1 h.2) hd hk
theorem wo_remE {P : IProg} {nt : Nat} {A : As} {d : Option Nat} {l : List IOper} {Q : As → Mem → List LRec → Prop} {x y : Opd} {a b t : Int} (he : a.tmod b = t) (hx : lk A x = some (.int .i64 a)) (hy : lk A y = some (.int .i64 b)) (h0 : b ≠ 0) (hd : okD nt d = true)
    (hk : Wo P nt l (putA A d (.int .i64 t)) m ls Q) : Wo P nt (⟨d, none, .bin .rem x y⟩ :: l) A m ls Q := by
  subst he
  exact wo_rem hx hy h0 hd hk

theorem c_sum01 {xs : List Int} {v : MV} (hv : Sl KI64 xs v) (hr : ∀ x ∈ xs, I64 x) (hn : xs.length ≤ 1000) (hQ : Q (two (sumF xs)) m ls) : Wc ip f_ref01_Sum [v] m ls Q := by
  refine wc_fn3d rfl fn_ref01_Sum rfl (by simp [deepVs, hv.deep]) rfl ?_
  repeat' (first
    | refine z00 ?_ | refine z01 ?_ | refine z02 ?_ | refine z04 ?_ | refine z05 ?_ | refine z08 ?_ | refine zp ?_ | refine z0g ?_ | refine z0h ?_ | refine z0j ?_ | refine z0k ?_
    | refine z0l ?_ | refine z0n ?_ | refine z0o ?_ | refine z0p ?_ | refine z0q ?_ | refine z0r ?_ | refine z0s ?_ | refine z0v ?_ | refine z0z ?_ | refine z12 ?_ | refine z14 ?_
    | refine z15 ?_ | refine z1e ?_ | refine z1f (hk := ?_) | refine z1i ?_ | refine z1j ?_ | refine z1k ?_ | refine z1l ?_ | refine z1m ?_ | refine z1n ?_
    | refine z1o (fun hp => ?_) (fun hp => ?_) | refine z1p (fun hp => ?_) (fun hp => ?_) | refine z1q (fun hp => ?_) (fun hp => ?_) | refine z1r ?_ | refine z1s ?_ | refine z1t ?_
    | refine z1u ?_ | refine z1v ?_ | refine z1w ?_ | refine z1x ?_ | refine z1y ?_ | refine z1z ?_ | refine z20 ?_ | refine z21 ?_ | refine z22 ?_ | refine z23 ?_ | refine z24 ?_
    | refine z25 ?_ | refine z26 ?_ | refine z27 ?_ | refine z28 (fun hp => ?_) (fun hp => ?_) | refine z29 (fun hp => ?_) (fun hp => ?_) | refine z2a ?_ | refine z2b ?_)
  refine wx_loopL ?_
  have key : ∀ k i : Nat, i + k = xs.length → ∀ (hi lo : Int), hi * 1000000 + lo = (xs.take i).sum → -9223372036855 * (i : Int) ≤ hi → hi ≤ 9223372036855 * (i : Int) → -1000000 * (i : Int) ≤ lo → lo ≤ 1000000 * (i : Int) →
      ∀ {R : Ex → As → Mem → List LRec → Prop}, (∀ hi lo : Int, hi * 1000000 + lo = xs.sum → -9223372036855000 ≤ hi → hi ≤ 9223372036855000 → -1000000000 ≤ lo → lo ≤ 1000000000 → R (.exit 0) [(4, .int .i64 hi), (5, .int .i64 lo)] [] []) →
      Wx ip i_ref01_Sum.nt (.loop (lv [0, 4, 5, 6] 48) ref01_Sum_b0) [(0, v), (4, .int .i64 hi), (5, .int .i64 lo), (6, .int .i64 i)] [] [] R := by
    intro k
    induction k with
    | zero =>
      intro i hk hi lo hs h1 h2 h3 h4 R hR
      refine wx_roundL rfl ?_
      repeat' (first
        | refine wx_exitL [4, 5] ?_
        | refine z00 ?_ | refine z01 ?_ | refine z02 ?_ | refine z04 ?_ | refine z05 ?_ | refine z08 ?_ | refine zp ?_ | refine z0g ?_ | refine z0h ?_ | refine z0j ?_ | refine z0k ?_
        | refine z0l ?_ | refine z0n ?_ | refine z0o ?_ | refine z0p ?_ | refine z0q ?_ | refine z0r ?_ | refine z0s ?_ | refine z0v ?_ | refine z0z ?_ | refine z12 ?_ | refine z14 ?_
        | refine z15 ?_ | refine z1e ?_ | refine z1f (hk := ?_) | refine z1i ?_ | refine z1j ?_ | refine z1k ?_ | refine z1l ?_ | refine z1m ?_ | refine z1n ?_
        | refine z1o (fun hp => ?_) (fun hp => ?_) | refine z1p (fun hp => ?_) (fun hp => ?_) | refine z1q (fun hp => ?_) (fun hp => ?_) | refine z1r ?_ | refine z1s ?_ | refine z1t ?_
        | refine z1u ?_ | refine z1v ?_ | refine z1w ?_ | refine z1x ?_ | refine z1y ?_ | refine z1z ?_ | refine z20 ?_ | refine z21 ?_ | refine z22 ?_ | refine z23 ?_ | refine z24 ?_
        | refine z25 ?_ | refine z26 ?_ | refine z27 ?_ | refine z28 (fun hp => ?_) (fun hp => ?_) | refine z29 (fun hp => ?_) (fun hp => ?_) | refine z2a ?_ | refine z2b ?_)
      refine hR _ _ ?_ (by omega) (by omega) (by omega) (by omega)
      rw [hs, List.take_of_length_le (by omega)]
    | succ k ih =>
      intro i hk hi lo hs h1 h2 h3 h4 R hR
      have hlt : i < xs.length := by omega
      have hx := hr _ (List.getElem_mem hlt)
      unfold I64 at hx
      have hst := sum_take hlt
      obtain ⟨q, t, e1, e2, e3, t1, t2, t3, t4⟩ := div_parts xs[i]
      have hq : -9223372036855 ≤ q ∧ q ≤ 9223372036855 := by omega
      refine wx_roundL rfl ?_
      repeat' (first
        | refine wo_quoE e1 rfl rfl (by decide) (by omega) rfl ?_
        | refine wo_remE e2 rfl rfl (by decide) rfl ?_
        | refine z00 ?_ | refine z01 ?_ | refine z02 ?_ | refine z04 ?_ | refine z05 ?_ | refine z08 ?_ | refine zp ?_ | refine z0g ?_ | refine z0h ?_ | refine z0j ?_ | refine z0k ?_
        | refine z0l ?_ | refine z0n ?_ | refine z0o ?_ | refine z0p ?_ | refine z0q ?_ | refine z0r ?_ | refine z0s ?_ | refine z0v ?_ | refine z0z ?_ | refine z12 ?_ | refine z14 ?_
        | refine z15 ?_ | refine z1e ?_ | refine z1f (hk := ?_) | refine z1i ?_ | refine z1j ?_ | refine z1k ?_ | refine z1l ?_ | refine z1m ?_ | refine z1n ?_
        | refine z1o (fun hp => ?_) (fun hp => ?_) | refine z1p (fun hp => ?_) (fun hp => ?_) | refine z1q (fun hp => ?_) (fun hp => ?_) | refine z1r ?_ | refine z1s ?_ | refine z1t ?_
        | refine z1u ?_ | refine z1v ?_ | refine z1w ?_ | refine z1x ?_ | refine z1y ?_ | refine z1z ?_ | refine z20 ?_ | refine z21 ?_ | refine z22 ?_ | refine z23 ?_ | refine z24 ?_
        | refine z25 ?_ | refine z26 ?_ | refine z27 ?_ | refine z28 (fun hp => ?_) (fun hp => ?_) | refine z29 (fun hp => ?_) (fun hp => ?_) | refine z2a ?_ | refine z2b ?_)
      refine wx_loopL ?_
      exact ih (i + 1) (by omega) (hi + q) (lo + t) (by rw [hst, ← hs, ← e3]; omega) (by omega) (by omega) (by omega) (by omega) hR
  refine key xs.length 0 (by omega) 0 0 (by simp) (by omega) (by omega) (by omega) (by omega) ?_
  intro hi lo hs b1 b2 b3 b4
  clear key
  obtain ⟨q, t, e1, e2, e3, t1, t2, _, _⟩ := div_parts lo
  have hq : -1001 ≤ q ∧ q ≤ 1001 := by omega
  have hS : (hi + q) * 1000000 + t = xs.sum := by omega
  by_cases hbig : 4611686018428 < hi + q ∨ hi + q < -4611686018428
  · have e : sumF xs = (0, 10) := by
      unfold sumF fits
      rw [if_pos (by omega)]
    rw [e] at hQ
    repeat' (first
      | refine wo_quoE e1 rfl rfl (by decide) (by omega) rfl ?_
      | refine wo_remE e2 rfl rfl (by decide) rfl ?_
      | refine z00 ?_ | refine z01 ?_ | refine z02 ?_ | refine z04 ?_ | refine z05 ?_ | refine z08 ?_ | refine zp ?_ | refine z0g ?_ | refine z0h ?_ | refine z0j ?_ | refine z0k ?_
      | refine z0l ?_ | refine z0n ?_ | refine z0o ?_ | refine z0p ?_ | refine z0q ?_ | refine z0r ?_ | refine z0s ?_ | refine z0v ?_ | refine z0z ?_ | refine z12 ?_ | refine z14 ?_
      | refine z15 ?_ | refine z1e ?_ | refine z1f (hk := ?_) | refine z1i ?_ | refine z1j ?_ | refine z1k ?_ | refine z1l ?_ | refine z1m ?_ | refine z1n ?_
      | refine z1o (fun hp => ?_) (fun hp => ?_) | refine z1p (fun hp => ?_) (fun hp => ?_) | refine z1q (fun hp => ?_) (fun hp => ?_) | refine z1r ?_ | refine z1s ?_ | refine z1t ?_
      | refine z1u ?_ | refine z1v ?_ | refine z1w ?_ | refine z1x ?_ | refine z1y ?_ | refine z1z ?_ | refine z20 ?_ | refine z21 ?_ | refine z22 ?_ | refine z23 ?_ | refine z24 ?_
      | refine z25 ?_ | refine z26 ?_ | refine z27 ?_ | refine z28 (fun hp => ?_) (fun hp => ?_) | refine z29 (fun hp => ?_) (fun hp => ?_) | refine z2a ?_ | refine z2b ?_)
    all_goals exact fin_cln rfl hQ
  · have hn1 : ¬ 4611686018428 < hi + q := fun h => hbig (.inl h)
    have hn2 : ¬ hi + q < -4611686018428 := fun h => hbig (.inr h)
    have e : sumF xs = if fitB ((hi + q) * 1000000 + t) = true then ((hi + q) * 1000000 + t, 0) else (0, 10) := by
      unfold sumF
      rw [← hS, fits_b]
    rw [e] at hQ
    clear hbig e
    cases hb : fitB ((hi + q) * 1000000 + t) with
    | true =>
      rw [hb, if_pos rfl] at hQ
      repeat' (first
        | refine wo_quoE e1 rfl rfl (by decide) (by omega) rfl ?_
        | refine wo_remE e2 rfl rfl (by decide) rfl ?_
        | refine wo_mulO rfl rfl (by omega) rfl ?_
        | refine wo_call rfl rfl rfl (c_fits01 hb ?_)
        | refine z00 ?_ | refine z01 ?_ | refine z02 ?_ | refine z04 ?_ | refine z05 ?_ | refine z08 ?_ | refine zp ?_ | refine z0g ?_ | refine z0h ?_ | refine z0j ?_ | refine z0k ?_
        | refine z0l ?_ | refine z0n ?_ | refine z0o ?_ | refine z0p ?_ | refine z0q ?_ | refine z0r ?_ | refine z0s ?_ | refine z0v ?_ | refine z0z ?_ | refine z12 ?_ | refine z14 ?_
        | refine z15 ?_ | refine z1e ?_ | refine z1f (hk := ?_) | refine z1i ?_ | refine z1j ?_ | refine z1k ?_ | refine z1l ?_ | refine z1m ?_ | refine z1n ?_
        | refine z1o (fun hp => ?_) (fun hp => ?_) | refine z1p (fun hp => ?_) (fun hp => ?_) | refine z1q (fun hp => ?_) (fun hp => ?_) | refine z1r ?_ | refine z1s ?_ | refine z1t ?_
        | refine z1u ?_ | refine z1v ?_ | refine z1w ?_ | refine z1x ?_ | refine z1y ?_ | refine z1z ?_ | refine z20 ?_ | refine z21 ?_ | refine z22 ?_ | refine z23 ?_ | refine z24 ?_
        | refine z25 ?_ | refine z26 ?_ | refine z27 ?_ | refine z28 (fun hp => ?_) (fun hp => ?_) | refine z29 (fun hp => ?_) (fun hp => ?_) | refine z2a ?_ | refine z2b ?_)
      exact fin_cln rfl hQ
    | false =>
      rw [hb, if_neg (by simp)] at hQ
      repeat' (first
        | refine wo_quoE e1 rfl rfl (by decide) (by omega) rfl ?_
        | refine wo_remE e2 rfl rfl (by decide) rfl ?_
        | refine wo_mulO rfl rfl (by omega) rfl ?_
        | refine wo_call rfl rfl rfl (c_fits01 hb ?_)
        | refine z00 ?_ | refine z01 ?_ | refine z02 ?_ | refine z04 ?_ | refine z05 ?_ | refine z08 ?_ | refine zp ?_ | refine z0g ?_ | refine z0h ?_ | refine z0j ?_ | refine z0k ?_
        | refine z0l ?_ | refine z0n ?_ | refine z0o ?_ | refine z0p ?_ | refine z0q ?_ | refine z0r ?_ | refine z0s ?_ | refine z0v ?_ | refine z0z ?_ | refine z12 ?_ | refine z14 ?_
        | refine z15 ?_ | refine z1e ?_ | refine z1f (hk := ?_) | refine z1i ?_ | refine z1j ?_ | refine z1k ?_ | refine z1l ?_ | refine z1m ?_ | refine z1n ?_
        | refine z1o (fun hp => ?_) (fun hp => ?_) | refine z1p (fun hp => ?_) (fun hp => ?_) | refine z1q (fun hp => ?_) (fun hp => ?_) | refine z1r ?_ | refine z1s ?_ | refine z1t ?_
        | refine z1u ?_ | refine z1v ?_ | refine z1w ?_ | refine z1x ?_ | refine z1y ?_ | refine z1z ?_ | refine z20 ?_ | refine z21 ?_ | refine z22 ?_ | refine z23 ?_ | refine z24 ?_
        | refine z25 ?_ | refine z26 ?_ | refine z27 ?_ | refine z28 (fun hp => ?_) (fun hp => ?_) | refine z29 (fun hp => ?_) (fun hp => ?_) | refine z2a ?_ | refine z2b ?_)
      exact fin_cln rfl hQ

theorem c_sum01_2 {x y : Int} {kc : Option Nat} (hx : I64 x) (hy : I64 y) (hQ : Q (two (fits (x + y))) m ls) : Wc ip f_ref01_Sum [.lit [.int .i64 x, .int .i64 y] 2 kc] m ls Q :=
  c_sum01 (xs := [x, y]) .lit (by simpa using ⟨hx, hy⟩) (by simp) (by simpa [sumF] using hQ)
theorem c_sum01_3 {x y z : Int} {kc : Option Nat} (hx : I64 x) (hy : I64 y) (hz : I64 z) (hQ : Q (two (fits (x + (y + z)))) m ls) : Wc ip f_ref01_Sum [.lit [.int .i64 x, .int .i64 y, .int .i64 z] 3 kc] m ls Q :=
  c_sum01 (xs := [x, y, z]) .lit (by simpa using ⟨hx, hy, hz⟩) (by simp) (by simpa [sumF] using hQ)

theorem c_stop01 {x y : Int} (hx : I64 x) (hy : I64 y) (hQ : Q (two (stopF x y)) m ls) : Wc ip f_ref01_Stop [.int .i64 x, .int .i64 y] m ls Q := by
  have hx2 := hx
  have hy2 := hy
  unfold I64 at hx2 hy2
  refine wc_fn3d rfl fn_ref01_Stop rfl rfl rfl ?_
  by_cases h1 : y < 1
  · repeat' (first
      | refine z00 ?_ | refine z01 ?_ | refine z02 ?_ | refine z04 ?_ | refine z05 ?_ | refine z08 ?_ | refine zp ?_ | refine z0g ?_ | refine z0h ?_ | refine z0j ?_ | refine z0k ?_
      | refine z0l ?_ | refine z0n ?_ | refine z0o ?_ | refine z0p ?_ | refine z0q ?_ | refine z0r ?_ | refine z0s ?_ | refine z0v ?_ | refine z0z ?_ | refine z12 ?_ | refine z14 ?_
      | refine z15 ?_ | refine z1e ?_ | refine z1f (hk := ?_) | refine z1i ?_ | refine z1j ?_ | refine z1k ?_ | refine z1l ?_ | refine z1m ?_ | refine z1n ?_
      | refine z1o (fun hp => ?_) (fun hp => ?_) | refine z1p (fun hp => ?_) (fun hp => ?_) | refine z1q (fun hp => ?_) (fun hp => ?_) | refine z1r ?_ | refine z1s ?_ | refine z1t ?_
      | refine z1u ?_ | refine z1v ?_ | refine z1w ?_ | refine z1x ?_ | refine z1y ?_ | refine z1z ?_ | refine z20 ?_ | refine z21 ?_ | refine z22 ?_ | refine z23 ?_ | refine z24 ?_
      | refine z25 ?_ | refine z26 ?_ | refine z27 ?_ | refine z28 (fun hp => ?_) (fun hp => ?_) | refine z29 (fun hp => ?_) (fun hp => ?_) | refine z2a ?_ | refine z2b ?_)
    refine fin_cln rfl ?_
    simpa [one, two, stopF, h1] using hQ
  · have hb := tmod_bd (x := x) (y := y) (by omega)
    by_cases h2 : x.tmod y < 0
    · repeat' (first
        | refine wo_rem rfl rfl (by omega) rfl ?_
        | refine wo_call rfl rfl rfl (c_sum01_3 hx (by unfold I64; omega) hy ?_)
        | refine z00 ?_ | refine z01 ?_ | refine z02 ?_ | refine z04 ?_ | refine z05 ?_ | refine z08 ?_ | refine zp ?_ | refine z0g ?_ | refine z0h ?_ | refine z0j ?_ | refine z0k ?_
        | refine z0l ?_ | refine z0n ?_ | refine z0o ?_ | refine z0p ?_ | refine z0q ?_ | refine z0r ?_ | refine z0s ?_ | refine z0v ?_ | refine z0z ?_ | refine z12 ?_ | refine z14 ?_
        | refine z15 ?_ | refine z1e ?_ | refine z1f (hk := ?_) | refine z1i ?_ | refine z1j ?_ | refine z1k ?_ | refine z1l ?_ | refine z1m ?_ | refine z1n ?_
        | refine z1o (fun hp => ?_) (fun hp => ?_) | refine z1p (fun hp => ?_) (fun hp => ?_) | refine z1q (fun hp => ?_) (fun hp => ?_) | refine z1r ?_ | refine z1s ?_ | refine z1t ?_
        | refine z1u ?_ | refine z1v ?_ | refine z1w ?_ | refine z1x ?_ | refine z1y ?_ | refine z1z ?_ | refine z20 ?_ | refine z21 ?_ | refine z22 ?_ | refine z23 ?_ | refine z24 ?_
        | refine z25 ?_ | refine z26 ?_ | refine z27 ?_ | refine z28 (fun hp => ?_) (fun hp => ?_) | refine z29 (fun hp => ?_) (fun hp => ?_) | refine z2a ?_ | refine z2b ?_)
      refine fin_cln rfl ?_
      simpa [one, two, stopF, h1, h2] using hQ
    · repeat' (first
        | refine wo_rem rfl rfl (by omega) rfl ?_
        | refine wo_call rfl rfl rfl (c_sum01_3 hx (by unfold I64; omega) hy ?_)
        | refine z00 ?_ | refine z01 ?_ | refine z02 ?_ | refine z04 ?_ | refine z05 ?_ | refine z08 ?_ | refine zp ?_ | refine z0g ?_ | refine z0h ?_ | refine z0j ?_ | refine z0k ?_
        | refine z0l ?_ | refine z0n ?_ | refine z0o ?_ | refine z0p ?_ | refine z0q ?_ | refine z0r ?_ | refine z0s ?_ | refine z0v ?_ | refine z0z ?_ | refine z12 ?_ | refine z14 ?_
        | refine z15 ?_ | refine z1e ?_ | refine z1f (hk := ?_) | refine z1i ?_ | refine z1j ?_ | refine z1k ?_ | refine z1l ?_ | refine z1m ?_ | refine z1n ?_
        | refine z1o (fun hp => ?_) (fun hp => ?_) | refine z1p (fun hp => ?_) (fun hp => ?_) | refine z1q (fun hp => ?_) (fun hp => ?_) | refine z1r ?_ | refine z1s ?_ | refine z1t ?_
        | refine z1u ?_ | refine z1v ?_ | refine z1w ?_ | refine z1x ?_ | refine z1y ?_ | refine z1z ?_ | refine z20 ?_ | refine z21 ?_ | refine z22 ?_ | refine z23 ?_ | refine z24 ?_
        | refine z25 ?_ | refine z26 ?_ | refine z27 ?_ | refine z28 (fun hp => ?_) (fun hp => ?_) | refine z29 (fun hp => ?_) (fun hp => ?_) | refine z2a ?_ | refine z2b ?_)
      refine fin_cln rfl ?_
      simpa [one, two, stopF, h1, h2] using hQ

theorem c_step12 {c : Cell} {x : Int} {p : Int × Int} (hp : stepF c x = p) (hx : I64 x) (hc : I64 c.adv) (hQ : Q (two p) m ls) : Wc ip f_ref12_Step [.agg c.mv, .int .i64 x] m ls Q := by
  subst hp
  refine wc_fn3d rfl fn_ref12_Step rfl rfl rfl ?_
  unfold stepF at hQ
  by_cases h1 : c.kind = 4
  · by_cases h2 : c.adv < 0
    · rw [if_pos ⟨h1, h2⟩] at hQ
      repeat' (first
        | refine z00 ?_ | refine z01 ?_ | refine z02 ?_ | refine z04 ?_ | refine z05 ?_ | refine z08 ?_ | refine zp ?_ | refine z0g ?_ | refine z0h ?_ | refine z0j ?_ | refine z0k ?_
        | refine z0l ?_ | refine z0n ?_ | refine z0o ?_ | refine z0p ?_ | refine z0q ?_ | refine z0r ?_ | refine z0s ?_ | refine z0v ?_ | refine z0z ?_ | refine z12 ?_ | refine z14 ?_
        | refine z15 ?_ | refine z1e ?_ | refine z1f (hk := ?_) | refine z1i ?_ | refine z1j ?_ | refine z1k ?_ | refine z1l ?_ | refine z1m ?_ | refine z1n ?_
        | refine z1o (fun hp => ?_) (fun hp => ?_) | refine z1p (fun hp => ?_) (fun hp => ?_) | refine z1q (fun hp => ?_) (fun hp => ?_) | refine z1r ?_ | refine z1s ?_ | refine z1t ?_
        | refine z1u ?_ | refine z1v ?_ | refine z1w ?_ | refine z1x ?_ | refine z1y ?_ | refine z1z ?_ | refine z20 ?_ | refine z21 ?_ | refine z22 ?_ | refine z23 ?_ | refine z24 ?_
        | refine z25 ?_ | refine z26 ?_ | refine z27 ?_ | refine z28 (fun hp => ?_) (fun hp => ?_) | refine z29 (fun hp => ?_) (fun hp => ?_) | refine z2a ?_ | refine z2b ?_)
      exact fin_cln rfl hQ
    · rw [if_neg (by omega), if_neg (by omega)] at hQ
      rw [fits_b] at hQ
      cases hb : fitB x with
      | false =>
        rw [hb, if_neg (show ¬ false = true by simp), if_pos (by simp)] at hQ
        repeat' (first
          | refine wo_call rfl rfl rfl (c_fits12 hb ?_)
          | refine z00 ?_ | refine z01 ?_ | refine z02 ?_ | refine z04 ?_ | refine z05 ?_ | refine z08 ?_ | refine zp ?_ | refine z0g ?_ | refine z0h ?_ | refine z0j ?_ | refine z0k ?_
          | refine z0l ?_ | refine z0n ?_ | refine z0o ?_ | refine z0p ?_ | refine z0q ?_ | refine z0r ?_ | refine z0s ?_ | refine z0v ?_ | refine z0z ?_ | refine z12 ?_ | refine z14 ?_
          | refine z15 ?_ | refine z1e ?_ | refine z1f (hk := ?_) | refine z1i ?_ | refine z1j ?_ | refine z1k ?_ | refine z1l ?_ | refine z1m ?_ | refine z1n ?_
          | refine z1o (fun hp => ?_) (fun hp => ?_) | refine z1p (fun hp => ?_) (fun hp => ?_) | refine z1q (fun hp => ?_) (fun hp => ?_) | refine z1r ?_ | refine z1s ?_ | refine z1t ?_
          | refine z1u ?_ | refine z1v ?_ | refine z1w ?_ | refine z1x ?_ | refine z1y ?_ | refine z1z ?_ | refine z20 ?_ | refine z21 ?_ | refine z22 ?_ | refine z23 ?_ | refine z24 ?_
          | refine z25 ?_ | refine z26 ?_ | refine z27 ?_ | refine z28 (fun hp => ?_) (fun hp => ?_) | refine z29 (fun hp => ?_) (fun hp => ?_) | refine z2a ?_ | refine z2b ?_)
        exact fin_cln rfl hQ
      | true =>
        rw [hb, if_pos (show true = true from rfl), if_neg (by simp)] at hQ
        by_cases h3 : c.adv = 0
        · rw [if_pos h3] at hQ
          repeat' (first
            | refine wo_call rfl rfl rfl (c_fits12 hb ?_)
            | refine z00 ?_ | refine z01 ?_ | refine z02 ?_ | refine z04 ?_ | refine z05 ?_ | refine z08 ?_ | refine zp ?_ | refine z0g ?_ | refine z0h ?_ | refine z0j ?_ | refine z0k ?_
            | refine z0l ?_ | refine z0n ?_ | refine z0o ?_ | refine z0p ?_ | refine z0q ?_ | refine z0r ?_ | refine z0s ?_ | refine z0v ?_ | refine z0z ?_ | refine z12 ?_ | refine z14 ?_
            | refine z15 ?_ | refine z1e ?_ | refine z1f (hk := ?_) | refine z1i ?_ | refine z1j ?_ | refine z1k ?_ | refine z1l ?_ | refine z1m ?_ | refine z1n ?_
            | refine z1o (fun hp => ?_) (fun hp => ?_) | refine z1p (fun hp => ?_) (fun hp => ?_) | refine z1q (fun hp => ?_) (fun hp => ?_) | refine z1r ?_ | refine z1s ?_ | refine z1t ?_
            | refine z1u ?_ | refine z1v ?_ | refine z1w ?_ | refine z1x ?_ | refine z1y ?_ | refine z1z ?_ | refine z20 ?_ | refine z21 ?_ | refine z22 ?_ | refine z23 ?_ | refine z24 ?_
            | refine z25 ?_ | refine z26 ?_ | refine z27 ?_ | refine z28 (fun hp => ?_) (fun hp => ?_) | refine z29 (fun hp => ?_) (fun hp => ?_) | refine z2a ?_ | refine z2b ?_)
          exact fin_cln rfl hQ
        · rw [if_neg h3] at hQ
          repeat' (first
            | refine wo_call rfl rfl rfl (c_fits12 hb ?_)
            | refine wo_call rfl rfl rfl (c_stop01 hx hc ?_)
            | refine z00 ?_ | refine z01 ?_ | refine z02 ?_ | refine z04 ?_ | refine z05 ?_ | refine z08 ?_ | refine zp ?_ | refine z0g ?_ | refine z0h ?_ | refine z0j ?_ | refine z0k ?_
            | refine z0l ?_ | refine z0n ?_ | refine z0o ?_ | refine z0p ?_ | refine z0q ?_ | refine z0r ?_ | refine z0s ?_ | refine z0v ?_ | refine z0z ?_ | refine z12 ?_ | refine z14 ?_
            | refine z15 ?_ | refine z1e ?_ | refine z1f (hk := ?_) | refine z1i ?_ | refine z1j ?_ | refine z1k ?_ | refine z1l ?_ | refine z1m ?_ | refine z1n ?_
            | refine z1o (fun hp => ?_) (fun hp => ?_) | refine z1p (fun hp => ?_) (fun hp => ?_) | refine z1q (fun hp => ?_) (fun hp => ?_) | refine z1r ?_ | refine z1s ?_ | refine z1t ?_
            | refine z1u ?_ | refine z1v ?_ | refine z1w ?_ | refine z1x ?_ | refine z1y ?_ | refine z1z ?_ | refine z20 ?_ | refine z21 ?_ | refine z22 ?_ | refine z23 ?_ | refine z24 ?_
            | refine z25 ?_ | refine z26 ?_ | refine z27 ?_ | refine z28 (fun hp => ?_) (fun hp => ?_) | refine z29 (fun hp => ?_) (fun hp => ?_) | refine z2a ?_ | refine z2b ?_)
          exact fin_cln rfl hQ
  · rw [if_neg (by omega), if_pos h1] at hQ
    repeat' (first
      | refine wo_call rfl rfl rfl (c_sum01_2 hx hc ?_)
      | refine z00 ?_ | refine z01 ?_ | refine z02 ?_ | refine z04 ?_ | refine z05 ?_ | refine z08 ?_ | refine zp ?_ | refine z0g ?_ | refine z0h ?_ | refine z0j ?_ | refine z0k ?_
      | refine z0l ?_ | refine z0n ?_ | refine z0o ?_ | refine z0p ?_ | refine z0q ?_ | refine z0r ?_ | refine z0s ?_ | refine z0v ?_ | refine z0z ?_ | refine z12 ?_ | refine z14 ?_
      | refine z15 ?_ | refine z1e ?_ | refine z1f (hk := ?_) | refine z1i ?_ | refine z1j ?_ | refine z1k ?_ | refine z1l ?_ | refine z1m ?_ | refine z1n ?_
      | refine z1o (fun hp => ?_) (fun hp => ?_) | refine z1p (fun hp => ?_) (fun hp => ?_) | refine z1q (fun hp => ?_) (fun hp => ?_) | refine z1r ?_ | refine z1s ?_ | refine z1t ?_
      | refine z1u ?_ | refine z1v ?_ | refine z1w ?_ | refine z1x ?_ | refine z1y ?_ | refine z1z ?_ | refine z20 ?_ | refine z21 ?_ | refine z22 ?_ | refine z23 ?_ | refine z24 ?_
      | refine z25 ?_ | refine z26 ?_ | refine z27 ?_ | refine z28 (fun hp => ?_) (fun hp => ?_) | refine z29 (fun hp => ?_) (fun hp => ?_) | refine z2a ?_ | refine z2b ?_)
    exact fin_cln rfl hQ

end
end Go.Proofs.Ytnekgoanadbmmaa
