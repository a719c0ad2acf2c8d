/-
The program's types as Lean's; lengths: unit, tabs.
-/
import Derived.Test.YtnekgoanadbmmaaIp
import Derived.Test.YtnekgoanadbmmaaMiY
namespace Go.Proofs.Ytnekgoanadbmmaa
open Go.Mini
set_option linter.unusedSimpArgs false
set_option linter.unusedVariables false

structure Cell where
  kind : Int
  node : Int
  char : Int
  adv : Int
  soft : Bool
  emerg : Bool
  deriving DecidableEq, Inhabited

def Cell.mv (c : Cell) : List MV := [.int .u8 c.kind, .int .i64 c.node, .int .i64 c.char, .int .i64 c.adv, .bool c.soft, .bool c.emerg]

structure Room where
  width : Int
  start : Int
  deriving DecidableEq, Inhabited
def Room.mv (r : Room) : List MV := [.int .i64 r.width, .int .i64 r.start]

structure Line where
  fr : Int
  to : Int
  forced : Bool
  deriving DecidableEq, Inhabited
def Line.mv (x : Line) : List MV := [.int .i64 x.fr, .int .i64 x.to, .bool x.forced]

def KCell : Enc Cell := ⟨Cell.mv, 6, fun _ => rfl, fun _ => rfl⟩
def KLine : Enc Line := ⟨Line.mv, 3, fun _ => rfl, fun _ => rfl⟩
def KU8 : Enc Int := ⟨fun n => [.int .u8 n], 1, fun _ => rfl, fun _ => rfl⟩
def KI64 : Enc Int := ⟨fun n => [.int .i64 n], 1, fun _ => rfl, fun _ => rfl⟩
def KBool : Enc Bool := ⟨fun b => [.bool b], 1, fun _ => rfl, fun _ => rfl⟩

/-- An int64. -/
def I64 (n : Int) : Prop := -9223372036854775808 ≤ n ∧ n ≤ 9223372036854775807
instance (n : Int) : Decidable (I64 n) := inferInstanceAs (Decidable (_ ∧ _))

section
variable {m : Mem} {ls : List LRec} {Q : MV → Mem → List LRec → Prop}

/-! ### unit -/

def fits (n : Int) : Int × Int := if n < -4611686018427387904 ∨ n > 4611686018427387904 then (0, 10) else (n, 0)
def sumF (l : List Int) : Int × Int := fits l.sum

/-- A pair of results. -/
def two (p : Int × Int) : MV := .tup [.int .i64 p.1, .int .i64 p.2]

theorem c_fit {n : Int} (hQ : Q (two (fits n)) m ls) : Wc ip f_unit_fit [.int .i64 n] m ls Q := by
  refine wc_fn3d rfl fn_unit_fit rfl rfl rfl ?_
  repeat' (first
    | refine z00 ?_ | refine z01 ?_ | refine z02 ?_ | refine z04 ?_ | refine z05 ?_ | refine z08 ?_ | refine zp ?_ | refine z0g ?_ | refine z0h ?_ | refine z0j ?_ | refine z0k ?_
    | refine z0l ?_ | refine z0n ?_ | refine z0o ?_ | refine z0p ?_ | refine z0q ?_ | refine z0r ?_ | refine z0s ?_ | refine z0v ?_ | refine z0z ?_ | refine z12 ?_ | refine z14 ?_
    | refine z15 ?_ | refine z1e ?_ | refine z1f (hk := ?_) | refine z1i ?_ | refine z1j ?_ | refine z1k ?_ | refine z1l ?_ | refine z1m ?_ | refine z1n ?_
    | refine z1o (fun hp => ?_) (fun hp => ?_) | refine z1p (fun hp => ?_) (fun hp => ?_) | refine z1q (fun hp => ?_) (fun hp => ?_) | refine z1r ?_ | refine z1s ?_ | refine z1t ?_
    | refine z1u ?_ | refine z1v ?_ | refine z1w ?_ | refine z1x ?_ | refine z1y ?_ | refine z1z ?_ | refine z20 ?_ | refine z21 ?_ | refine z22 ?_ | refine z23 ?_ | refine z24 ?_
    | refine z25 ?_ | refine z26 ?_ | refine z27 ?_ | refine z28 (fun hp => ?_) (fun hp => ?_) | refine z29 (fun hp => ?_) (fun hp => ?_) | refine z2a ?_ | refine z2b ?_)
  all_goals (refine fin_cln rfl ?_; simpa [one, two, fits, *] using hQ)

theorem shr63 {n : Int} (h : I64 n) : n.fdiv (2 ^ min (63 : Int).toNat IntKind.i64.bits) = if n < 0 then -1 else 0 := by
  have e : (2 : Int) ^ min (63 : Int).toNat IntKind.i64.bits = 9223372036854775808 := by decide
  rw [e, Int.fdiv_eq_ediv_of_nonneg _ (by omega)]
  unfold I64 at h
  split <;> omega

theorem wo_shr63 {P : IProg} {nt : Nat} {A : As} {d : Option Nat} {l : List IOper} {Q : As → Mem → List LRec → Prop} {x : Opd} {n : Int} (hx : lk A x = some (.int .i64 n)) (h : I64 n) (hd : okD nt d = true) (hk : Wo P nt l (putA A d (.int .i64 (if n < 0 then -1 else 0))) m ls Q) :
    Wo P nt (⟨d, none, .bin .shr x (.c (.int .u64 63))⟩ :: l) A m ls Q :=
  wo_shr hx rfl (by omega) (shr63 h) hd hk

theorem wrap64 (n : Int) : IntKind.u64.wrap n = n % 18446744073709551616 := rfl

theorem sum_take {xs : List Int} {i : Nat} (h : i < xs.length) : (xs.take (i + 1)).sum = (xs.take i).sum + xs[i] := by
  rw [List.take_succ_eq_append_getElem h, List.sum_append]; simp

theorem sum_bound {xs : List Int} (h : ∀ x ∈ xs, I64 x) : -9223372036854775808 * (xs.length : Int) ≤ xs.sum ∧ xs.sum ≤ 9223372036854775808 * (xs.length : Int) := by
  induction xs with
  | nil => simp
  | cons x xs ih =>
    have h1 := h x (by simp)
    have h2 := ih fun y hy => h y (by simp [hy])
    unfold I64 at h1
    simp only [List.sum_cons, List.length_cons]
    omega

theorem c_add64 {x y : Int} (hx : 0 ≤ x) (hy : 0 ≤ y) (hQ : Q (.tup [.int .u64 ((x + y + 0) % 18446744073709551616), .int .u64 ((x + y + 0) / 18446744073709551616)]) m ls) : Wc ip f_bits_Add64 [.int .u64 x, .int .u64 y, .int .u64 0] m ls Q :=
  wc_prim (p := add64P) rfl rfl (by simp only [add64P]; rw [if_pos ⟨hx, hy, by omega, by omega⟩]) hQ

theorem c_sum {xs : List Int} {v : MV} (hv : Sl KI64 xs v) (hr : ∀ x ∈ xs, I64 x) (hn : xs.length ≤ 1000) (hQ : Q (two (sumF xs)) m ls) : Wc ip f_unit_Sum [v] m ls Q := by
  refine wc_fn3d rfl fn_unit_Sum rfl (by simp [deepVs, hv.deep]) rfl ?_
  repeat' (first
    | refine z00 ?_ | refine z01 ?_ | refine z02 ?_ | refine z04 ?_ | refine z05 ?_ | refine z08 ?_ | refine zp ?_ | refine z0g ?_ | refine z0h ?_ | refine z0j ?_ | refine z0k ?_
    | refine z0l ?_ | refine z0n ?_ | refine z0o ?_ | refine z0p ?_ | refine z0q ?_ | refine z0r ?_ | refine z0s ?_ | refine z0v ?_ | refine z0z ?_ | refine z12 ?_ | refine z14 ?_
    | refine z15 ?_ | refine z1e ?_ | refine z1f (hk := ?_) | refine z1i ?_ | refine z1j ?_ | refine z1k ?_ | refine z1l ?_ | refine z1m ?_ | refine z1n ?_
    | refine z1o (fun hp => ?_) (fun hp => ?_) | refine z1p (fun hp => ?_) (fun hp => ?_) | refine z1q (fun hp => ?_) (fun hp => ?_) | refine z1r ?_ | refine z1s ?_ | refine z1t ?_
    | refine z1u ?_ | refine z1v ?_ | refine z1w ?_ | refine z1x ?_ | refine z1y ?_ | refine z1z ?_ | refine z20 ?_ | refine z21 ?_ | refine z22 ?_ | refine z23 ?_ | refine z24 ?_
    | refine z25 ?_ | refine z26 ?_ | refine z27 ?_ | refine z28 (fun hp => ?_) (fun hp => ?_) | refine z29 (fun hp => ?_) (fun hp => ?_) | refine z2a ?_ | refine z2b ?_)
  refine wx_loopL ?_
  have key : ∀ k i : Nat, i + k = xs.length → ∀ (hi lo : Int), 0 ≤ lo → lo < 18446744073709551616 → hi * 18446744073709551616 + lo = (xs.take i).sum →
      ∀ {R : Ex → As → Mem → List LRec → Prop}, (∀ hi lo : Int, 0 ≤ lo → lo < 18446744073709551616 → hi * 18446744073709551616 + lo = xs.sum → R (.exit 0) [(4, .int .i64 hi), (5, .int .u64 lo)] [] []) →
      Wx ip i_unit_Sum.nt (.loop (lv [4, 5, 11, 12, 13] 43) unit_Sum_b0) [(4, .int .i64 hi), (5, .int .u64 lo), (11, v), (12, .int .i64 xs.length), (13, .int .i64 i)] [] [] R := by
    intro k
    induction k with
    | zero =>
      intro i hi hi' lo h0 h1 hs R hR
      refine wx_roundL rfl ?_
      repeat' (first
        | refine wx_exitL [4, 5] ?_
        | refine z00 ?_ | refine z01 ?_ | refine z02 ?_ | refine z04 ?_ | refine z05 ?_ | refine z08 ?_ | refine zp ?_ | refine z0g ?_ | refine z0h ?_ | refine z0j ?_ | refine z0k ?_
        | refine z0l ?_ | refine z0n ?_ | refine z0o ?_ | refine z0p ?_ | refine z0q ?_ | refine z0r ?_ | refine z0s ?_ | refine z0v ?_ | refine z0z ?_ | refine z12 ?_ | refine z14 ?_
        | refine z15 ?_ | refine z1e ?_ | refine z1f (hk := ?_) | refine z1i ?_ | refine z1j ?_ | refine z1k ?_ | refine z1l ?_ | refine z1m ?_ | refine z1n ?_
        | refine z1o (fun hp => ?_) (fun hp => ?_) | refine z1p (fun hp => ?_) (fun hp => ?_) | refine z1q (fun hp => ?_) (fun hp => ?_) | refine z1r ?_ | refine z1s ?_ | refine z1t ?_
        | refine z1u ?_ | refine z1v ?_ | refine z1w ?_ | refine z1x ?_ | refine z1y ?_ | refine z1z ?_ | refine z20 ?_ | refine z21 ?_ | refine z22 ?_ | refine z23 ?_ | refine z24 ?_
        | refine z25 ?_ | refine z26 ?_ | refine z27 ?_ | refine z28 (fun hp => ?_) (fun hp => ?_) | refine z29 (fun hp => ?_) (fun hp => ?_) | refine z2a ?_ | refine z2b ?_)
      refine hR _ _ h0 h1 ?_
      rw [hs, List.take_of_length_le (by omega)]
    | succ k ih =>
      intro i hi hi' lo h0 h1 hs R hR
      have hlt : i < xs.length := by omega
      have hx := hr _ (List.getElem_mem hlt)
      have hx2 := hx
      unfold I64 at hx2
      have hsb := sum_bound (xs := xs.take i) (fun x hx => hr x (List.mem_of_mem_take hx))
      have hln : (xs.take i).length = i := by simp; omega
      rw [hln] at hsb
      have hst := sum_take hlt
      have hm0 : 0 ≤ IntKind.u64.wrap xs[i] ∧ IntKind.u64.wrap xs[i] = (if xs[i] < 0 then xs[i] + 18446744073709551616 else xs[i]) := by
        rw [wrap64]; split <;> omega
      generalize hw : IntKind.u64.wrap xs[i] = wu at hm0
      generalize hh : (if xs[i] < 0 then -1 else 0 : Int) = sg
      have hsg : sg * 18446744073709551616 + wu = xs[i] := by
        rw [hm0.2, ← hh]; split <;> omega
      have hsg2 : sg = -1 ∨ sg = 0 := by rw [← hh]; split <;> simp
      refine wx_roundL rfl ?_
      repeat' (first
        | refine wx_exitL [4, 5] ?_
        | refine wo_conv rfl hw rfl ?_
        | refine wo_shr63 rfl hx rfl ?_
        | refine wo_call rfl rfl rfl (c_add64 h0 hm0.1 ?_)
        | refine z00 ?_ | refine z01 ?_ | refine z02 ?_ | refine z04 ?_ | refine z05 ?_ | refine z08 ?_ | refine zp ?_ | refine z0g ?_ | refine z0h ?_ | refine z0j ?_ | refine z0k ?_
        | refine z0l ?_ | refine z0n ?_ | refine z0o ?_ | refine z0p ?_ | refine z0q ?_ | refine z0r ?_ | refine z0s ?_ | refine z0v ?_ | refine z0z ?_ | refine z12 ?_ | refine z14 ?_
        | refine z15 ?_ | refine z1e ?_ | refine z1f (hk := ?_) | refine z1i ?_ | refine z1j ?_ | refine z1k ?_ | refine z1l ?_ | refine z1m ?_ | refine z1n ?_
        | refine z1o (fun hp => ?_) (fun hp => ?_) | refine z1p (fun hp => ?_) (fun hp => ?_) | refine z1q (fun hp => ?_) (fun hp => ?_) | refine z1r ?_ | refine z1s ?_ | refine z1t ?_
        | refine z1u ?_ | refine z1v ?_ | refine z1w ?_ | refine z1x ?_ | refine z1y ?_ | refine z1z ?_ | refine z20 ?_ | refine z21 ?_ | refine z22 ?_ | refine z23 ?_ | refine z24 ?_
        | refine z25 ?_ | refine z26 ?_ | refine z27 ?_ | refine z28 (fun hp => ?_) (fun hp => ?_) | refine z29 (fun hp => ?_) (fun hp => ?_) | refine z2a ?_ | refine z2b ?_)
      refine wx_loopL ?_
      have hh' : (if xs[(i : Int).toNat] < 0 then -1 else 0 : Int) = sg := hh
      rw [hh']
      exact ih (i + 1) (by omega) _ _ (by omega) (by omega) (by rw [hst, ← hs]; omega) hR
  refine key xs.length 0 (by omega) 0 0 (by omega) (by omega) (by simp) ?_
  intro hi lo h0 h1 hs
  have hsb := sum_bound hr
  have hin : IntKind.i64.wrap lo = if lo < 9223372036854775808 then lo else lo - 18446744073709551616 := by
    simp only [IntKind.wrap, IntKind.bits, IntKind.signed, Bool.true_and]
    split <;> rename_i h <;> simp only [decide_eq_true_eq, ge_iff_le] at h <;> split <;> omega
  have hI : I64 (IntKind.i64.wrap lo) := by rw [hin]; unfold I64; split <;> omega
  by_cases hf : I64 xs.sum
  · have e : IntKind.i64.wrap lo = xs.sum := by rw [hin]; unfold I64 at hf; split <;> omega
    rw [e] at hI
    have h2 : hi = if xs.sum < 0 then -1 else 0 := by
      unfold I64 at hf; split <;> omega
    repeat' (first
      | refine wo_conv rfl e rfl ?_
      | refine wo_shr63 rfl hI rfl ?_
      | refine wx_ifDT rfl h2 ?_
      | refine wo_call rfl rfl rfl (c_fit ?_)
      | refine z00 ?_ | refine z01 ?_ | refine z02 ?_ | refine z04 ?_ | refine z05 ?_ | refine z08 ?_ | refine zp ?_ | refine z0g ?_ | refine z0h ?_ | refine z0j ?_ | refine z0k ?_
      | refine z0l ?_ | refine z0n ?_ | refine z0o ?_ | refine z0p ?_ | refine z0q ?_ | refine z0r ?_ | refine z0s ?_ | refine z0v ?_ | refine z0z ?_ | refine z12 ?_ | refine z14 ?_
      | refine z15 ?_ | refine z1e ?_ | refine z1f (hk := ?_) | refine z1i ?_ | refine z1j ?_ | refine z1k ?_ | refine z1l ?_ | refine z1m ?_ | refine z1n ?_
      | refine z1o (fun hp => ?_) (fun hp => ?_) | refine z1p (fun hp => ?_) (fun hp => ?_) | refine z1q (fun hp => ?_) (fun hp => ?_) | refine z1r ?_ | refine z1s ?_ | refine z1t ?_
      | refine z1u ?_ | refine z1v ?_ | refine z1w ?_ | refine z1x ?_ | refine z1y ?_ | refine z1z ?_ | refine z20 ?_ | refine z21 ?_ | refine z22 ?_ | refine z23 ?_ | refine z24 ?_
      | refine z25 ?_ | refine z26 ?_ | refine z27 ?_ | refine z28 (fun hp => ?_) (fun hp => ?_) | refine z29 (fun hp => ?_) (fun hp => ?_) | refine z2a ?_ | refine z2b ?_)
    refine fin_cln rfl ?_
    exact hQ
  · have h2 : ¬ hi = if IntKind.i64.wrap lo < 0 then -1 else 0 := by
      rw [hin]; unfold I64 at hf; split <;> split <;> omega
    repeat' (first
      | refine wo_conv rfl rfl rfl ?_
      | refine wo_shr63 rfl hI rfl ?_
      | refine wx_ifDF rfl h2 ?_
      | refine z00 ?_ | refine z01 ?_ | refine z02 ?_ | refine z04 ?_ | refine z05 ?_ | refine z08 ?_ | refine zp ?_ | refine z0g ?_ | refine z0h ?_ | refine z0j ?_ | refine z0k ?_
      | refine z0l ?_ | refine z0n ?_ | refine z0o ?_ | refine z0p ?_ | refine z0q ?_ | refine z0r ?_ | refine z0s ?_ | refine z0v ?_ | refine z0z ?_ | refine z12 ?_ | refine z14 ?_
      | refine z15 ?_ | refine z1e ?_ | refine z1f (hk := ?_) | refine z1i ?_ | refine z1j ?_ | refine z1k ?_ | refine z1l ?_ | refine z1m ?_ | refine z1n ?_
      | refine z1o (fun hp => ?_) (fun hp => ?_) | refine z1p (fun hp => ?_) (fun hp => ?_) | refine z1q (fun hp => ?_) (fun hp => ?_) | refine z1r ?_ | refine z1s ?_ | refine z1t ?_
      | refine z1u ?_ | refine z1v ?_ | refine z1w ?_ | refine z1x ?_ | refine z1y ?_ | refine z1z ?_ | refine z20 ?_ | refine z21 ?_ | refine z22 ?_ | refine z23 ?_ | refine z24 ?_
      | refine z25 ?_ | refine z26 ?_ | refine z27 ?_ | refine z28 (fun hp => ?_) (fun hp => ?_) | refine z29 (fun hp => ?_) (fun hp => ?_) | refine z2a ?_ | refine z2b ?_)
    refine fin_cln rfl ?_
    have e : sumF xs = (0, 10) := by
      unfold sumF fits; unfold I64 at hf; rw [if_pos (by omega)]
    rw [e] at hQ
    exact hQ

theorem c_sum1 {x : Int} {kc : Option Nat} (hx : I64 x) (hQ : Q (two (fits x)) m ls) : Wc ip f_unit_Sum [.lit [.int .i64 x] 1 kc] m ls Q :=
  c_sum (xs := [x]) .lit (by simpa using hx) (by simp) (by simpa [sumF] using hQ)
theorem c_sum2 {x y : Int} {kc : Option Nat} (hx : I64 x) (hy : I64 y) (hQ : Q (two (fits (x + y))) m ls) : Wc ip f_unit_Sum [.lit [.int .i64 x, .int .i64 y] 2 kc] m ls Q :=
  c_sum (xs := [x, y]) .lit (by simpa using ⟨hx, hy⟩) (by simp) (by simpa [sumF] using hQ)
theorem c_sum3 {x y z : Int} {kc : Option Nat} (hx : I64 x) (hy : I64 y) (hz : I64 z) (hQ : Q (two (fits (x + (y + z)))) m ls) : Wc ip f_unit_Sum [.lit [.int .i64 x, .int .i64 y, .int .i64 z] 3 kc] m ls Q :=
  c_sum (xs := [x, y, z]) .lit (by simpa using ⟨hx, hy, hz⟩) (by simp) (by simpa [sumF] using hQ)

/-- The next multiple of a step. -/
def stopF (x step : Int) : Int × Int :=
  if step < 1 then (0, 2) else fits (x + (-(if x.tmod step < 0 then x.tmod step + step else x.tmod step) + step))

theorem tmod_bd {x y : Int} (h : 1 ≤ y) : -y < x.tmod y ∧ x.tmod y < y := by
  have h1 := Int.tmod_lt_of_pos x (b := y) (by omega)
  have h2 : -y < x.tmod y := by
    have := Int.tmod_lt_of_pos (-x) (b := y) (by omega)
    rw [Int.neg_tmod] at this
    omega
  exact ⟨h2, h1⟩

theorem c_stop {x y : Int} (hx : I64 x) (hy : I64 y) (hQ : Q (two (stopF x y)) m ls) : Wc ip f_unit_Stop [.int .i64 x, .int .i64 y] m ls Q := by
  have hx2 := hx
  have hy2 := hy
  unfold I64 at hx2 hy2
  refine wc_fn3d rfl fn_unit_Stop rfl rfl rfl ?_
  by_cases h1 : y < 1
  · repeat' (first
      | refine z00 ?_ | refine z01 ?_ | refine z02 ?_ | refine z04 ?_ | refine z05 ?_ | refine z08 ?_ | refine zp ?_ | refine z0g ?_ | refine z0h ?_ | refine z0j ?_ | refine z0k ?_
      | refine z0l ?_ | refine z0n ?_ | refine z0o ?_ | refine z0p ?_ | refine z0q ?_ | refine z0r ?_ | refine z0s ?_ | refine z0v ?_ | refine z0z ?_ | refine z12 ?_ | refine z14 ?_
      | refine z15 ?_ | refine z1e ?_ | refine z1f (hk := ?_) | refine z1i ?_ | refine z1j ?_ | refine z1k ?_ | refine z1l ?_ | refine z1m ?_ | refine z1n ?_
      | refine z1o (fun hp => ?_) (fun hp => ?_) | refine z1p (fun hp => ?_) (fun hp => ?_) | refine z1q (fun hp => ?_) (fun hp => ?_) | refine z1r ?_ | refine z1s ?_ | refine z1t ?_
      | refine z1u ?_ | refine z1v ?_ | refine z1w ?_ | refine z1x ?_ | refine z1y ?_ | refine z1z ?_ | refine z20 ?_ | refine z21 ?_ | refine z22 ?_ | refine z23 ?_ | refine z24 ?_
      | refine z25 ?_ | refine z26 ?_ | refine z27 ?_ | refine z28 (fun hp => ?_) (fun hp => ?_) | refine z29 (fun hp => ?_) (fun hp => ?_) | refine z2a ?_ | refine z2b ?_)
    refine fin_cln rfl ?_
    simpa [one, two, stopF, h1] using hQ
  · have hb := tmod_bd (x := x) (y := y) (by omega)
    by_cases h2 : x.tmod y < 0
    · repeat' (first
        | refine wo_rem rfl rfl (by omega) rfl ?_
        | refine wo_call rfl rfl rfl (c_sum3 hx (by unfold I64; omega) hy ?_)
        | refine z00 ?_ | refine z01 ?_ | refine z02 ?_ | refine z04 ?_ | refine z05 ?_ | refine z08 ?_ | refine zp ?_ | refine z0g ?_ | refine z0h ?_ | refine z0j ?_ | refine z0k ?_
        | refine z0l ?_ | refine z0n ?_ | refine z0o ?_ | refine z0p ?_ | refine z0q ?_ | refine z0r ?_ | refine z0s ?_ | refine z0v ?_ | refine z0z ?_ | refine z12 ?_ | refine z14 ?_
        | refine z15 ?_ | refine z1e ?_ | refine z1f (hk := ?_) | refine z1i ?_ | refine z1j ?_ | refine z1k ?_ | refine z1l ?_ | refine z1m ?_ | refine z1n ?_
        | refine z1o (fun hp => ?_) (fun hp => ?_) | refine z1p (fun hp => ?_) (fun hp => ?_) | refine z1q (fun hp => ?_) (fun hp => ?_) | refine z1r ?_ | refine z1s ?_ | refine z1t ?_
        | refine z1u ?_ | refine z1v ?_ | refine z1w ?_ | refine z1x ?_ | refine z1y ?_ | refine z1z ?_ | refine z20 ?_ | refine z21 ?_ | refine z22 ?_ | refine z23 ?_ | refine z24 ?_
        | refine z25 ?_ | refine z26 ?_ | refine z27 ?_ | refine z28 (fun hp => ?_) (fun hp => ?_) | refine z29 (fun hp => ?_) (fun hp => ?_) | refine z2a ?_ | refine z2b ?_)
      refine fin_cln rfl ?_
      simpa [one, two, stopF, h1, h2] using hQ
    · repeat' (first
        | refine wo_rem rfl rfl (by omega) rfl ?_
        | refine wo_call rfl rfl rfl (c_sum3 hx (by unfold I64; omega) hy ?_)
        | refine z00 ?_ | refine z01 ?_ | refine z02 ?_ | refine z04 ?_ | refine z05 ?_ | refine z08 ?_ | refine zp ?_ | refine z0g ?_ | refine z0h ?_ | refine z0j ?_ | refine z0k ?_
        | refine z0l ?_ | refine z0n ?_ | refine z0o ?_ | refine z0p ?_ | refine z0q ?_ | refine z0r ?_ | refine z0s ?_ | refine z0v ?_ | refine z0z ?_ | refine z12 ?_ | refine z14 ?_
        | refine z15 ?_ | refine z1e ?_ | refine z1f (hk := ?_) | refine z1i ?_ | refine z1j ?_ | refine z1k ?_ | refine z1l ?_ | refine z1m ?_ | refine z1n ?_
        | refine z1o (fun hp => ?_) (fun hp => ?_) | refine z1p (fun hp => ?_) (fun hp => ?_) | refine z1q (fun hp => ?_) (fun hp => ?_) | refine z1r ?_ | refine z1s ?_ | refine z1t ?_
        | refine z1u ?_ | refine z1v ?_ | refine z1w ?_ | refine z1x ?_ | refine z1y ?_ | refine z1z ?_ | refine z20 ?_ | refine z21 ?_ | refine z22 ?_ | refine z23 ?_ | refine z24 ?_
        | refine z25 ?_ | refine z26 ?_ | refine z27 ?_ | refine z28 (fun hp => ?_) (fun hp => ?_) | refine z29 (fun hp => ?_) (fun hp => ?_) | refine z2a ?_ | refine z2b ?_)
      refine fin_cln rfl ?_
      simpa [one, two, stopF, h1, h2] using hQ

/-! ### tabs -/

/-- The pen behind a cell. -/
def stepF (c : Cell) (x : Int) : Int × Int :=
  if c.kind = 4 ∧ c.adv < 0 then (0, 2)
  else if c.kind ≠ 4 then fits (x + c.adv)
  else if (fits x).2 ≠ 0 then (0, (fits x).2)
  else if c.adv = 0 then (x, 0)
  else stopF x c.adv

theorem c_step {c : Cell} {x : Int} (hx : I64 x) (hc : I64 c.adv) (hQ : Q (two (stepF c x)) m ls) : Wc ip f_tabs_Step [.agg c.mv, .int .i64 x] m ls Q := by
  refine wc_fn3d rfl fn_tabs_Step rfl rfl rfl ?_
  repeat' (first
    | refine wo_call rfl rfl rfl (c_sum1 hx ?_)
    | refine wo_call rfl rfl rfl (c_sum2 hx hc ?_)
    | refine wo_call rfl rfl rfl (c_stop hx hc ?_)
    | refine z00 ?_ | refine z01 ?_ | refine z02 ?_ | refine z04 ?_ | refine z05 ?_ | refine z08 ?_ | refine zp ?_ | refine z0g ?_ | refine z0h ?_ | refine z0j ?_ | refine z0k ?_
    | refine z0l ?_ | refine z0n ?_ | refine z0o ?_ | refine z0p ?_ | refine z0q ?_ | refine z0r ?_ | refine z0s ?_ | refine z0v ?_ | refine z0z ?_ | refine z12 ?_ | refine z14 ?_
    | refine z15 ?_ | refine z1e ?_ | refine z1f (hk := ?_) | refine z1i ?_ | refine z1j ?_ | refine z1k ?_ | refine z1l ?_ | refine z1m ?_ | refine z1n ?_
    | refine z1o (fun hp => ?_) (fun hp => ?_) | refine z1p (fun hp => ?_) (fun hp => ?_) | refine z1q (fun hp => ?_) (fun hp => ?_) | refine z1r ?_ | refine z1s ?_ | refine z1t ?_
    | refine z1u ?_ | refine z1v ?_ | refine z1w ?_ | refine z1x ?_ | refine z1y ?_ | refine z1z ?_ | refine z20 ?_ | refine z21 ?_ | refine z22 ?_ | refine z23 ?_ | refine z24 ?_
    | refine z25 ?_ | refine z26 ?_ | refine z27 ?_ | refine z28 (fun hp => ?_) (fun hp => ?_) | refine z29 (fun hp => ?_) (fun hp => ?_) | refine z2a ?_ | refine z2b ?_)
  all_goals (refine fin_cln rfl ?_; simpa [one, two, stepF, *] using hQ)

theorem c_role {xs : List Int} {v : MV} {i : Int} (hv : Sl KU8 xs v) (h0 : 0 ≤ i) (hQ : Q (.int .u8 (xs.getD i.toNat 0)) m ls) : Wc ip f_tabs_role [v, .int .i64 i] m ls Q := by
  refine wc_fn3d rfl fn_tabs_role rfl (by simp [deepVs, hv.deep, deepV]) rfl ?_
  repeat' (first
    | refine z00 ?_ | refine z01 ?_ | refine z02 ?_ | refine z04 ?_ | refine z05 ?_ | refine z08 ?_ | refine zp ?_ | refine z0g ?_ | refine z0h ?_ | refine z0j ?_ | refine z0k ?_
    | refine z0l ?_ | refine z0n ?_ | refine z0o ?_ | refine z0p ?_ | refine z0q ?_ | refine z0r ?_ | refine z0s ?_ | refine z0v ?_ | refine z0z ?_ | refine z12 ?_ | refine z14 ?_
    | refine z15 ?_ | refine z1e ?_ | refine z1f (hk := ?_) | refine z1i ?_ | refine z1j ?_ | refine z1k ?_ | refine z1l ?_ | refine z1m ?_ | refine z1n ?_
    | refine z1o (fun hp => ?_) (fun hp => ?_) | refine z1p (fun hp => ?_) (fun hp => ?_) | refine z1q (fun hp => ?_) (fun hp => ?_) | refine z1r ?_ | refine z1s ?_ | refine z1t ?_
    | refine z1u ?_ | refine z1v ?_ | refine z1w ?_ | refine z1x ?_ | refine z1y ?_ | refine z1z ?_ | refine z20 ?_ | refine z21 ?_ | refine z22 ?_ | refine z23 ?_ | refine z24 ?_
    | refine z25 ?_ | refine z26 ?_ | refine z27 ?_ | refine z28 (fun hp => ?_) (fun hp => ?_) | refine z29 (fun hp => ?_) (fun hp => ?_) | refine z2a ?_ | refine z2b ?_)
  · refine fin_cln rfl ?_
    have : i.toNat < xs.length := by omega
    simpa [one, this] using hQ
  · refine fin_cln rfl ?_
    have : ¬ i.toNat < xs.length := by omega
    simpa [one, this] using hQ

end
end Go.Proofs.Ytnekgoanadbmmaa
