/-
What fits: trim.Fits, trim.Goes; where lines are cut: ellipsis.
-/
import Derived.Test.YtnekgoanadbmmaaCd
namespace Go.Proofs.Ytnekgoanadbmmaa
open Go.Mini
set_option linter.unusedSimpArgs false
set_option linter.unusedVariables false
set_option maxHeartbeats 4000000

section
variable {m : Mem} {ls : List LRec} {Q : MV → Mem → List LRec → Prop}

def unhang (r : Int) : Int := if r = 2 then 1 else r
def fitL (l : List Cell) (x : Int) : Int × Int := endL l ((rolesF l).map unhang) x
def goesL (l : List Cell) (x : Int) : Int × Int := endL l (rolesF l) x

theorem c_Goes {l : List Cell} {v : MV} {x : Int} (hv : Sl KCell l v) (hl : l.length ≤ 1000000) (hc : ∀ c ∈ l, c.ok) (hx : I64 x) (hQ : Q (two (goesL l x)) m ls) : Wc ip f_trim_Goes [v, .int .i64 x] m ls Q := by
  refine wc_fn3d rfl fn_trim_Goes rfl (by simp [deepVs, hv.deep, deepV]) rfl ?_
  repeat' (first
    | refine wo_call rfl rfl rfl (c_Roles hv hl ?_)
    | refine z00 ?_ | refine z01 ?_ | refine z02 ?_ | refine z03 ?_ | refine z04 ?_ | refine z05 ?_ | refine z06 ?_ | refine z07 ?_ | refine z08 ?_ | refine z09 ?_ | refine z0a ?_
    | refine z0b ?_ | refine z0c ?_ | refine z0d ?_ | refine z0e ?_ | refine z0f ?_ | refine z0g ?_ | refine z0h ?_ | refine z0i ?_ | refine z0j ?_ | refine z0k ?_ | refine z0l ?_
    | refine z0m ?_ | refine z0n ?_ | refine z0o ?_ | refine z0p ?_ | refine z0q ?_ | refine z0r ?_ | refine z0s ?_ | refine z0t ?_ | refine z0u ?_ | refine z0v ?_ | refine z0w ?_
    | refine z0x ?_ | refine z0y ?_ | refine z0z ?_ | refine z10 ?_ | refine z11 ?_ | refine z12 ?_ | refine z13 ?_ | refine z14 ?_ | refine z15 ?_ | refine z16 ?_ | refine z17 ?_
    | refine z18 ?_ | refine z19 ?_ | refine z1a ?_ | refine z1b ?_ | refine z1c ?_ | refine z1d ?_ | refine z1e ?_ | refine z1f (hk := ?_) | refine z1g ?_ | refine z1h ?_ | refine z1i ?_
    | refine z1j ?_ | refine z1k ?_ | refine z1l ?_ | refine z1m ?_ | refine z1n ?_ | refine z1o (fun hp => ?_) (fun hp => ?_) | refine z1p (fun hp => ?_) (fun hp => ?_)
    | refine z1q (fun hp => ?_) (fun hp => ?_) | refine z1r ?_ | refine z1s ?_ | refine z1t ?_ | refine z1u ?_ | refine z1v ?_ | refine z1w ?_ | refine z1x ?_ | refine z1y ?_ | refine z1z ?_
    | refine z20 ?_ | refine z21 ?_ | refine z22 ?_ | refine z23 ?_ | refine z24 ?_ | refine z25 ?_ | refine z26 ?_ | refine z27 ?_ | refine z28 (fun hp => ?_) (fun hp => ?_)
    | refine z29 (fun hp => ?_) (fun hp => ?_) | refine z2a ?_ | refine z2b ?_)
  intro u hu
  repeat' (first
    | refine wo_call rfl rfl rfl (c_End (frzs_fuel (by simp [deepVs, hv.deep, hu.deep, deepV])) hv hu hl hc hx ?_)
    | refine z00 ?_ | refine z01 ?_ | refine z02 ?_ | refine z03 ?_ | refine z04 ?_ | refine z05 ?_ | refine z06 ?_ | refine z07 ?_ | refine z08 ?_ | refine z09 ?_ | refine z0a ?_
    | refine z0b ?_ | refine z0c ?_ | refine z0d ?_ | refine z0e ?_ | refine z0f ?_ | refine z0g ?_ | refine z0h ?_ | refine z0i ?_ | refine z0j ?_ | refine z0k ?_ | refine z0l ?_
    | refine z0m ?_ | refine z0n ?_ | refine z0o ?_ | refine z0p ?_ | refine z0q ?_ | refine z0r ?_ | refine z0s ?_ | refine z0t ?_ | refine z0u ?_ | refine z0v ?_ | refine z0w ?_
    | refine z0x ?_ | refine z0y ?_ | refine z0z ?_ | refine z10 ?_ | refine z11 ?_ | refine z12 ?_ | refine z13 ?_ | refine z14 ?_ | refine z15 ?_ | refine z16 ?_ | refine z17 ?_
    | refine z18 ?_ | refine z19 ?_ | refine z1a ?_ | refine z1b ?_ | refine z1c ?_ | refine z1d ?_ | refine z1e ?_ | refine z1f (hk := ?_) | refine z1g ?_ | refine z1h ?_ | refine z1i ?_
    | refine z1j ?_ | refine z1k ?_ | refine z1l ?_ | refine z1m ?_ | refine z1n ?_ | refine z1o (fun hp => ?_) (fun hp => ?_) | refine z1p (fun hp => ?_) (fun hp => ?_)
    | refine z1q (fun hp => ?_) (fun hp => ?_) | refine z1r ?_ | refine z1s ?_ | refine z1t ?_ | refine z1u ?_ | refine z1v ?_ | refine z1w ?_ | refine z1x ?_ | refine z1y ?_ | refine z1z ?_
    | refine z20 ?_ | refine z21 ?_ | refine z22 ?_ | refine z23 ?_ | refine z24 ?_ | refine z25 ?_ | refine z26 ?_ | refine z27 ?_ | refine z28 (fun hp => ?_) (fun hp => ?_)
    | refine z29 (fun hp => ?_) (fun hp => ?_) | refine z2a ?_ | refine z2b ?_)
  exact fin_cln rfl hQ

theorem c_Fits {l : List Cell} {v : MV} {x : Int} (hv : Sl KCell l v) (hl : l.length ≤ 1000000) (hc : ∀ c ∈ l, c.ok) (hx : I64 x) (hQ : Q (two (fitL l x)) m ls) : Wc ip f_trim_Fits [v, .int .i64 x] m ls Q := by
  refine wc_fn3d rfl fn_trim_Fits rfl (by simp [deepVs, hv.deep, deepV]) rfl ?_
  have hlen := rolesF_len (l := l)
  have key : ∀ (k i : Nat), i + k = l.length → ∀ (o : List Int), o = ((rolesF l).take i).map unhang ++ (rolesF l).drop i → ∀ {R : Ex → As → Mem → List LRec → Prop},
      (R (.exit 0) [(0, v), (1, .int .i64 x), (6, .sl 0 l.length 0 l.length 1 none)] [⟨flat KU8.E ((rolesF l).map unhang), l.length, true⟩] []) →
      Wx ip i_trim_Fits.nt (.loop (lv [0, 1, 6, 11, 12, 13] 30) trim_Fits_b0) [(0, v), (1, .int .i64 x), (6, .sl 0 l.length 0 l.length 1 none), (11, .sl 0 l.length 0 l.length 1 none), (12, .int .i64 l.length), (13, .int .i64 i)] [⟨flat KU8.E o, l.length, true⟩] [] R := by
    intro k
    induction k with
    | zero =>
      intro i hk o ho R hR
      have e : o = (rolesF l).map unhang := by rw [ho, List.take_of_length_le (by omega), List.drop_eq_nil_of_le (by omega)]; simp
      subst e
      refine wx_roundL rfl ?_
      repeat' (first
        | refine wx_exitL [0, 1, 6] ?_
        | refine z00 ?_ | refine z01 ?_ | refine z02 ?_ | refine z03 ?_ | refine z04 ?_ | refine z05 ?_ | refine z06 ?_ | refine z07 ?_ | refine z08 ?_ | refine z09 ?_ | refine z0a ?_
        | refine z0b ?_ | refine z0c ?_ | refine z0d ?_ | refine z0e ?_ | refine z0f ?_ | refine z0g ?_ | refine z0h ?_ | refine z0i ?_ | refine z0j ?_ | refine z0k ?_ | refine z0l ?_
        | refine z0m ?_ | refine z0n ?_ | refine z0o ?_ | refine z0p ?_ | refine z0q ?_ | refine z0r ?_ | refine z0s ?_ | refine z0t ?_ | refine z0u ?_ | refine z0v ?_ | refine z0w ?_
        | refine z0x ?_ | refine z0y ?_ | refine z0z ?_ | refine z10 ?_ | refine z11 ?_ | refine z12 ?_ | refine z13 ?_ | refine z14 ?_ | refine z15 ?_ | refine z16 ?_ | refine z17 ?_
        | refine z18 ?_ | refine z19 ?_ | refine z1a ?_ | refine z1b ?_ | refine z1c ?_ | refine z1d ?_ | refine z1e ?_ | refine z1f (hk := ?_) | refine z1g ?_ | refine z1h ?_ | refine z1i ?_
        | refine z1j ?_ | refine z1k ?_ | refine z1l ?_ | refine z1m ?_ | refine z1n ?_ | refine z1o (fun hp => ?_) (fun hp => ?_) | refine z1p (fun hp => ?_) (fun hp => ?_)
        | refine z1q (fun hp => ?_) (fun hp => ?_) | refine z1r ?_ | refine z1s ?_ | refine z1t ?_ | refine z1u ?_ | refine z1v ?_ | refine z1w ?_ | refine z1x ?_ | refine z1y ?_
        | refine z1z ?_ | refine z20 ?_ | refine z21 ?_ | refine z22 ?_ | refine z23 ?_ | refine z24 ?_ | refine z25 ?_ | refine z26 ?_ | refine z27 ?_
        | refine z28 (fun hp => ?_) (fun hp => ?_) | refine z29 (fun hp => ?_) (fun hp => ?_) | refine z2a ?_ | refine z2b ?_)
      exact hR
    | succ k ih =>
      intro i hk o ho R hR
      have hi : i < (rolesF l).length := by omega
      have hol : o.length = l.length := by rw [ho]; simp; omega
      have hoi : o[i]'(by omega) = (rolesF l)[i] := by
        simp only [ho]
        rw [List.getElem_append_right (by simp; omega)]
        simp
        congr 1; omega
      have hnx : o.set i (unhang (rolesF l)[i]) = ((rolesF l).take (i + 1)).map unhang ++ (rolesF l).drop (i + 1) := by
        rw [ho, List.set_append_right _ _ (by simp; omega), List.take_succ_eq_append_getElem hi, List.drop_eq_getElem_cons hi]
        have : i - (((rolesF l).take i).map unhang).length = 0 := by simp; omega
        rw [this]
        simp only [List.set_cons_zero, List.map_append, List.map_cons, List.map_nil, List.append_assoc, List.cons_append, List.nil_append]
      have hld : loadFrom (flat KU8.E o) (0 + i * 1) none = some (.int .u8 (rolesF l)[i]) := by
        have := load_cell KU8 o (i := i) (o := 0) (by omega) (by decide)
        simp only [KU8, Nat.mul_one, Nat.add_zero, Nat.zero_add] at this ⊢
        rw [this, hoi]; rfl
      have hlt : i < l.length := by omega
      have hge : ¬ ((i : Int) < 0) := by omega
      refine wx_roundL rfl ?_
      by_cases h2 : (rolesF l)[i] = 2
      · have e : unhang (rolesF l)[i] = 1 := by unfold unhang; rw [if_pos h2]
        rw [e] at hnx
        repeat' (first
          | refine wo_iaddrs rfl rfl (by omega) hlt rfl rfl ?_
          | refine wo_load rfl rfl rfl hld rfl ?_
          | refine wx_ifDT rfl h2 ?_
          | refine wo_store rfl rfl rfl rfl rfl rfl (by have := flat_len KU8 o; have e : KU8.sz = 1 := rfl; show _ ≤ (flat KU8.E o).length; rw [this, e]; simp; omega) rfl ?_
          | refine z00 ?_ | refine z01 ?_ | refine z02 ?_ | refine z03 ?_ | refine z04 ?_ | refine z05 ?_ | refine z06 ?_ | refine z07 ?_ | refine z08 ?_ | refine z09 ?_ | refine z0a ?_
          | refine z0b ?_ | refine z0c ?_ | refine z0d ?_ | refine z0e ?_ | refine z0f ?_ | refine z0g ?_ | refine z0h ?_ | refine z0i ?_ | refine z0j ?_ | refine z0k ?_ | refine z0l ?_
          | refine z0m ?_ | refine z0n ?_ | refine z0o ?_ | refine z0p ?_ | refine z0q ?_ | refine z0r ?_ | refine z0s ?_ | refine z0t ?_ | refine z0u ?_ | refine z0v ?_ | refine z0w ?_
          | refine z0x ?_ | refine z0y ?_ | refine z0z ?_ | refine z10 ?_ | refine z11 ?_ | refine z12 ?_ | refine z13 ?_ | refine z14 ?_ | refine z15 ?_ | refine z16 ?_ | refine z17 ?_
          | refine z18 ?_ | refine z19 ?_ | refine z1a ?_ | refine z1b ?_ | refine z1c ?_ | refine z1d ?_ | refine z1e ?_ | refine z1f (hk := ?_) | refine z1g ?_ | refine z1h ?_
          | refine z1i ?_ | refine z1j ?_ | refine z1k ?_ | refine z1l ?_ | refine z1m ?_ | refine z1n ?_ | refine z1o (fun hp => ?_) (fun hp => ?_) | refine z1p (fun hp => ?_) (fun hp => ?_)
          | refine z1q (fun hp => ?_) (fun hp => ?_) | refine z1r ?_ | refine z1s ?_ | refine z1t ?_ | refine z1u ?_ | refine z1v ?_ | refine z1w ?_ | refine z1x ?_ | refine z1y ?_
          | refine z1z ?_ | refine z20 ?_ | refine z21 ?_ | refine z22 ?_ | refine z23 ?_ | refine z24 ?_ | refine z25 ?_ | refine z26 ?_ | refine z27 ?_
          | refine z28 (fun hp => ?_) (fun hp => ?_) | refine z29 (fun hp => ?_) (fun hp => ?_) | refine z2a ?_ | refine z2b ?_)
        refine wx_loopL ?_
        have := ih (i + 1) (by omega) _ hnx hR
        have e2 : setAt (flat KU8.E o) (0 + i * 1) [.int .u8 1] = flat KU8.E (o.set i 1) := set_flat (by omega)
        rw [← e2] at this
        exact this
      · have e : unhang (rolesF l)[i] = o[i]'(by omega) := by unfold unhang; rw [if_neg h2, hoi]
        rw [e, List.set_getElem_self] at hnx
        repeat' (first
          | refine wo_iaddrs rfl rfl (by omega) hlt rfl rfl ?_
          | refine wo_load rfl rfl rfl hld rfl ?_
          | refine wx_ifDF rfl h2 ?_
          | refine z00 ?_ | refine z01 ?_ | refine z02 ?_ | refine z03 ?_ | refine z04 ?_ | refine z05 ?_ | refine z06 ?_ | refine z07 ?_ | refine z08 ?_ | refine z09 ?_ | refine z0a ?_
          | refine z0b ?_ | refine z0c ?_ | refine z0d ?_ | refine z0e ?_ | refine z0f ?_ | refine z0g ?_ | refine z0h ?_ | refine z0i ?_ | refine z0j ?_ | refine z0k ?_ | refine z0l ?_
          | refine z0m ?_ | refine z0n ?_ | refine z0o ?_ | refine z0p ?_ | refine z0q ?_ | refine z0r ?_ | refine z0s ?_ | refine z0t ?_ | refine z0u ?_ | refine z0v ?_ | refine z0w ?_
          | refine z0x ?_ | refine z0y ?_ | refine z0z ?_ | refine z10 ?_ | refine z11 ?_ | refine z12 ?_ | refine z13 ?_ | refine z14 ?_ | refine z15 ?_ | refine z16 ?_ | refine z17 ?_
          | refine z18 ?_ | refine z19 ?_ | refine z1a ?_ | refine z1b ?_ | refine z1c ?_ | refine z1d ?_ | refine z1e ?_ | refine z1f (hk := ?_) | refine z1g ?_ | refine z1h ?_
          | refine z1i ?_ | refine z1j ?_ | refine z1k ?_ | refine z1l ?_ | refine z1m ?_ | refine z1n ?_ | refine z1o (fun hp => ?_) (fun hp => ?_) | refine z1p (fun hp => ?_) (fun hp => ?_)
          | refine z1q (fun hp => ?_) (fun hp => ?_) | refine z1r ?_ | refine z1s ?_ | refine z1t ?_ | refine z1u ?_ | refine z1v ?_ | refine z1w ?_ | refine z1x ?_ | refine z1y ?_
          | refine z1z ?_ | refine z20 ?_ | refine z21 ?_ | refine z22 ?_ | refine z23 ?_ | refine z24 ?_ | refine z25 ?_ | refine z26 ?_ | refine z27 ?_
          | refine z28 (fun hp => ?_) (fun hp => ?_) | refine z29 (fun hp => ?_) (fun hp => ?_) | refine z2a ?_ | refine z2b ?_)
        refine wx_loopL ?_
        exact ih (i + 1) (by omega) _ hnx hR
  repeat' (first
    | refine wo_calltW rfl rfl rfl fn_trim_Roles (by simp [deepVs, hv.deep]) rfl (w_Roles hv hl ?_)
    | refine z00 ?_ | refine z01 ?_ | refine z02 ?_ | refine z03 ?_ | refine z04 ?_ | refine z05 ?_ | refine z06 ?_ | refine z07 ?_ | refine z08 ?_ | refine z09 ?_ | refine z0a ?_
    | refine z0b ?_ | refine z0c ?_ | refine z0d ?_ | refine z0e ?_ | refine z0f ?_ | refine z0g ?_ | refine z0h ?_ | refine z0i ?_ | refine z0j ?_ | refine z0k ?_ | refine z0l ?_
    | refine z0m ?_ | refine z0n ?_ | refine z0o ?_ | refine z0p ?_ | refine z0q ?_ | refine z0r ?_ | refine z0s ?_ | refine z0t ?_ | refine z0u ?_ | refine z0v ?_ | refine z0w ?_
    | refine z0x ?_ | refine z0y ?_ | refine z0z ?_ | refine z10 ?_ | refine z11 ?_ | refine z12 ?_ | refine z13 ?_ | refine z14 ?_ | refine z15 ?_ | refine z16 ?_ | refine z17 ?_
    | refine z18 ?_ | refine z19 ?_ | refine z1a ?_ | refine z1b ?_ | refine z1c ?_ | refine z1d ?_ | refine z1e ?_ | refine z1f (hk := ?_) | refine z1g ?_ | refine z1h ?_ | refine z1i ?_
    | refine z1j ?_ | refine z1k ?_ | refine z1l ?_ | refine z1m ?_ | refine z1n ?_ | refine z1o (fun hp => ?_) (fun hp => ?_) | refine z1p (fun hp => ?_) (fun hp => ?_)
    | refine z1q (fun hp => ?_) (fun hp => ?_) | refine z1r ?_ | refine z1s ?_ | refine z1t ?_ | refine z1u ?_ | refine z1v ?_ | refine z1w ?_ | refine z1x ?_ | refine z1y ?_ | refine z1z ?_
    | refine z20 ?_ | refine z21 ?_ | refine z22 ?_ | refine z23 ?_ | refine z24 ?_ | refine z25 ?_ | refine z26 ?_ | refine z27 ?_ | refine z28 (fun hp => ?_) (fun hp => ?_)
    | refine z29 (fun hp => ?_) (fun hp => ?_) | refine z2a ?_ | refine z2b ?_)
  intro m' ls' h0
  refine ⟨thaw_own h0 (by rw [flat_len, hlen]; rfl), ?_⟩
  repeat' (first
    | refine z00 ?_ | refine z01 ?_ | refine z02 ?_ | refine z03 ?_ | refine z04 ?_ | refine z05 ?_ | refine z06 ?_ | refine z07 ?_ | refine z08 ?_ | refine z09 ?_ | refine z0a ?_
    | refine z0b ?_ | refine z0c ?_ | refine z0d ?_ | refine z0e ?_ | refine z0f ?_ | refine z0g ?_ | refine z0h ?_ | refine z0i ?_ | refine z0j ?_ | refine z0k ?_ | refine z0l ?_
    | refine z0m ?_ | refine z0n ?_ | refine z0o ?_ | refine z0p ?_ | refine z0q ?_ | refine z0r ?_ | refine z0s ?_ | refine z0t ?_ | refine z0u ?_ | refine z0v ?_ | refine z0w ?_
    | refine z0x ?_ | refine z0y ?_ | refine z0z ?_ | refine z10 ?_ | refine z11 ?_ | refine z12 ?_ | refine z13 ?_ | refine z14 ?_ | refine z15 ?_ | refine z16 ?_ | refine z17 ?_
    | refine z18 ?_ | refine z19 ?_ | refine z1a ?_ | refine z1b ?_ | refine z1c ?_ | refine z1d ?_ | refine z1e ?_ | refine z1f (hk := ?_) | refine z1g ?_ | refine z1h ?_ | refine z1i ?_
    | refine z1j ?_ | refine z1k ?_ | refine z1l ?_ | refine z1m ?_ | refine z1n ?_ | refine z1o (fun hp => ?_) (fun hp => ?_) | refine z1p (fun hp => ?_) (fun hp => ?_)
    | refine z1q (fun hp => ?_) (fun hp => ?_) | refine z1r ?_ | refine z1s ?_ | refine z1t ?_ | refine z1u ?_ | refine z1v ?_ | refine z1w ?_ | refine z1x ?_ | refine z1y ?_ | refine z1z ?_
    | refine z20 ?_ | refine z21 ?_ | refine z22 ?_ | refine z23 ?_ | refine z24 ?_ | refine z25 ?_ | refine z26 ?_ | refine z27 ?_ | refine z28 (fun hp => ?_) (fun hp => ?_)
    | refine z29 (fun hp => ?_) (fun hp => ?_) | refine z2a ?_ | refine z2b ?_)
  refine wx_loopL ?_
  refine key l.length 0 (by omega) (rolesF l) (by simp) ?_
  have hz : frzs [⟨flat KU8.E ((rolesF l).map unhang), l.length, true⟩] frzFuel [v, .sl 0 l.length 0 l.length 1 none, .int .i64 x] = some [v, .lit (flat KU8.E ((rolesF l).map unhang)) l.length none, .int .i64 x] := by
    obtain ⟨n, hn⟩ := fuel 9 (by omega)
    rw [hn]
    have ht : takeAt (flat KU8.E ((rolesF l).map unhang)) 0 l.length = some (flat KU8.E ((rolesF l).map unhang)) := take_all (by rw [flat_len]; simp [KU8, hlen])
    simp [frzs, frz, deepVs, deepV, hv.deep, blk?, ht]
  have hs : Sl KU8 ((rolesF l).map unhang) (.lit (flat KU8.E ((rolesF l).map unhang)) l.length none) := by
    have := Sl.lit (K := KU8) (xs := (rolesF l).map unhang) (kc := none)
    rw [List.length_map, hlen] at this
    exact this
  repeat' (first
    | refine wo_call rfl rfl rfl (c_End hz hv hs hl hc hx ?_)
    | refine z00 ?_ | refine z01 ?_ | refine z02 ?_ | refine z03 ?_ | refine z04 ?_ | refine z05 ?_ | refine z06 ?_ | refine z07 ?_ | refine z08 ?_ | refine z09 ?_ | refine z0a ?_
    | refine z0b ?_ | refine z0c ?_ | refine z0d ?_ | refine z0e ?_ | refine z0f ?_ | refine z0g ?_ | refine z0h ?_ | refine z0i ?_ | refine z0j ?_ | refine z0k ?_ | refine z0l ?_
    | refine z0m ?_ | refine z0n ?_ | refine z0o ?_ | refine z0p ?_ | refine z0q ?_ | refine z0r ?_ | refine z0s ?_ | refine z0t ?_ | refine z0u ?_ | refine z0v ?_ | refine z0w ?_
    | refine z0x ?_ | refine z0y ?_ | refine z0z ?_ | refine z10 ?_ | refine z11 ?_ | refine z12 ?_ | refine z13 ?_ | refine z14 ?_ | refine z15 ?_ | refine z16 ?_ | refine z17 ?_
    | refine z18 ?_ | refine z19 ?_ | refine z1a ?_ | refine z1b ?_ | refine z1c ?_ | refine z1d ?_ | refine z1e ?_ | refine z1f (hk := ?_) | refine z1g ?_ | refine z1h ?_ | refine z1i ?_
    | refine z1j ?_ | refine z1k ?_ | refine z1l ?_ | refine z1m ?_ | refine z1n ?_ | refine z1o (fun hp => ?_) (fun hp => ?_) | refine z1p (fun hp => ?_) (fun hp => ?_)
    | refine z1q (fun hp => ?_) (fun hp => ?_) | refine z1r ?_ | refine z1s ?_ | refine z1t ?_ | refine z1u ?_ | refine z1v ?_ | refine z1w ?_ | refine z1x ?_ | refine z1y ?_ | refine z1z ?_
    | refine z20 ?_ | refine z21 ?_ | refine z22 ?_ | refine z23 ?_ | refine z24 ?_ | refine z25 ?_ | refine z26 ?_ | refine z27 ?_ | refine z28 (fun hp => ?_) (fun hp => ?_)
    | refine z29 (fun hp => ?_) (fun hp => ?_) | refine z2a ?_ | refine z2b ?_)
  exact fin_cln rfl hQ

/-! ### Where lines are cut -/

def withinF (l : List Cell) (whole : List Bool) (x : Line) : Bool := decide (whole.length = l.length ∧ 0 ≤ x.fr ∧ x.fr ≤ x.to ∧ x.to ≤ l.length)

theorem c_within {l : List Cell} {whole : List Bool} {v w : MV} {x : Line} (hv : Sl KCell l v) (hw : Sl KBool whole w) (hQ : Q (.bool (withinF l whole x)) m ls) : Wc ip f_ellipsis_within [v, w, .agg x.mv] m ls Q := by
  refine wc_fn3d rfl fn_ellipsis_within rfl (by simp [deepVs, hv.deep, hw.deep, deepV, Line.mv]) rfl ?_
  repeat' (first
    | refine z00 ?_ | refine z01 ?_ | refine z02 ?_ | refine z03 ?_ | refine z04 ?_ | refine z05 ?_ | refine z06 ?_ | refine z07 ?_ | refine z08 ?_ | refine z09 ?_ | refine z0a ?_
    | refine z0b ?_ | refine z0c ?_ | refine z0d ?_ | refine z0e ?_ | refine z0f ?_ | refine z0g ?_ | refine z0h ?_ | refine z0i ?_ | refine z0j ?_ | refine z0k ?_ | refine z0l ?_
    | refine z0m ?_ | refine z0n ?_ | refine z0o ?_ | refine z0p ?_ | refine z0q ?_ | refine z0r ?_ | refine z0s ?_ | refine z0t ?_ | refine z0u ?_ | refine z0v ?_ | refine z0w ?_
    | refine z0x ?_ | refine z0y ?_ | refine z0z ?_ | refine z10 ?_ | refine z11 ?_ | refine z12 ?_ | refine z13 ?_ | refine z14 ?_ | refine z15 ?_ | refine z16 ?_ | refine z17 ?_
    | refine z18 ?_ | refine z19 ?_ | refine z1a ?_ | refine z1b ?_ | refine z1c ?_ | refine z1d ?_ | refine z1e ?_ | refine z1f (hk := ?_) | refine z1g ?_ | refine z1h ?_ | refine z1i ?_
    | refine z1j ?_ | refine z1k ?_ | refine z1l ?_ | refine z1m ?_ | refine z1n ?_ | refine z1o (fun hp => ?_) (fun hp => ?_) | refine z1p (fun hp => ?_) (fun hp => ?_)
    | refine z1q (fun hp => ?_) (fun hp => ?_) | refine z1r ?_ | refine z1s ?_ | refine z1t ?_ | refine z1u ?_ | refine z1v ?_ | refine z1w ?_ | refine z1x ?_ | refine z1y ?_ | refine z1z ?_
    | refine z20 ?_ | refine z21 ?_ | refine z22 ?_ | refine z23 ?_ | refine z24 ?_ | refine z25 ?_ | refine z26 ?_ | refine z27 ?_ | refine z28 (fun hp => ?_) (fun hp => ?_)
    | refine z29 (fun hp => ?_) (fun hp => ?_) | refine z2a ?_ | refine z2b ?_)
  all_goals
    refine fin_cln rfl ?_
    have e : ∀ b : Bool, b = withinF l whole x → Q (.bool b) m ls := fun b h => h ▸ hQ
    refine e _ ?_
    unfold withinF
    first
      | (symm; rw [decide_eq_false_iff_not]; omega)
      | (rw [decide_eq_decide]; omega)

/-- The places that may be cut, from a place on, backward. -/
def backF (whole : List Bool) (to : Int) : Nat → Int → List Int
  | 0, _ => []
  | n + 1, p => if p = to ∨ whole.getD p.toNat false = true then p :: backF whole to n (p - 1) else backF whole to n (p - 1)

theorem c_back {whole : List Bool} {w : MV} {x : Line} (hw : Sl KBool whole w) (hQ : Q (.fn f_ellipsis_back_1 [] [.pimm x.mv 0, .pimm [w] 0]) m ls) : Wc ip f_ellipsis_back [w, .agg x.mv] m ls Q := by
  have h1 := hw.cells
  have h3 : deepVs [w] = true := by simp [deepVs, hw.deep]
  refine wc_fn1 rfl fn_ellipsis_back rfl (by simp [deepVs, hw.deep, deepV, Line.mv]) rfl ?_
  repeat' (first
    | refine z00 ?_ | refine z01 ?_ | refine z02 ?_ | refine z03 ?_ | refine z04 ?_ | refine z05 ?_ | refine z06 ?_ | refine z07 ?_ | refine z08 ?_ | refine z09 ?_ | refine z0a ?_
    | refine z0b ?_ | refine z0c ?_ | refine z0d ?_ | refine z0e ?_ | refine z0f ?_ | refine z0g ?_ | refine z0h ?_ | refine z0i ?_ | refine z0j ?_ | refine z0k ?_ | refine z0l ?_
    | refine z0m ?_ | refine z0n ?_ | refine z0o ?_ | refine z0p ?_ | refine z0q ?_ | refine z0r ?_ | refine z0s ?_ | refine z0t ?_ | refine z0u ?_ | refine z0v ?_ | refine z0w ?_
    | refine z0x ?_ | refine z0y ?_ | refine z0z ?_ | refine z10 ?_ | refine z11 ?_ | refine z12 ?_ | refine z13 ?_ | refine z14 ?_ | refine z15 ?_ | refine z16 ?_ | refine z17 ?_
    | refine z18 ?_ | refine z19 ?_ | refine z1a ?_ | refine z1b ?_ | refine z1c ?_ | refine z1d ?_ | refine z1e ?_ | refine z1f (hk := ?_) | refine z1g ?_ | refine z1h ?_ | refine z1i ?_
    | refine z1j ?_ | refine z1k ?_ | refine z1l ?_ | refine z1m ?_ | refine z1n ?_ | refine z1o (fun hp => ?_) (fun hp => ?_) | refine z1p (fun hp => ?_) (fun hp => ?_)
    | refine z1q (fun hp => ?_) (fun hp => ?_) | refine z1r ?_ | refine z1s ?_ | refine z1t ?_ | refine z1u ?_ | refine z1v ?_ | refine z1w ?_ | refine z1x ?_ | refine z1y ?_ | refine z1z ?_
    | refine z20 ?_ | refine z21 ?_ | refine z22 ?_ | refine z23 ?_ | refine z24 ?_ | refine z25 ?_ | refine z26 ?_ | refine z27 ?_ | refine z28 (fun hp => ?_) (fun hp => ?_)
    | refine z29 (fun hp => ?_) (fun hp => ?_) | refine z2a ?_ | refine z2b ?_)
  exact fin1_deep (by simp [one, deepV, deepVs, Line.mv]) hQ

theorem iter_back {whole : List Bool} {w : MV} {x : Line} (hw : Sl KBool whole w) (h0 : 0 ≤ x.fr) (h1 : x.fr ≤ x.to) (h2 : x.to ≤ whole.length) (hl : whole.length ≤ 1000000) :
    IterOk ip f_ellipsis_back_1 [] [.pimm x.mv 0, .pimm [w] 0] ((backF whole x.to (x.to - x.fr + 1).toNat x.to).map fun p => [.int .i64 p]) := by
  intro J S j m ls hJ0 hJa hY
  refine wc_fn0 rfl fn_ellipsis_back_1 rfl rfl ?_
  generalize hall : backF whole x.to (x.to - x.fr + 1).toNat x.to = all at hY ⊢
  have key : ∀ (n : Nat) (p : Int) (m : Mem) (ls : List LRec) (done : List Int), p = x.fr + n - 1 → p ≤ x.to → all = done ++ backF whole x.to n p → J done.length m ls →
      Wx ip i_ellipsis_back_1.nt (.loop (lv [0, 1, 2, 4] 29) ellipsis_back_1_b0) [(0, .yld j), (1, .pimm x.mv 0), (2, .pimm [w] 0), (4, .int .i64 p)] m ls
        (blockK 0 (endK i_ellipsis_back_1.res fun _ m' ls' => J (all.map fun p => [MV.int .i64 p]).length m' ls' ∨ S m' ls')) := by
    intro n
    induction n with
    | zero =>
      intro p m ls done hp hle hs hJ
      simp only [backF, List.append_nil] at hs
      refine wx_roundL rfl ?_
      repeat' (first
        | refine z00 ?_ | refine z01 ?_ | refine z02 ?_ | refine z03 ?_ | refine z04 ?_ | refine z05 ?_ | refine z06 ?_ | refine z07 ?_ | refine z08 ?_ | refine z09 ?_ | refine z0a ?_
        | refine z0b ?_ | refine z0c ?_ | refine z0d ?_ | refine z0e ?_ | refine z0f ?_ | refine z0g ?_ | refine z0h ?_ | refine z0i ?_ | refine z0j ?_ | refine z0k ?_ | refine z0l ?_
        | refine z0m ?_ | refine z0n ?_ | refine z0o ?_ | refine z0p ?_ | refine z0q ?_ | refine z0r ?_ | refine z0s ?_ | refine z0t ?_ | refine z0u ?_ | refine z0v ?_ | refine z0w ?_
        | refine z0x ?_ | refine z0y ?_ | refine z0z ?_ | refine z10 ?_ | refine z11 ?_ | refine z12 ?_ | refine z13 ?_ | refine z14 ?_ | refine z15 ?_ | refine z16 ?_ | refine z17 ?_
        | refine z18 ?_ | refine z19 ?_ | refine z1a ?_ | refine z1b ?_ | refine z1c ?_ | refine z1d ?_ | refine z1e ?_ | refine z1f (hk := ?_) | refine z1g ?_ | refine z1h ?_ | refine z1i ?_
        | refine z1j ?_ | refine z1k ?_ | refine z1l ?_ | refine z1m ?_ | refine z1n ?_ | refine z1o (fun hp => ?_) (fun hp => ?_) | refine z1p (fun hp => ?_) (fun hp => ?_)
        | refine z1q (fun hp => ?_) (fun hp => ?_) | refine z1r ?_ | refine z1s ?_ | refine z1t ?_ | refine z1u ?_ | refine z1v ?_ | refine z1w ?_ | refine z1x ?_ | refine z1y ?_
        | refine z1z ?_ | refine z20 ?_ | refine z21 ?_ | refine z22 ?_ | refine z23 ?_ | refine z24 ?_ | refine z25 ?_ | refine z26 ?_ | refine z27 ?_
        | refine z28 (fun hp => ?_) (fun hp => ?_) | refine z29 (fun hp => ?_) (fun hp => ?_) | refine z2a ?_ | refine z2b ?_)
      left
      rw [List.length_map, hs]
      exact hJ
    | succ n ih =>
      intro p m ls done hp hle hs hJ
      have hpge : x.fr ≤ p := by omega
      simp only [backF] at hs
      refine wx_roundL rfl ?_
      by_cases hc : p = x.to ∨ whole.getD p.toNat false = true
      · rw [if_pos hc] at hs
        have hget : (all.map fun p => [MV.int .i64 p])[done.length]? = some [.int .i64 p] := by
          rw [hs, List.getElem?_map, List.getElem?_append_right (Nat.le_refl _)]; simp
        have hnx : ∀ (m : Mem) (ls : List LRec), J (done.length + 1) m ls → Wx ip i_ellipsis_back_1.nt (.loop (lv [0, 1, 2, 4] 29) ellipsis_back_1_b0) [(0, .yld j), (1, .pimm x.mv 0), (2, .pimm [w] 0), (4, .int .i64 (p - 1))] m ls
            (blockK 0 (endK i_ellipsis_back_1.res fun _ m' ls' => J (all.map fun p => [MV.int .i64 p]).length m' ls' ∨ S m' ls')) := fun m ls hJ =>
          ih (p - 1) m ls (done ++ [p]) (by omega) (by omega) (by rw [hs]; simp) (by simpa using hJ)
        by_cases ht : p = x.to
        · repeat' (first
            | refine wo_guardET rfl ht rfl ?_
            | refine z00 ?_ | refine z01 ?_ | refine z02 ?_ | refine z03 ?_ | refine z04 ?_ | refine z05 ?_ | refine z06 ?_ | refine z07 ?_ | refine z08 ?_ | refine z09 ?_ | refine z0a ?_
            | refine z0b ?_ | refine z0c ?_ | refine z0d ?_ | refine z0e ?_ | refine z0f ?_ | refine z0g ?_ | refine z0h ?_ | refine z0i ?_ | refine z0j ?_ | refine z0k ?_ | refine z0l ?_
            | refine z0m ?_ | refine z0n ?_ | refine z0o ?_ | refine z0p ?_ | refine z0q ?_ | refine z0r ?_ | refine z0s ?_ | refine z0t ?_ | refine z0u ?_ | refine z0v ?_ | refine z0w ?_
            | refine z0x ?_ | refine z0y ?_ | refine z0z ?_ | refine z10 ?_ | refine z11 ?_ | refine z12 ?_ | refine z13 ?_ | refine z14 ?_ | refine z15 ?_ | refine z16 ?_ | refine z17 ?_
            | refine z18 ?_ | refine z19 ?_ | refine z1a ?_ | refine z1b ?_ | refine z1c ?_ | refine z1d ?_ | refine z1e ?_ | refine z1f (hk := ?_) | refine z1g ?_ | refine z1h ?_
            | refine z1i ?_ | refine z1j ?_ | refine z1k ?_ | refine z1l ?_ | refine z1m ?_ | refine z1n ?_ | refine z1o (fun hp => ?_) (fun hp => ?_)
            | refine z1p (fun hp => ?_) (fun hp => ?_) | refine z1q (fun hp => ?_) (fun hp => ?_) | refine z1r ?_ | refine z1s ?_ | refine z1t ?_ | refine z1u ?_ | refine z1v ?_
            | refine z1w ?_ | refine z1x ?_ | refine z1y ?_ | refine z1z ?_ | refine z20 ?_ | refine z21 ?_ | refine z22 ?_ | refine z23 ?_ | refine z24 ?_ | refine z25 ?_ | refine z26 ?_
            | refine z27 ?_ | refine z28 (fun hp => ?_) (fun hp => ?_) | refine z29 (fun hp => ?_) (fun hp => ?_) | refine z2a ?_ | refine z2b ?_)
          refine wo_yld rfl rfl rfl ((hY _ _ _ _ hget hJ).mono ?_)
          rintro u m' ls' (⟨rfl, hJ'⟩ | ⟨rfl, hS⟩)
          · repeat' (first
              | refine z00 ?_ | refine z01 ?_ | refine z02 ?_ | refine z03 ?_ | refine z04 ?_ | refine z05 ?_ | refine z06 ?_ | refine z07 ?_ | refine z08 ?_ | refine z09 ?_ | refine z0a ?_
              | refine z0b ?_ | refine z0c ?_ | refine z0d ?_ | refine z0e ?_ | refine z0f ?_ | refine z0g ?_ | refine z0h ?_ | refine z0i ?_ | refine z0j ?_ | refine z0k ?_ | refine z0l ?_
              | refine z0m ?_ | refine z0n ?_ | refine z0o ?_ | refine z0p ?_ | refine z0q ?_ | refine z0r ?_ | refine z0s ?_ | refine z0t ?_ | refine z0u ?_ | refine z0v ?_ | refine z0w ?_
              | refine z0x ?_ | refine z0y ?_ | refine z0z ?_ | refine z10 ?_ | refine z11 ?_ | refine z12 ?_ | refine z13 ?_ | refine z14 ?_ | refine z15 ?_ | refine z16 ?_ | refine z17 ?_
              | refine z18 ?_ | refine z19 ?_ | refine z1a ?_ | refine z1b ?_ | refine z1c ?_ | refine z1d ?_ | refine z1e ?_ | refine z1f (hk := ?_) | refine z1g ?_ | refine z1h ?_
              | refine z1i ?_ | refine z1j ?_ | refine z1k ?_ | refine z1l ?_ | refine z1m ?_ | refine z1n ?_ | refine z1o (fun hp => ?_) (fun hp => ?_)
              | refine z1p (fun hp => ?_) (fun hp => ?_) | refine z1q (fun hp => ?_) (fun hp => ?_) | refine z1r ?_ | refine z1s ?_ | refine z1t ?_ | refine z1u ?_ | refine z1v ?_
              | refine z1w ?_ | refine z1x ?_ | refine z1y ?_ | refine z1z ?_ | refine z20 ?_ | refine z21 ?_ | refine z22 ?_ | refine z23 ?_ | refine z24 ?_ | refine z25 ?_ | refine z26 ?_
              | refine z27 ?_ | refine z28 (fun hp => ?_) (fun hp => ?_) | refine z29 (fun hp => ?_) (fun hp => ?_) | refine z2a ?_ | refine z2b ?_)
            exact wx_loopL (hnx _ _ hJ')
          · repeat' (first
              | refine z00 ?_ | refine z01 ?_ | refine z02 ?_ | refine z03 ?_ | refine z04 ?_ | refine z05 ?_ | refine z06 ?_ | refine z07 ?_ | refine z08 ?_ | refine z09 ?_ | refine z0a ?_
              | refine z0b ?_ | refine z0c ?_ | refine z0d ?_ | refine z0e ?_ | refine z0f ?_ | refine z0g ?_ | refine z0h ?_ | refine z0i ?_ | refine z0j ?_ | refine z0k ?_ | refine z0l ?_
              | refine z0m ?_ | refine z0n ?_ | refine z0o ?_ | refine z0p ?_ | refine z0q ?_ | refine z0r ?_ | refine z0s ?_ | refine z0t ?_ | refine z0u ?_ | refine z0v ?_ | refine z0w ?_
              | refine z0x ?_ | refine z0y ?_ | refine z0z ?_ | refine z10 ?_ | refine z11 ?_ | refine z12 ?_ | refine z13 ?_ | refine z14 ?_ | refine z15 ?_ | refine z16 ?_ | refine z17 ?_
              | refine z18 ?_ | refine z19 ?_ | refine z1a ?_ | refine z1b ?_ | refine z1c ?_ | refine z1d ?_ | refine z1e ?_ | refine z1f (hk := ?_) | refine z1g ?_ | refine z1h ?_
              | refine z1i ?_ | refine z1j ?_ | refine z1k ?_ | refine z1l ?_ | refine z1m ?_ | refine z1n ?_ | refine z1o (fun hp => ?_) (fun hp => ?_)
              | refine z1p (fun hp => ?_) (fun hp => ?_) | refine z1q (fun hp => ?_) (fun hp => ?_) | refine z1r ?_ | refine z1s ?_ | refine z1t ?_ | refine z1u ?_ | refine z1v ?_
              | refine z1w ?_ | refine z1x ?_ | refine z1y ?_ | refine z1z ?_ | refine z20 ?_ | refine z21 ?_ | refine z22 ?_ | refine z23 ?_ | refine z24 ?_ | refine z25 ?_ | refine z26 ?_
              | refine z27 ?_ | refine z28 (fun hp => ?_) (fun hp => ?_) | refine z29 (fun hp => ?_) (fun hp => ?_) | refine z2a ?_ | refine z2b ?_)
            exact .inr hS
        · have hlt : p.toNat < whole.length := by omega
          have hwt : whole[p.toNat] = true := by
            rcases hc with h | h
            · exact absurd h ht
            · rw [getD_lt hlt] at h; exact h
          repeat' (first
            | refine wo_guardEF rfl ht rfl ?_
            | refine wo_loadc (K := KBool) (u := .bool true) rfl hlt (by show some (MV.bool whole[p.toNat]) = _; rw [hwt]) rfl ?_
            | refine z00 ?_ | refine z01 ?_ | refine z02 ?_ | refine z03 ?_ | refine z04 ?_ | refine z05 ?_ | refine z06 ?_ | refine z07 ?_ | refine z08 ?_ | refine z09 ?_ | refine z0a ?_
            | refine z0b ?_ | refine z0c ?_ | refine z0d ?_ | refine z0e ?_ | refine z0f ?_ | refine z0g ?_ | refine z0h ?_ | refine z0i ?_ | refine z0j ?_ | refine z0k ?_ | refine z0l ?_
            | refine z0m ?_ | refine z0n ?_ | refine z0o ?_ | refine z0p ?_ | refine z0q ?_ | refine z0r ?_ | refine z0s ?_ | refine z0t ?_ | refine z0u ?_ | refine z0v ?_ | refine z0w ?_
            | refine z0x ?_ | refine z0y ?_ | refine z0z ?_ | refine z10 ?_ | refine z11 ?_ | refine z12 ?_ | refine z13 ?_ | refine z14 ?_ | refine z15 ?_ | refine z16 ?_ | refine z17 ?_
            | refine z18 ?_ | refine z19 ?_ | refine z1a ?_ | refine z1b ?_ | refine z1c ?_ | refine z1d ?_ | refine z1e ?_ | refine z1f (hk := ?_) | refine z1g ?_ | refine z1h ?_
            | refine z1i ?_ | refine z1j ?_ | refine z1k ?_ | refine z1l ?_ | refine z1m ?_ | refine z1n ?_ | refine z1o (fun hp => ?_) (fun hp => ?_)
            | refine z1p (fun hp => ?_) (fun hp => ?_) | refine z1q (fun hp => ?_) (fun hp => ?_) | refine z1r ?_ | refine z1s ?_ | refine z1t ?_ | refine z1u ?_ | refine z1v ?_
            | refine z1w ?_ | refine z1x ?_ | refine z1y ?_ | refine z1z ?_ | refine z20 ?_ | refine z21 ?_ | refine z22 ?_ | refine z23 ?_ | refine z24 ?_ | refine z25 ?_ | refine z26 ?_
            | refine z27 ?_ | refine z28 (fun hp => ?_) (fun hp => ?_) | refine z29 (fun hp => ?_) (fun hp => ?_) | refine z2a ?_ | refine z2b ?_)
          refine wo_yld rfl rfl rfl ((hY _ _ _ _ hget hJ).mono ?_)
          rintro u m' ls' (⟨rfl, hJ'⟩ | ⟨rfl, hS⟩)
          · repeat' (first
              | refine z00 ?_ | refine z01 ?_ | refine z02 ?_ | refine z03 ?_ | refine z04 ?_ | refine z05 ?_ | refine z06 ?_ | refine z07 ?_ | refine z08 ?_ | refine z09 ?_ | refine z0a ?_
              | refine z0b ?_ | refine z0c ?_ | refine z0d ?_ | refine z0e ?_ | refine z0f ?_ | refine z0g ?_ | refine z0h ?_ | refine z0i ?_ | refine z0j ?_ | refine z0k ?_ | refine z0l ?_
              | refine z0m ?_ | refine z0n ?_ | refine z0o ?_ | refine z0p ?_ | refine z0q ?_ | refine z0r ?_ | refine z0s ?_ | refine z0t ?_ | refine z0u ?_ | refine z0v ?_ | refine z0w ?_
              | refine z0x ?_ | refine z0y ?_ | refine z0z ?_ | refine z10 ?_ | refine z11 ?_ | refine z12 ?_ | refine z13 ?_ | refine z14 ?_ | refine z15 ?_ | refine z16 ?_ | refine z17 ?_
              | refine z18 ?_ | refine z19 ?_ | refine z1a ?_ | refine z1b ?_ | refine z1c ?_ | refine z1d ?_ | refine z1e ?_ | refine z1f (hk := ?_) | refine z1g ?_ | refine z1h ?_
              | refine z1i ?_ | refine z1j ?_ | refine z1k ?_ | refine z1l ?_ | refine z1m ?_ | refine z1n ?_ | refine z1o (fun hp => ?_) (fun hp => ?_)
              | refine z1p (fun hp => ?_) (fun hp => ?_) | refine z1q (fun hp => ?_) (fun hp => ?_) | refine z1r ?_ | refine z1s ?_ | refine z1t ?_ | refine z1u ?_ | refine z1v ?_
              | refine z1w ?_ | refine z1x ?_ | refine z1y ?_ | refine z1z ?_ | refine z20 ?_ | refine z21 ?_ | refine z22 ?_ | refine z23 ?_ | refine z24 ?_ | refine z25 ?_ | refine z26 ?_
              | refine z27 ?_ | refine z28 (fun hp => ?_) (fun hp => ?_) | refine z29 (fun hp => ?_) (fun hp => ?_) | refine z2a ?_ | refine z2b ?_)
            exact wx_loopL (hnx _ _ hJ')
          · repeat' (first
              | refine z00 ?_ | refine z01 ?_ | refine z02 ?_ | refine z03 ?_ | refine z04 ?_ | refine z05 ?_ | refine z06 ?_ | refine z07 ?_ | refine z08 ?_ | refine z09 ?_ | refine z0a ?_
              | refine z0b ?_ | refine z0c ?_ | refine z0d ?_ | refine z0e ?_ | refine z0f ?_ | refine z0g ?_ | refine z0h ?_ | refine z0i ?_ | refine z0j ?_ | refine z0k ?_ | refine z0l ?_
              | refine z0m ?_ | refine z0n ?_ | refine z0o ?_ | refine z0p ?_ | refine z0q ?_ | refine z0r ?_ | refine z0s ?_ | refine z0t ?_ | refine z0u ?_ | refine z0v ?_ | refine z0w ?_
              | refine z0x ?_ | refine z0y ?_ | refine z0z ?_ | refine z10 ?_ | refine z11 ?_ | refine z12 ?_ | refine z13 ?_ | refine z14 ?_ | refine z15 ?_ | refine z16 ?_ | refine z17 ?_
              | refine z18 ?_ | refine z19 ?_ | refine z1a ?_ | refine z1b ?_ | refine z1c ?_ | refine z1d ?_ | refine z1e ?_ | refine z1f (hk := ?_) | refine z1g ?_ | refine z1h ?_
              | refine z1i ?_ | refine z1j ?_ | refine z1k ?_ | refine z1l ?_ | refine z1m ?_ | refine z1n ?_ | refine z1o (fun hp => ?_) (fun hp => ?_)
              | refine z1p (fun hp => ?_) (fun hp => ?_) | refine z1q (fun hp => ?_) (fun hp => ?_) | refine z1r ?_ | refine z1s ?_ | refine z1t ?_ | refine z1u ?_ | refine z1v ?_
              | refine z1w ?_ | refine z1x ?_ | refine z1y ?_ | refine z1z ?_ | refine z20 ?_ | refine z21 ?_ | refine z22 ?_ | refine z23 ?_ | refine z24 ?_ | refine z25 ?_ | refine z26 ?_
              | refine z27 ?_ | refine z28 (fun hp => ?_) (fun hp => ?_) | refine z29 (fun hp => ?_) (fun hp => ?_) | refine z2a ?_ | refine z2b ?_)
            exact .inr hS
      · rw [if_neg hc] at hs
        have ht : ¬ p = x.to := fun h => hc (.inl h)
        have hlt : p.toNat < whole.length := by omega
        have hwt : whole[p.toNat] = false := by
          cases h : whole[p.toNat] with
          | false => rfl
          | true => exact absurd (.inr (by rw [getD_lt hlt]; exact h)) hc
        repeat' (first
          | refine wo_guardEF rfl ht rfl ?_
          | refine wo_loadc (K := KBool) (u := .bool false) rfl hlt (by show some (MV.bool whole[p.toNat]) = _; rw [hwt]) rfl ?_
          | refine z00 ?_ | refine z01 ?_ | refine z02 ?_ | refine z03 ?_ | refine z04 ?_ | refine z05 ?_ | refine z06 ?_ | refine z07 ?_ | refine z08 ?_ | refine z09 ?_ | refine z0a ?_
          | refine z0b ?_ | refine z0c ?_ | refine z0d ?_ | refine z0e ?_ | refine z0f ?_ | refine z0g ?_ | refine z0h ?_ | refine z0i ?_ | refine z0j ?_ | refine z0k ?_ | refine z0l ?_
          | refine z0m ?_ | refine z0n ?_ | refine z0o ?_ | refine z0p ?_ | refine z0q ?_ | refine z0r ?_ | refine z0s ?_ | refine z0t ?_ | refine z0u ?_ | refine z0v ?_ | refine z0w ?_
          | refine z0x ?_ | refine z0y ?_ | refine z0z ?_ | refine z10 ?_ | refine z11 ?_ | refine z12 ?_ | refine z13 ?_ | refine z14 ?_ | refine z15 ?_ | refine z16 ?_ | refine z17 ?_
          | refine z18 ?_ | refine z19 ?_ | refine z1a ?_ | refine z1b ?_ | refine z1c ?_ | refine z1d ?_ | refine z1e ?_ | refine z1f (hk := ?_) | refine z1g ?_ | refine z1h ?_
          | refine z1i ?_ | refine z1j ?_ | refine z1k ?_ | refine z1l ?_ | refine z1m ?_ | refine z1n ?_ | refine z1o (fun hp => ?_) (fun hp => ?_) | refine z1p (fun hp => ?_) (fun hp => ?_)
          | refine z1q (fun hp => ?_) (fun hp => ?_) | refine z1r ?_ | refine z1s ?_ | refine z1t ?_ | refine z1u ?_ | refine z1v ?_ | refine z1w ?_ | refine z1x ?_ | refine z1y ?_
          | refine z1z ?_ | refine z20 ?_ | refine z21 ?_ | refine z22 ?_ | refine z23 ?_ | refine z24 ?_ | refine z25 ?_ | refine z26 ?_ | refine z27 ?_
          | refine z28 (fun hp => ?_) (fun hp => ?_) | refine z29 (fun hp => ?_) (fun hp => ?_) | refine z2a ?_ | refine z2b ?_)
        exact wx_loopL (ih (p - 1) m ls done (by omega) (by omega) hs hJ)
  repeat' (first
    | refine z00 ?_ | refine z01 ?_ | refine z02 ?_ | refine z03 ?_ | refine z04 ?_ | refine z05 ?_ | refine z06 ?_ | refine z07 ?_ | refine z08 ?_ | refine z09 ?_ | refine z0a ?_
    | refine z0b ?_ | refine z0c ?_ | refine z0d ?_ | refine z0e ?_ | refine z0f ?_ | refine z0g ?_ | refine z0h ?_ | refine z0i ?_ | refine z0j ?_ | refine z0k ?_ | refine z0l ?_
    | refine z0m ?_ | refine z0n ?_ | refine z0o ?_ | refine z0p ?_ | refine z0q ?_ | refine z0r ?_ | refine z0s ?_ | refine z0t ?_ | refine z0u ?_ | refine z0v ?_ | refine z0w ?_
    | refine z0x ?_ | refine z0y ?_ | refine z0z ?_ | refine z10 ?_ | refine z11 ?_ | refine z12 ?_ | refine z13 ?_ | refine z14 ?_ | refine z15 ?_ | refine z16 ?_ | refine z17 ?_
    | refine z18 ?_ | refine z19 ?_ | refine z1a ?_ | refine z1b ?_ | refine z1c ?_ | refine z1d ?_ | refine z1e ?_ | refine z1f (hk := ?_) | refine z1g ?_ | refine z1h ?_ | refine z1i ?_
    | refine z1j ?_ | refine z1k ?_ | refine z1l ?_ | refine z1m ?_ | refine z1n ?_ | refine z1o (fun hp => ?_) (fun hp => ?_) | refine z1p (fun hp => ?_) (fun hp => ?_)
    | refine z1q (fun hp => ?_) (fun hp => ?_) | refine z1r ?_ | refine z1s ?_ | refine z1t ?_ | refine z1u ?_ | refine z1v ?_ | refine z1w ?_ | refine z1x ?_ | refine z1y ?_ | refine z1z ?_
    | refine z20 ?_ | refine z21 ?_ | refine z22 ?_ | refine z23 ?_ | refine z24 ?_ | refine z25 ?_ | refine z26 ?_ | refine z27 ?_ | refine z28 (fun hp => ?_) (fun hp => ?_)
    | refine z29 (fun hp => ?_) (fun hp => ?_) | refine z2a ?_ | refine z2b ?_)
  refine wx_loopL ?_
  refine key (x.to - x.fr + 1).toNat x.to m ls [] (by omega) (by omega) ?_ hJ0
  rw [← hall]; rfl

/-- The first of some places of which something is so; another one, if there is none. -/
theorem c_first {xs : List Int} {other : Int} {g : Nat} {b : List MV} {args : List MV} {sf : Nat} {sc : List MV} {so : Int → Bool} (hz : frzs m frzFuel args = some [.fn g [] b, .int .i64 other, .fn sf [] sc]) (hd : deepVs sc = true) (hit : IterOk ip g [] b (xs.map fun p => [.int .i64 p]))
    (hso : ∀ p ∈ xs, ∀ (m : Mem) (ls : List LRec) (Q : MV → Mem → List LRec → Prop), Q (.bool (so p)) m ls → Wc ip sf (.int .i64 p :: sc) m ls Q)
    (hQ : Q (.int .i64 ((xs.find? so).getD other)) m ls) : Wc ip f_ellipsis_first args m ls Q := by
  refine wc_fn3 rfl fn_ellipsis_first rfl hz rfl ?_
  have hd2 : deepVs [.fn sf [] sc] = true := by simp [deepVs, deepV, hd]
  repeat' (first
    | refine z00 ?_ | refine z01 ?_ | refine z02 ?_ | refine z03 ?_ | refine z04 ?_ | refine z05 ?_ | refine z06 ?_ | refine z07 ?_ | refine z08 ?_ | refine z09 ?_ | refine z0a ?_
    | refine z0b ?_ | refine z0c ?_ | refine z0d ?_ | refine z0e ?_ | refine z0f ?_ | refine z0g ?_ | refine z0h ?_ | refine z0i ?_ | refine z0j ?_ | refine z0k ?_ | refine z0l ?_
    | refine z0m ?_ | refine z0n ?_ | refine z0o ?_ | refine z0p ?_ | refine z0q ?_ | refine z0r ?_ | refine z0s ?_ | refine z0t ?_ | refine z0u ?_ | refine z0v ?_ | refine z0w ?_
    | refine z0x ?_ | refine z0y ?_ | refine z0z ?_ | refine z10 ?_ | refine z11 ?_ | refine z12 ?_ | refine z13 ?_ | refine z14 ?_ | refine z15 ?_ | refine z16 ?_ | refine z17 ?_
    | refine z18 ?_ | refine z19 ?_ | refine z1a ?_ | refine z1b ?_ | refine z1c ?_ | refine z1d ?_ | refine z1e ?_ | refine z1f (hk := ?_) | refine z1g ?_ | refine z1h ?_ | refine z1i ?_
    | refine z1j ?_ | refine z1k ?_ | refine z1l ?_ | refine z1m ?_ | refine z1n ?_ | refine z1o (fun hp => ?_) (fun hp => ?_) | refine z1p (fun hp => ?_) (fun hp => ?_)
    | refine z1q (fun hp => ?_) (fun hp => ?_) | refine z1r ?_ | refine z1s ?_ | refine z1t ?_ | refine z1u ?_ | refine z1v ?_ | refine z1w ?_ | refine z1x ?_ | refine z1y ?_ | refine z1z ?_
    | refine z20 ?_ | refine z21 ?_ | refine z22 ?_ | refine z23 ?_ | refine z24 ?_ | refine z25 ?_ | refine z26 ?_ | refine z27 ?_ | refine z28 (fun hp => ?_) (fun hp => ?_)
    | refine z29 (fun hp => ?_) (fun hp => ?_) | refine z2a ?_ | refine z2b ?_)
  refine wx_over (K := fun i m' => (∃ k, m'[0]? = some (⟨[k], 0, true⟩ : Blk)) ∧ (xs.take i).find? so = none)
    (E := fun e m' => e = .ret ∧ ∃ p, xs.find? so = some p ∧ m'[0]? = some (⟨[.int .i64 p], 0, true⟩ : Blk)) rfl hit rfl ?_ ?_ ?_ ?_ ?_ ?_
  · intro y hy
    obtain ⟨i, _, rfl⟩ := List.mem_map.1 hy
    rfl
  · exact ⟨⟨_, rfl⟩, rfl⟩
  · rintro i m1 k ⟨⟨c, h1⟩, h2⟩
    exact ⟨⟨c, get_app h1 k⟩, h2⟩
  · rintro i y m1 ls1 hy ⟨⟨c, h1⟩, h2⟩
    obtain ⟨n, hn, rfl⟩ : ∃ n, xs[i]? = some n ∧ y = [.int .i64 n] := by
      rw [List.getElem?_map] at hy
      cases hq' : xs[i]? with
      | none => rw [hq'] at hy; cases hy
      | some p => rw [hq'] at hy; simp at hy; exact ⟨p, rfl, hy.symm⟩
    have hil := (List.getElem?_eq_some_iff.1 hn).1
    have hie := (List.getElem?_eq_some_iff.1 hn).2
    have htk : xs.take (i + 1) = xs.take i ++ [n] := by rw [List.take_succ_eq_append_getElem hil, hie]
    repeat' (first
      | refine z00 ?_ | refine z01 ?_ | refine z02 ?_ | refine z03 ?_ | refine z04 ?_ | refine z05 ?_ | refine z06 ?_ | refine z07 ?_ | refine z08 ?_ | refine z09 ?_ | refine z0a ?_
      | refine z0b ?_ | refine z0c ?_ | refine z0d ?_ | refine z0e ?_ | refine z0f ?_ | refine z0g ?_ | refine z0h ?_ | refine z0i ?_ | refine z0j ?_ | refine z0k ?_ | refine z0l ?_
      | refine z0m ?_ | refine z0n ?_ | refine z0o ?_ | refine z0p ?_ | refine z0q ?_ | refine z0r ?_ | refine z0s ?_ | refine z0t ?_ | refine z0u ?_ | refine z0v ?_ | refine z0w ?_
      | refine z0x ?_ | refine z0y ?_ | refine z0z ?_ | refine z10 ?_ | refine z11 ?_ | refine z12 ?_ | refine z13 ?_ | refine z14 ?_ | refine z15 ?_ | refine z16 ?_ | refine z17 ?_
      | refine z18 ?_ | refine z19 ?_ | refine z1a ?_ | refine z1b ?_ | refine z1c ?_ | refine z1d ?_ | refine z1e ?_ | refine z1f (hk := ?_) | refine z1g ?_ | refine z1h ?_ | refine z1i ?_
      | refine z1j ?_ | refine z1k ?_ | refine z1l ?_ | refine z1m ?_ | refine z1n ?_ | refine z1o (fun hp => ?_) (fun hp => ?_) | refine z1p (fun hp => ?_) (fun hp => ?_)
      | refine z1q (fun hp => ?_) (fun hp => ?_) | refine z1r ?_ | refine z1s ?_ | refine z1t ?_ | refine z1u ?_ | refine z1v ?_ | refine z1w ?_ | refine z1x ?_ | refine z1y ?_ | refine z1z ?_
      | refine z20 ?_ | refine z21 ?_ | refine z22 ?_ | refine z23 ?_ | refine z24 ?_ | refine z25 ?_ | refine z26 ?_ | refine z27 ?_ | refine z28 (fun hp => ?_) (fun hp => ?_)
      | refine z29 (fun hp => ?_) (fun hp => ?_) | refine z2a ?_ | refine z2b ?_)
    refine ⟨rfl, rfl, fun ls2 => ?_⟩
    by_cases hs : so n = true
    · repeat' (first
        | refine wo_call rfl rfl rfl (hso n (List.mem_of_getElem? hn) _ _ _ ?_)
        | refine wx_if rfl (fun _ => ?_) (fun h => absurd hs (by simp [h]))
        | refine z00 ?_ | refine z01 ?_ | refine z02 ?_ | refine z03 ?_ | refine z04 ?_ | refine z05 ?_ | refine z06 ?_ | refine z07 ?_ | refine z08 ?_ | refine z09 ?_ | refine z0a ?_
        | refine z0b ?_ | refine z0c ?_ | refine z0d ?_ | refine z0e ?_ | refine z0f ?_ | refine z0g ?_ | refine z0h ?_ | refine z0i ?_ | refine z0j ?_ | refine z0k ?_ | refine z0l ?_
        | refine z0m ?_ | refine z0n ?_ | refine z0o ?_ | refine z0p ?_ | refine z0q ?_ | refine z0r ?_ | refine z0s ?_ | refine z0t ?_ | refine z0u ?_ | refine z0v ?_ | refine z0w ?_
        | refine z0x ?_ | refine z0y ?_ | refine z0z ?_ | refine z10 ?_ | refine z11 ?_ | refine z12 ?_ | refine z13 ?_ | refine z14 ?_ | refine z15 ?_ | refine z16 ?_ | refine z17 ?_
        | refine z18 ?_ | refine z19 ?_ | refine z1a ?_ | refine z1b ?_ | refine z1c ?_ | refine z1d ?_ | refine z1e ?_ | refine z1f (hk := ?_) | refine z1g ?_ | refine z1h ?_ | refine z1i ?_
        | refine z1j ?_ | refine z1k ?_ | refine z1l ?_ | refine z1m ?_ | refine z1n ?_ | refine z1o (fun hp => ?_) (fun hp => ?_) | refine z1p (fun hp => ?_) (fun hp => ?_)
        | refine z1q (fun hp => ?_) (fun hp => ?_) | refine z1r ?_ | refine z1s ?_ | refine z1t ?_ | refine z1u ?_ | refine z1v ?_ | refine z1w ?_ | refine z1x ?_ | refine z1y ?_
        | refine z1z ?_ | refine z20 ?_ | refine z21 ?_ | refine z22 ?_ | refine z23 ?_ | refine z24 ?_ | refine z25 ?_ | refine z26 ?_ | refine z27 ?_
        | refine z28 (fun hp => ?_) (fun hp => ?_) | refine z29 (fun hp => ?_) (fun hp => ?_) | refine z2a ?_ | refine z2b ?_)
      refine ⟨⟨[], by simp⟩, rfl, n, ?_, get_set_self h1 _⟩
      rw [show xs = xs.take (i + 1) ++ xs.drop (i + 1) from (List.take_append_drop _ _).symm, htk, List.append_assoc, List.find?_append, h2]
      simp [hs]
    · repeat' (first
        | refine wo_call rfl rfl rfl (hso n (List.mem_of_getElem? hn) _ _ _ ?_)
        | refine wx_if rfl (fun h => absurd h hs) (fun _ => ?_)
        | refine z00 ?_ | refine z01 ?_ | refine z02 ?_ | refine z03 ?_ | refine z04 ?_ | refine z05 ?_ | refine z06 ?_ | refine z07 ?_ | refine z08 ?_ | refine z09 ?_ | refine z0a ?_
        | refine z0b ?_ | refine z0c ?_ | refine z0d ?_ | refine z0e ?_ | refine z0f ?_ | refine z0g ?_ | refine z0h ?_ | refine z0i ?_ | refine z0j ?_ | refine z0k ?_ | refine z0l ?_
        | refine z0m ?_ | refine z0n ?_ | refine z0o ?_ | refine z0p ?_ | refine z0q ?_ | refine z0r ?_ | refine z0s ?_ | refine z0t ?_ | refine z0u ?_ | refine z0v ?_ | refine z0w ?_
        | refine z0x ?_ | refine z0y ?_ | refine z0z ?_ | refine z10 ?_ | refine z11 ?_ | refine z12 ?_ | refine z13 ?_ | refine z14 ?_ | refine z15 ?_ | refine z16 ?_ | refine z17 ?_
        | refine z18 ?_ | refine z19 ?_ | refine z1a ?_ | refine z1b ?_ | refine z1c ?_ | refine z1d ?_ | refine z1e ?_ | refine z1f (hk := ?_) | refine z1g ?_ | refine z1h ?_ | refine z1i ?_
        | refine z1j ?_ | refine z1k ?_ | refine z1l ?_ | refine z1m ?_ | refine z1n ?_ | refine z1o (fun hp => ?_) (fun hp => ?_) | refine z1p (fun hp => ?_) (fun hp => ?_)
        | refine z1q (fun hp => ?_) (fun hp => ?_) | refine z1r ?_ | refine z1s ?_ | refine z1t ?_ | refine z1u ?_ | refine z1v ?_ | refine z1w ?_ | refine z1x ?_ | refine z1y ?_
        | refine z1z ?_ | refine z20 ?_ | refine z21 ?_ | refine z22 ?_ | refine z23 ?_ | refine z24 ?_ | refine z25 ?_ | refine z26 ?_ | refine z27 ?_
        | refine z28 (fun hp => ?_) (fun hp => ?_) | refine z29 (fun hp => ?_) (fun hp => ?_) | refine z2a ?_ | refine z2b ?_)
      refine ⟨⟨[], by simp⟩, ⟨c, h1⟩, ?_⟩
      rw [htk, List.find?_append, h2]
      simp [hs]
  · rintro m1 junk ⟨⟨c, h1⟩, h2⟩
    rw [List.length_map, List.take_length] at h2
    repeat' (first
      | refine wx_retL [6] ?_
      | refine z00 ?_ | refine z01 ?_ | refine z02 ?_ | refine z03 ?_ | refine z04 ?_ | refine z05 ?_ | refine z06 ?_ | refine z07 ?_ | refine z08 ?_ | refine z09 ?_ | refine z0a ?_
      | refine z0b ?_ | refine z0c ?_ | refine z0d ?_ | refine z0e ?_ | refine z0f ?_ | refine z0g ?_ | refine z0h ?_ | refine z0i ?_ | refine z0j ?_ | refine z0k ?_ | refine z0l ?_
      | refine z0m ?_ | refine z0n ?_ | refine z0o ?_ | refine z0p ?_ | refine z0q ?_ | refine z0r ?_ | refine z0s ?_ | refine z0t ?_ | refine z0u ?_ | refine z0v ?_ | refine z0w ?_
      | refine z0x ?_ | refine z0y ?_ | refine z0z ?_ | refine z10 ?_ | refine z11 ?_ | refine z12 ?_ | refine z13 ?_ | refine z14 ?_ | refine z15 ?_ | refine z16 ?_ | refine z17 ?_
      | refine z18 ?_ | refine z19 ?_ | refine z1a ?_ | refine z1b ?_ | refine z1c ?_ | refine z1d ?_ | refine z1e ?_ | refine z1f (hk := ?_) | refine z1g ?_ | refine z1h ?_ | refine z1i ?_
      | refine z1j ?_ | refine z1k ?_ | refine z1l ?_ | refine z1m ?_ | refine z1n ?_ | refine z1o (fun hp => ?_) (fun hp => ?_) | refine z1p (fun hp => ?_) (fun hp => ?_)
      | refine z1q (fun hp => ?_) (fun hp => ?_) | refine z1r ?_ | refine z1s ?_ | refine z1t ?_ | refine z1u ?_ | refine z1v ?_ | refine z1w ?_ | refine z1x ?_ | refine z1y ?_ | refine z1z ?_
      | refine z20 ?_ | refine z21 ?_ | refine z22 ?_ | refine z23 ?_ | refine z24 ?_ | refine z25 ?_ | refine z26 ?_ | refine z27 ?_ | refine z28 (fun hp => ?_) (fun hp => ?_)
      | refine z29 (fun hp => ?_) (fun hp => ?_) | refine z2a ?_ | refine z2b ?_)
    refine end_r (res_cell rfl (get_set_self h1 _)) ?_
    rw [h2] at hQ
    exact fin_cln rfl hQ
  · rintro e m1 junk _ ⟨rfl, p, h1, h2⟩
    repeat' (first | refine then_r ?_ | refine block_r ?_)
    refine end_r (res_cell rfl h2) ?_
    rw [h1] at hQ
    exact fin_cln rfl hQ

theorem c_Cut1 {pens : List Int} {u : MV} {x : Line} {r : Room} {dots p : Int} (hu : Sl KI64 pens u) (hp : 0 ≤ p - x.fr ∧ (p - x.fr).toNat < pens.length) (hpx : I64 (p - x.fr)) (hb : ∀ a ∈ pens, -4611686018427387904 ≤ a ∧ a ≤ 4611686018427387904) (hd : 0 ≤ dots ∧ dots ≤ 1073741824)
    (hQ : Q (.bool (decide (pens.getD (p - x.fr).toNat 0 + dots ≤ r.width))) m ls) : Wc ip f_ellipsis_Cut_1 [.int .i64 p, .pimm [u] 0, .pimm x.mv 0, .pimm [.int .i64 dots] 0, .pimm r.mv 0] m ls Q := by
  refine wc_fn3d rfl fn_ellipsis_Cut_1 rfl (by simp [deepVs, deepV]) rfl ?_
  have hlt := hp.2
  have hbb := hb _ (List.getElem_mem hlt)
  unfold I64 at hpx
  rw [getD_lt hlt] at hQ
  repeat' (first
    | refine z00 ?_ | refine z01 ?_ | refine z02 ?_ | refine z03 ?_ | refine z04 ?_ | refine z05 ?_ | refine z06 ?_ | refine z07 ?_ | refine z08 ?_ | refine z09 ?_ | refine z0a ?_
    | refine z0b ?_ | refine z0c ?_ | refine z0d ?_ | refine z0e ?_ | refine z0f ?_ | refine z0g ?_ | refine z0h ?_ | refine z0i ?_ | refine z0j ?_ | refine z0k ?_ | refine z0l ?_
    | refine z0m ?_ | refine z0n ?_ | refine z0o ?_ | refine z0p ?_ | refine z0q ?_ | refine z0r ?_ | refine z0s ?_ | refine z0t ?_ | refine z0u ?_ | refine z0v ?_ | refine z0w ?_
    | refine z0x ?_ | refine z0y ?_ | refine z0z ?_ | refine z10 ?_ | refine z11 ?_ | refine z12 ?_ | refine z13 ?_ | refine z14 ?_ | refine z15 ?_ | refine z16 ?_ | refine z17 ?_
    | refine z18 ?_ | refine z19 ?_ | refine z1a ?_ | refine z1b ?_ | refine z1c ?_ | refine z1d ?_ | refine z1e ?_ | refine z1f (hk := ?_) | refine z1g ?_ | refine z1h ?_ | refine z1i ?_
    | refine z1j ?_ | refine z1k ?_ | refine z1l ?_ | refine z1m ?_ | refine z1n ?_ | refine z1o (fun hp => ?_) (fun hp => ?_) | refine z1p (fun hp => ?_) (fun hp => ?_)
    | refine z1q (fun hp => ?_) (fun hp => ?_) | refine z1r ?_ | refine z1s ?_ | refine z1t ?_ | refine z1u ?_ | refine z1v ?_ | refine z1w ?_ | refine z1x ?_ | refine z1y ?_ | refine z1z ?_
    | refine z20 ?_ | refine z21 ?_ | refine z22 ?_ | refine z23 ?_ | refine z24 ?_ | refine z25 ?_ | refine z26 ?_ | refine z27 ?_ | refine z28 (fun hp => ?_) (fun hp => ?_)
    | refine z29 (fun hp => ?_) (fun hp => ?_) | refine z2a ?_ | refine z2b ?_)
  exact fin_cln rfl hQ

end
end Go.Proofs.Ytnekgoanadbmmaa
