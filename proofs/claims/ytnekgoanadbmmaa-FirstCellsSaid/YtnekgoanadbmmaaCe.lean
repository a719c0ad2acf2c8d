/-
What fits: trim.Fits, trim.Goes; where lines are cut: ellipsis.
-/
import Derived.Test.YtnekgoanadbmmaaCd
namespace Go.Proofs.Ytnekgoanadbmmaa
open Go.Mini
set_option linter.unusedSimpArgs false
set_option linter.unusedVariables false
set_option maxHeartbeats 4000000

section
variable {m : Mem} {ls : List LRec} {Q : MV → Mem → List LRec → Prop}

def unhang (r : Int) : Int := if r = 2 then 1 else r
def fitL (l : List Cell) (x : Int) : Int × Int := endL l ((rolesF l).map unhang) x
def goesL (l : List Cell) (x : Int) : Int × Int := endL l (rolesF l) x

theorem c_Goes {l : List Cell} {v : MV} {x : Int} (hv : Sl KCell l v) (hl : l.length ≤ 1000000) (hc : ∀ c ∈ l, c.ok) (hx : I64 x) (hQ : Q (two (goesL l x)) m ls) : Wc ip f_trim_Goes [v, .int .i64 x] m ls Q := by
  refine wc_fn3d rfl fn_trim_Goes rfl (by simp [deepVs, hv.deep, deepV]) rfl ?_
  repeat' (first
    | refine wo_call rfl rfl rfl (c_Roles hv hl ?_)
    | refine z00 ?_ | refine z01 ?_ | refine z02 ?_ | refine z04 ?_ | refine z05 ?_ | refine z08 ?_ | refine zp ?_ | refine z0g ?_ | refine z0h ?_ | refine z0j ?_ | refine z0k ?_
    | refine z0l ?_ | refine z0n ?_ | refine z0o ?_ | refine z0p ?_ | refine z0q ?_ | refine z0r ?_ | refine z0s ?_ | refine z0v ?_ | refine z0z ?_ | refine z12 ?_ | refine z14 ?_
    | refine z15 ?_ | refine z1e ?_ | refine z1f (hk := ?_) | refine z1i ?_ | refine z1j ?_ | refine z1k ?_ | refine z1l ?_ | refine z1m ?_ | refine z1n ?_
    | refine z1o (fun hp => ?_) (fun hp => ?_) | refine z1p (fun hp => ?_) (fun hp => ?_) | refine z1q (fun hp => ?_) (fun hp => ?_) | refine z1r ?_ | refine z1s ?_ | refine z1t ?_
    | refine z1u ?_ | refine z1v ?_ | refine z1w ?_ | refine z1x ?_ | refine z1y ?_ | refine z1z ?_ | refine z20 ?_ | refine z21 ?_ | refine z22 ?_ | refine z23 ?_ | refine z24 ?_
    | refine z25 ?_ | refine z26 ?_ | refine z27 ?_ | refine z28 (fun hp => ?_) (fun hp => ?_) | refine z29 (fun hp => ?_) (fun hp => ?_) | refine z2a ?_ | refine z2b ?_)
  intro u hu
  repeat' (first
    | refine wo_call rfl rfl rfl (c_End (frzs_fuel (by simp [deepVs, hv.deep, hu.deep, deepV])) hv hu hl hc hx ?_)
    | refine z00 ?_ | refine z01 ?_ | refine z02 ?_ | refine z04 ?_ | refine z05 ?_ | refine z08 ?_ | refine zp ?_ | refine z0g ?_ | refine z0h ?_ | refine z0j ?_ | refine z0k ?_
    | refine z0l ?_ | refine z0n ?_ | refine z0o ?_ | refine z0p ?_ | refine z0q ?_ | refine z0r ?_ | refine z0s ?_ | refine z0v ?_ | refine z0z ?_ | refine z12 ?_ | refine z14 ?_
    | refine z15 ?_ | refine z1e ?_ | refine z1f (hk := ?_) | refine z1i ?_ | refine z1j ?_ | refine z1k ?_ | refine z1l ?_ | refine z1m ?_ | refine z1n ?_
    | refine z1o (fun hp => ?_) (fun hp => ?_) | refine z1p (fun hp => ?_) (fun hp => ?_) | refine z1q (fun hp => ?_) (fun hp => ?_) | refine z1r ?_ | refine z1s ?_ | refine z1t ?_
    | refine z1u ?_ | refine z1v ?_ | refine z1w ?_ | refine z1x ?_ | refine z1y ?_ | refine z1z ?_ | refine z20 ?_ | refine z21 ?_ | refine z22 ?_ | refine z23 ?_ | refine z24 ?_
    | refine z25 ?_ | refine z26 ?_ | refine z27 ?_ | refine z28 (fun hp => ?_) (fun hp => ?_) | refine z29 (fun hp => ?_) (fun hp => ?_) | refine z2a ?_ | refine z2b ?_)
  exact fin_cln rfl hQ

theorem c_Fits {l : List Cell} {v : MV} {x : Int} (hv : Sl KCell l v) (hl : l.length ≤ 1000000) (hc : ∀ c ∈ l, c.ok) (hx : I64 x) (hQ : Q (two (fitL l x)) m ls) : Wc ip f_trim_Fits [v, .int .i64 x] m ls Q := by
  refine wc_fn3d rfl fn_trim_Fits rfl (by simp [deepVs, hv.deep, deepV]) rfl ?_
  have hlen := rolesF_len (l := l)
  have key : ∀ (k i : Nat), i + k = l.length → ∀ (o : List Int), o = ((rolesF l).take i).map unhang ++ (rolesF l).drop i → ∀ {R : Ex → As → Mem → List LRec → Prop},
      (R (.exit 0) [(0, v), (1, .int .i64 x), (6, .sl 0 l.length 0 l.length 1 none)] [⟨flat KU8.E ((rolesF l).map unhang), l.length, true⟩] []) →
      Wx ip i_trim_Fits.nt (.loop (lv [0, 1, 6, 11, 12, 13] 30) trim_Fits_b0) [(0, v), (1, .int .i64 x), (6, .sl 0 l.length 0 l.length 1 none), (11, .sl 0 l.length 0 l.length 1 none), (12, .int .i64 l.length), (13, .int .i64 i)] [⟨flat KU8.E o, l.length, true⟩] [] R := by
    intro k
    induction k with
    | zero =>
      intro i hk o ho R hR
      have e : o = (rolesF l).map unhang := by rw [ho, List.take_of_length_le (by omega), List.drop_eq_nil_of_le (by omega)]; simp
      subst e
      refine wx_roundL rfl ?_
      repeat' (first
        | refine wx_exitL [0, 1, 6] ?_
        | refine z00 ?_ | refine z01 ?_ | refine z02 ?_ | refine z04 ?_ | refine z05 ?_ | refine z08 ?_ | refine zp ?_ | refine z0g ?_ | refine z0h ?_ | refine z0j ?_ | refine z0k ?_
        | refine z0l ?_ | refine z0n ?_ | refine z0o ?_ | refine z0p ?_ | refine z0q ?_ | refine z0r ?_ | refine z0s ?_ | refine z0v ?_ | refine z0z ?_ | refine z12 ?_ | refine z14 ?_
        | refine z15 ?_ | refine z1e ?_ | refine z1f (hk := ?_) | refine z1i ?_ | refine z1j ?_ | refine z1k ?_ | refine z1l ?_ | refine z1m ?_ | refine z1n ?_
        | refine z1o (fun hp => ?_) (fun hp => ?_) | refine z1p (fun hp => ?_) (fun hp => ?_) | refine z1q (fun hp => ?_) (fun hp => ?_) | refine z1r ?_ | refine z1s ?_ | refine z1t ?_
        | refine z1u ?_ | refine z1v ?_ | refine z1w ?_ | refine z1x ?_ | refine z1y ?_ | refine z1z ?_ | refine z20 ?_ | refine z21 ?_ | refine z22 ?_ | refine z23 ?_ | refine z24 ?_
        | refine z25 ?_ | refine z26 ?_ | refine z27 ?_ | refine z28 (fun hp => ?_) (fun hp => ?_) | refine z29 (fun hp => ?_) (fun hp => ?_) | refine z2a ?_ | refine z2b ?_)
      exact hR
    | succ k ih =>
      intro i hk o ho R hR
      have hi : i < (rolesF l).length := by omega
      have hol : o.length = l.length := by rw [ho]; simp; omega
      have hoi : o[i]'(by omega) = (rolesF l)[i] := by
        simp only [ho]
        rw [List.getElem_append_right (by simp; omega)]
        simp
        congr 1; omega
      have hnx : o.set i (unhang (rolesF l)[i]) = ((rolesF l).take (i + 1)).map unhang ++ (rolesF l).drop (i + 1) := by
        rw [ho, List.set_append_right _ _ (by simp; omega), List.take_succ_eq_append_getElem hi, List.drop_eq_getElem_cons hi]
        have : i - (((rolesF l).take i).map unhang).length = 0 := by simp; omega
        rw [this]
        simp only [List.set_cons_zero, List.map_append, List.map_cons, List.map_nil, List.append_assoc, List.cons_append, List.nil_append]
      have hld : loadFrom (flat KU8.E o) (0 + i * 1) none = some (.int .u8 (rolesF l)[i]) := by
        have := load_cell KU8 o (i := i) (o := 0) (by omega) (by decide)
        simp only [KU8, Nat.mul_one, Nat.add_zero, Nat.zero_add] at this ⊢
        rw [this, hoi]; rfl
      have hlt : i < l.length := by omega
      have hge : ¬ ((i : Int) < 0) := by omega
      refine wx_roundL rfl ?_
      by_cases h2 : (rolesF l)[i] = 2
      · have e : unhang (rolesF l)[i] = 1 := by unfold unhang; rw [if_pos h2]
        rw [e] at hnx
        repeat' (first
          | refine wo_iaddrs rfl rfl (by omega) hlt rfl rfl ?_
          | refine wo_load rfl rfl rfl hld rfl ?_
          | refine wx_ifDT rfl h2 ?_
          | refine wo_store rfl rfl rfl rfl rfl rfl (by have := flat_len KU8 o; have e : KU8.sz = 1 := rfl; show _ ≤ (flat KU8.E o).length; rw [this, e]; simp; omega) rfl ?_
          | refine z00 ?_ | refine z01 ?_ | refine z02 ?_ | refine z04 ?_ | refine z05 ?_ | refine z08 ?_ | refine zp ?_ | refine z0g ?_ | refine z0h ?_ | refine z0j ?_ | refine z0k ?_
          | refine z0l ?_ | refine z0n ?_ | refine z0o ?_ | refine z0p ?_ | refine z0q ?_ | refine z0r ?_ | refine z0s ?_ | refine z0v ?_ | refine z0z ?_ | refine z12 ?_ | refine z14 ?_
          | refine z15 ?_ | refine z1e ?_ | refine z1f (hk := ?_) | refine z1i ?_ | refine z1j ?_ | refine z1k ?_ | refine z1l ?_ | refine z1m ?_ | refine z1n ?_
          | refine z1o (fun hp => ?_) (fun hp => ?_) | refine z1p (fun hp => ?_) (fun hp => ?_) | refine z1q (fun hp => ?_) (fun hp => ?_) | refine z1r ?_ | refine z1s ?_ | refine z1t ?_
          | refine z1u ?_ | refine z1v ?_ | refine z1w ?_ | refine z1x ?_ | refine z1y ?_ | refine z1z ?_ | refine z20 ?_ | refine z21 ?_ | refine z22 ?_ | refine z23 ?_ | refine z24 ?_
          | refine z25 ?_ | refine z26 ?_ | refine z27 ?_ | refine z28 (fun hp => ?_) (fun hp => ?_) | refine z29 (fun hp => ?_) (fun hp => ?_) | refine z2a ?_ | refine z2b ?_)
        refine wx_loopL ?_
        have := ih (i + 1) (by omega) _ hnx hR
        have e2 : setAt (flat KU8.E o) (0 + i * 1) [.int .u8 1] = flat KU8.E (o.set i 1) := set_flat (by omega)
        rw [← e2] at this
        exact this
      · have e : unhang (rolesF l)[i] = o[i]'(by omega) := by unfold unhang; rw [if_neg h2, hoi]
        rw [e, List.set_getElem_self] at hnx
        repeat' (first
          | refine wo_iaddrs rfl rfl (by omega) hlt rfl rfl ?_
          | refine wo_load rfl rfl rfl hld rfl ?_
          | refine wx_ifDF rfl h2 ?_
          | refine z00 ?_ | refine z01 ?_ | refine z02 ?_ | refine z04 ?_ | refine z05 ?_ | refine z08 ?_ | refine zp ?_ | refine z0g ?_ | refine z0h ?_ | refine z0j ?_ | refine z0k ?_
          | refine z0l ?_ | refine z0n ?_ | refine z0o ?_ | refine z0p ?_ | refine z0q ?_ | refine z0r ?_ | refine z0s ?_ | refine z0v ?_ | refine z0z ?_ | refine z12 ?_ | refine z14 ?_
          | refine z15 ?_ | refine z1e ?_ | refine z1f (hk := ?_) | refine z1i ?_ | refine z1j ?_ | refine z1k ?_ | refine z1l ?_ | refine z1m ?_ | refine z1n ?_
          | refine z1o (fun hp => ?_) (fun hp => ?_) | refine z1p (fun hp => ?_) (fun hp => ?_) | refine z1q (fun hp => ?_) (fun hp => ?_) | refine z1r ?_ | refine z1s ?_ | refine z1t ?_
          | refine z1u ?_ | refine z1v ?_ | refine z1w ?_ | refine z1x ?_ | refine z1y ?_ | refine z1z ?_ | refine z20 ?_ | refine z21 ?_ | refine z22 ?_ | refine z23 ?_ | refine z24 ?_
          | refine z25 ?_ | refine z26 ?_ | refine z27 ?_ | refine z28 (fun hp => ?_) (fun hp => ?_) | refine z29 (fun hp => ?_) (fun hp => ?_) | refine z2a ?_ | refine z2b ?_)
        refine wx_loopL ?_
        exact ih (i + 1) (by omega) _ hnx hR
  repeat' (first
    | refine wo_calltW rfl rfl rfl fn_trim_Roles (by simp [deepVs, hv.deep]) rfl (w_Roles hv hl ?_)
    | refine z00 ?_ | refine z01 ?_ | refine z02 ?_ | refine z04 ?_ | refine z05 ?_ | refine z08 ?_ | refine zp ?_ | refine z0g ?_ | refine z0h ?_ | refine z0j ?_ | refine z0k ?_
    | refine z0l ?_ | refine z0n ?_ | refine z0o ?_ | refine z0p ?_ | refine z0q ?_ | refine z0r ?_ | refine z0s ?_ | refine z0v ?_ | refine z0z ?_ | refine z12 ?_ | refine z14 ?_
    | refine z15 ?_ | refine z1e ?_ | refine z1f (hk := ?_) | refine z1i ?_ | refine z1j ?_ | refine z1k ?_ | refine z1l ?_ | refine z1m ?_ | refine z1n ?_
    | refine z1o (fun hp => ?_) (fun hp => ?_) | refine z1p (fun hp => ?_) (fun hp => ?_) | refine z1q (fun hp => ?_) (fun hp => ?_) | refine z1r ?_ | refine z1s ?_ | refine z1t ?_
    | refine z1u ?_ | refine z1v ?_ | refine z1w ?_ | refine z1x ?_ | refine z1y ?_ | refine z1z ?_ | refine z20 ?_ | refine z21 ?_ | refine z22 ?_ | refine z23 ?_ | refine z24 ?_
    | refine z25 ?_ | refine z26 ?_ | refine z27 ?_ | refine z28 (fun hp => ?_) (fun hp => ?_) | refine z29 (fun hp => ?_) (fun hp => ?_) | refine z2a ?_ | refine z2b ?_)
  intro m' ls' h0
  refine ⟨thaw_own h0 (by rw [flat_len, hlen]; rfl), ?_⟩
  repeat' (first
    | refine z00 ?_ | refine z01 ?_ | refine z02 ?_ | refine z04 ?_ | refine z05 ?_ | refine z08 ?_ | refine zp ?_ | refine z0g ?_ | refine z0h ?_ | refine z0j ?_ | refine z0k ?_
    | refine z0l ?_ | refine z0n ?_ | refine z0o ?_ | refine z0p ?_ | refine z0q ?_ | refine z0r ?_ | refine z0s ?_ | refine z0v ?_ | refine z0z ?_ | refine z12 ?_ | refine z14 ?_
    | refine z15 ?_ | refine z1e ?_ | refine z1f (hk := ?_) | refine z1i ?_ | refine z1j ?_ | refine z1k ?_ | refine z1l ?_ | refine z1m ?_ | refine z1n ?_
    | refine z1o (fun hp => ?_) (fun hp => ?_) | refine z1p (fun hp => ?_) (fun hp => ?_) | refine z1q (fun hp => ?_) (fun hp => ?_) | refine z1r ?_ | refine z1s ?_ | refine z1t ?_
    | refine z1u ?_ | refine z1v ?_ | refine z1w ?_ | refine z1x ?_ | refine z1y ?_ | refine z1z ?_ | refine z20 ?_ | refine z21 ?_ | refine z22 ?_ | refine z23 ?_ | refine z24 ?_
    | refine z25 ?_ | refine z26 ?_ | refine z27 ?_ | refine z28 (fun hp => ?_) (fun hp => ?_) | refine z29 (fun hp => ?_) (fun hp => ?_) | refine z2a ?_ | refine z2b ?_)
  refine wx_loopL ?_
  refine key l.length 0 (by omega) (rolesF l) (by simp) ?_
  have hz : frzs [⟨flat KU8.E ((rolesF l).map unhang), l.length, true⟩] frzFuel [v, .sl 0 l.length 0 l.length 1 none, .int .i64 x] = some [v, .lit (flat KU8.E ((rolesF l).map unhang)) l.length none, .int .i64 x] := by
    obtain ⟨n, hn⟩ := fuel 9 (by omega)
    rw [hn]
    have ht : takeAt (flat KU8.E ((rolesF l).map unhang)) 0 l.length = some (flat KU8.E ((rolesF l).map unhang)) := take_all (by rw [flat_len]; simp [KU8, hlen])
    simp [frzs, frz, deepVs, deepV, hv.deep, blk?, ht]
  have hs : Sl KU8 ((rolesF l).map unhang) (.lit (flat KU8.E ((rolesF l).map unhang)) l.length none) := by
    have := Sl.lit (K := KU8) (xs := (rolesF l).map unhang) (kc := none)
    rw [List.length_map, hlen] at this
    exact this
  repeat' (first
    | refine wo_call rfl rfl rfl (c_End hz hv hs hl hc hx ?_)
    | refine z00 ?_ | refine z01 ?_ | refine z02 ?_ | refine z04 ?_ | refine z05 ?_ | refine z08 ?_ | refine zp ?_ | refine z0g ?_ | refine z0h ?_ | refine z0j ?_ | refine z0k ?_
    | refine z0l ?_ | refine z0n ?_ | refine z0o ?_ | refine z0p ?_ | refine z0q ?_ | refine z0r ?_ | refine z0s ?_ | refine z0v ?_ | refine z0z ?_ | refine z12 ?_ | refine z14 ?_
    | refine z15 ?_ | refine z1e ?_ | refine z1f (hk := ?_) | refine z1i ?_ | refine z1j ?_ | refine z1k ?_ | refine z1l ?_ | refine z1m ?_ | refine z1n ?_
    | refine z1o (fun hp => ?_) (fun hp => ?_) | refine z1p (fun hp => ?_) (fun hp => ?_) | refine z1q (fun hp => ?_) (fun hp => ?_) | refine z1r ?_ | refine z1s ?_ | refine z1t ?_
    | refine z1u ?_ | refine z1v ?_ | refine z1w ?_ | refine z1x ?_ | refine z1y ?_ | refine z1z ?_ | refine z20 ?_ | refine z21 ?_ | refine z22 ?_ | refine z23 ?_ | refine z24 ?_
    | refine z25 ?_ | refine z26 ?_ | refine z27 ?_ | refine z28 (fun hp => ?_) (fun hp => ?_) | refine z29 (fun hp => ?_) (fun hp => ?_) | refine z2a ?_ | refine z2b ?_)
  exact fin_cln rfl hQ

end
end Go.Proofs.Ytnekgoanadbmmaa
