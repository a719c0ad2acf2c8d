/-
Pens: tabs.
-/
import Derived.Test.YtnekgoanadbmmaaCa
namespace Go.Proofs.Ytnekgoanadbmmaa
open Go.Mini
set_option linter.unusedSimpArgs false
set_option linter.unusedVariables false
set_option maxHeartbeats 4000000

section
variable {m : Mem} {ls : List LRec} {Q : MV → Mem → List LRec → Prop}

/-- A cell's numbers are an int64's. -/
def Cell.ok (c : Cell) : Prop := I64 c.adv

theorem fits_I64 (n : Int) : I64 (fits n).1 := by
  unfold fits I64; split <;> simp <;> omega
theorem step_I64 {c : Cell} {x : Int} (h : I64 x) : I64 (stepF c x).1 := by
  unfold stepF stopF
  repeat' split
  all_goals first | exact fits_I64 _ | exact h | (unfold I64; simp)

/-- The pen behind a cell with a role. -/
def penF (c : Cell) (role x : Int) : Int × Int := if role ≠ 1 then stepF c x else (x, 0)
theorem pen_I64 {c : Cell} {r x : Int} (h : I64 x) : I64 (penF c r x).1 := by
  unfold penF; split
  · exact step_I64 h
  · exact h

/-- What 'pens' goes over, from the i-th cell on. -/
def pensF (roles : List Int) : Nat → List Cell → Int → List (Int × Int)
  | _, [], _ => []
  | i, c :: cs, x => penF c (roles.getD i 0) x :: (if (penF c (roles.getD i 0) x).2 ≠ 0 then [] else pensF roles (i + 1) cs (penF c (roles.getD i 0) x).1)

def pairMv (p : Int × Int) : List MV := [.int .i64 p.1, .int .i64 p.2]

theorem c_pens {l : List Cell} {roles : List Int} {v w : MV} {x : Int} (hv : Sl KCell l v) (hw : Sl KU8 roles w) (hQ : Q (.fn f_tabs_pens_1 [] [.pimm [.int .i64 x] 0, .pimm [v] 0, .pimm [w] 0]) m ls) : Wc ip f_tabs_pens [v, w, .int .i64 x] m ls Q := by
  have h1 := hv.cells
  have h2 := hw.cells
  have h3 : deepVs [v] = true := by simp [deepVs, hv.deep]
  have h4 : deepVs [w] = true := by simp [deepVs, hw.deep]
  refine wc_fn1 rfl fn_tabs_pens rfl (by simp [deepVs, hv.deep, hw.deep, deepV]) rfl ?_
  repeat' (first
    | refine z00 ?_ | refine z01 ?_ | refine z02 ?_ | refine z04 ?_ | refine z05 ?_ | refine z08 ?_ | refine zp ?_ | refine z0g ?_ | refine z0h ?_ | refine z0j ?_ | refine z0k ?_
    | refine z0l ?_ | refine z0n ?_ | refine z0o ?_ | refine z0p ?_ | refine z0q ?_ | refine z0r ?_ | refine z0s ?_ | refine z0v ?_ | refine z0z ?_ | refine z12 ?_ | refine z14 ?_
    | refine z15 ?_ | refine z1e ?_ | refine z1f (hk := ?_) | refine z1i ?_ | refine z1j ?_ | refine z1k ?_ | refine z1l ?_ | refine z1m ?_ | refine z1n ?_
    | refine z1o (fun hp => ?_) (fun hp => ?_) | refine z1p (fun hp => ?_) (fun hp => ?_) | refine z1q (fun hp => ?_) (fun hp => ?_) | refine z1r ?_ | refine z1s ?_ | refine z1t ?_
    | refine z1u ?_ | refine z1v ?_ | refine z1w ?_ | refine z1x ?_ | refine z1y ?_ | refine z1z ?_ | refine z20 ?_ | refine z21 ?_ | refine z22 ?_ | refine z23 ?_ | refine z24 ?_
    | refine z25 ?_ | refine z26 ?_ | refine z27 ?_ | refine z28 (fun hp => ?_) (fun hp => ?_) | refine z29 (fun hp => ?_) (fun hp => ?_) | refine z2a ?_ | refine z2b ?_)
  refine ⟨?_, hQ⟩
  obtain ⟨n, hn⟩ := fuel 1 (by omega)
  rw [hn]
  exact frz_deep rfl

theorem iter_pens {l : List Cell} {roles : List Int} {v w : MV} {x : Int} (hv : Sl KCell l v) (hw : Sl KU8 roles w) (hl : l.length ≤ 1000000) (hc : ∀ c ∈ l, c.ok) (hx : I64 x) :
    IterOk ip f_tabs_pens_1 [] [.pimm [.int .i64 x] 0, .pimm [v] 0, .pimm [w] 0] ((pensF roles 0 l x).map pairMv) := by
  intro J S j m ls h0 hJa hY
  refine wc_fn0 rfl fn_tabs_pens_1 rfl rfl ?_
  have key : ∀ (k i : Nat) (at' : Int) (m : Mem) (ls : List LRec) (done : List (Int × Int)), i + k = l.length → done.length = i → pensF roles 0 l x = done ++ pensF roles i (l.drop i) at' → I64 at' → J i m ls →
      Wx ip i_tabs_pens_1.nt (.loop (lv [0, 3, 5, 6, 10, 11, 12] 37) tabs_pens_1_b0) [(0, .yld j), (3, .pimm [w] 0), (5, .int .i64 at'), (6, .int .i64 0), (10, v), (11, .int .i64 l.length), (12, .int .i64 i)] m ls
        (blockK 0 (endK i_tabs_pens_1.res fun _ m' ls' => J ((pensF roles 0 l x).map pairMv).length m' ls' ∨ S m' ls')) := by
    intro k
    induction k with
    | zero =>
      intro i at' m ls done hk hd hs hI hJ
      refine wx_roundL rfl ?_
      repeat' (first
        | refine z00 ?_ | refine z01 ?_ | refine z02 ?_ | refine z04 ?_ | refine z05 ?_ | refine z08 ?_ | refine zp ?_ | refine z0g ?_ | refine z0h ?_ | refine z0j ?_ | refine z0k ?_
        | refine z0l ?_ | refine z0n ?_ | refine z0o ?_ | refine z0p ?_ | refine z0q ?_ | refine z0r ?_ | refine z0s ?_ | refine z0v ?_ | refine z0z ?_ | refine z12 ?_ | refine z14 ?_
        | refine z15 ?_ | refine z1e ?_ | refine z1f (hk := ?_) | refine z1i ?_ | refine z1j ?_ | refine z1k ?_ | refine z1l ?_ | refine z1m ?_ | refine z1n ?_
        | refine z1o (fun hp => ?_) (fun hp => ?_) | refine z1p (fun hp => ?_) (fun hp => ?_) | refine z1q (fun hp => ?_) (fun hp => ?_) | refine z1r ?_ | refine z1s ?_ | refine z1t ?_
        | refine z1u ?_ | refine z1v ?_ | refine z1w ?_ | refine z1x ?_ | refine z1y ?_ | refine z1z ?_ | refine z20 ?_ | refine z21 ?_ | refine z22 ?_ | refine z23 ?_ | refine z24 ?_
        | refine z25 ?_ | refine z26 ?_ | refine z27 ?_ | refine z28 (fun hp => ?_) (fun hp => ?_) | refine z29 (fun hp => ?_) (fun hp => ?_) | refine z2a ?_ | refine z2b ?_)
      left
      rw [List.drop_eq_nil_of_le (by omega)] at hs
      simp only [pensF, List.append_nil] at hs
      rw [List.length_map, hs, hd]
      exact hJ
    | succ k ih =>
      intro i at' m ls done hk hd hs hI hJ
      have hlt : i < l.length := by omega
      have hci := hc _ (List.getElem_mem hlt)
      rw [List.drop_eq_getElem_cons hlt] at hs
      simp only [pensF] at hs
      have hpI := pen_I64 (c := l[i]) (r := roles.getD i 0) hI
      have hget : ((pensF roles 0 l x).map pairMv)[i]? = some (pairMv (penF l[i] (roles.getD i 0) at')) := by
        rw [hs, List.getElem?_map, List.getElem?_append_right (by omega), hd]; simp
      refine wx_roundL rfl ?_
      have hm1 : ∀ k : Blk, (m ++ [k])[m.length]? = some k := fun k => by simp
      have fin1 : (penF l[i] (roles.getD i 0) at').2 ≠ 0 → ((pensF roles 0 l x).map pairMv).length = i + 1 := by
        intro h
        rw [hs, if_pos h]; simp [hd]
      have next : ∀ m ls, (penF l[i] (roles.getD i 0) at').2 = 0 → J (i + 1) m ls → Wx ip i_tabs_pens_1.nt (.loop (lv [0, 3, 5, 6, 10, 11, 12] 37) tabs_pens_1_b0) [(0, .yld j), (3, .pimm [w] 0), (5, .int .i64 (penF l[i] (roles.getD i 0) at').1), (6, .int .i64 0), (10, v), (11, .int .i64 l.length), (12, .int .i64 ((i : Int) + 1))] m ls
          (blockK 0 (endK i_tabs_pens_1.res fun _ m' ls' => J ((pensF roles 0 l x).map pairMv).length m' ls' ∨ S m' ls')) := fun m ls h hJ =>
        ih (i + 1) _ m ls (done ++ [penF l[i] (roles.getD i 0) at']) (by omega) (by simp [hd]) (by rw [hs, if_neg (fun c => c h)]; simp) hpI hJ
      by_cases hr : roles.getD i 0 ≠ 1
      · have e : penF l[i] (roles.getD i 0) at' = stepF l[i] at' := by unfold penF; rw [if_pos hr]
        rw [e] at hget fin1 next
        repeat' (first
          | refine wo_call rfl rfl rfl (c_role hw (by omega) ?_)
          | refine wo_call rfl rfl rfl (c_step hI hci ?_)
          | refine wx_ifDT rfl hr ?_
          | refine z00 ?_ | refine z01 ?_ | refine z02 ?_ | refine z04 ?_ | refine z05 ?_ | refine z08 ?_ | refine zp ?_ | refine z0g ?_ | refine z0h ?_ | refine z0j ?_ | refine z0k ?_
          | refine z0l ?_ | refine z0n ?_ | refine z0o ?_ | refine z0p ?_ | refine z0q ?_ | refine z0r ?_ | refine z0s ?_ | refine z0v ?_ | refine z0z ?_ | refine z12 ?_ | refine z14 ?_
          | refine z15 ?_ | refine z1e ?_ | refine z1f (hk := ?_) | refine z1i ?_ | refine z1j ?_ | refine z1k ?_ | refine z1l ?_ | refine z1m ?_ | refine z1n ?_
          | refine z1o (fun hp => ?_) (fun hp => ?_) | refine z1p (fun hp => ?_) (fun hp => ?_) | refine z1q (fun hp => ?_) (fun hp => ?_) | refine z1r ?_ | refine z1s ?_ | refine z1t ?_
          | refine z1u ?_ | refine z1v ?_ | refine z1w ?_ | refine z1x ?_ | refine z1y ?_ | refine z1z ?_ | refine z20 ?_ | refine z21 ?_ | refine z22 ?_ | refine z23 ?_ | refine z24 ?_
          | refine z25 ?_ | refine z26 ?_ | refine z27 ?_ | refine z28 (fun hp => ?_) (fun hp => ?_) | refine z29 (fun hp => ?_) (fun hp => ?_) | refine z2a ?_ | refine z2b ?_)
        refine wo_yld rfl rfl rfl ((hY i _ _ _ hget (hJa _ _ _ _ hJ)).mono ?_)
        rintro u m' ls' (⟨rfl, hJ'⟩ | ⟨rfl, hS⟩)
        · by_cases h0 : (stepF l[i] at').2 = 0
          · have h0' : ¬ (stepF l[i] at').2 ≠ 0 := by simp [h0]
            repeat' (first
              | refine wx_ifDF rfl h0' ?_
              | refine z00 ?_ | refine z01 ?_ | refine z02 ?_ | refine z04 ?_ | refine z05 ?_ | refine z08 ?_ | refine zp ?_ | refine z0g ?_ | refine z0h ?_ | refine z0j ?_ | refine z0k ?_
              | refine z0l ?_ | refine z0n ?_ | refine z0o ?_ | refine z0p ?_ | refine z0q ?_ | refine z0r ?_ | refine z0s ?_ | refine z0v ?_ | refine z0z ?_ | refine z12 ?_ | refine z14 ?_
              | refine z15 ?_ | refine z1e ?_ | refine z1f (hk := ?_) | refine z1i ?_ | refine z1j ?_ | refine z1k ?_ | refine z1l ?_ | refine z1m ?_ | refine z1n ?_
              | refine z1o (fun hp => ?_) (fun hp => ?_) | refine z1p (fun hp => ?_) (fun hp => ?_) | refine z1q (fun hp => ?_) (fun hp => ?_) | refine z1r ?_ | refine z1s ?_ | refine z1t ?_
              | refine z1u ?_ | refine z1v ?_ | refine z1w ?_ | refine z1x ?_ | refine z1y ?_ | refine z1z ?_ | refine z20 ?_ | refine z21 ?_ | refine z22 ?_ | refine z23 ?_ | refine z24 ?_
              | refine z25 ?_ | refine z26 ?_ | refine z27 ?_ | refine z28 (fun hp => ?_) (fun hp => ?_) | refine z29 (fun hp => ?_) (fun hp => ?_) | refine z2a ?_ | refine z2b ?_)
            refine wx_loopL ?_
            have := next _ _ h0 hJ'
            rw [← h0] at this
            exact this
          · repeat' (first
              | refine wx_ifDT rfl h0 ?_
              | refine z00 ?_ | refine z01 ?_ | refine z02 ?_ | refine z04 ?_ | refine z05 ?_ | refine z08 ?_ | refine zp ?_ | refine z0g ?_ | refine z0h ?_ | refine z0j ?_ | refine z0k ?_
              | refine z0l ?_ | refine z0n ?_ | refine z0o ?_ | refine z0p ?_ | refine z0q ?_ | refine z0r ?_ | refine z0s ?_ | refine z0v ?_ | refine z0z ?_ | refine z12 ?_ | refine z14 ?_
              | refine z15 ?_ | refine z1e ?_ | refine z1f (hk := ?_) | refine z1i ?_ | refine z1j ?_ | refine z1k ?_ | refine z1l ?_ | refine z1m ?_ | refine z1n ?_
              | refine z1o (fun hp => ?_) (fun hp => ?_) | refine z1p (fun hp => ?_) (fun hp => ?_) | refine z1q (fun hp => ?_) (fun hp => ?_) | refine z1r ?_ | refine z1s ?_ | refine z1t ?_
              | refine z1u ?_ | refine z1v ?_ | refine z1w ?_ | refine z1x ?_ | refine z1y ?_ | refine z1z ?_ | refine z20 ?_ | refine z21 ?_ | refine z22 ?_ | refine z23 ?_ | refine z24 ?_
              | refine z25 ?_ | refine z26 ?_ | refine z27 ?_ | refine z28 (fun hp => ?_) (fun hp => ?_) | refine z29 (fun hp => ?_) (fun hp => ?_) | refine z2a ?_ | refine z2b ?_)
            left
            rw [fin1 h0]
            exact hJ'
        · repeat' (first
            | refine z00 ?_ | refine z01 ?_ | refine z02 ?_ | refine z04 ?_ | refine z05 ?_ | refine z08 ?_ | refine zp ?_ | refine z0g ?_ | refine z0h ?_ | refine z0j ?_ | refine z0k ?_
            | refine z0l ?_ | refine z0n ?_ | refine z0o ?_ | refine z0p ?_ | refine z0q ?_ | refine z0r ?_ | refine z0s ?_ | refine z0v ?_ | refine z0z ?_ | refine z12 ?_ | refine z14 ?_
            | refine z15 ?_ | refine z1e ?_ | refine z1f (hk := ?_) | refine z1i ?_ | refine z1j ?_ | refine z1k ?_ | refine z1l ?_ | refine z1m ?_ | refine z1n ?_
            | refine z1o (fun hp => ?_) (fun hp => ?_) | refine z1p (fun hp => ?_) (fun hp => ?_) | refine z1q (fun hp => ?_) (fun hp => ?_) | refine z1r ?_ | refine z1s ?_ | refine z1t ?_
            | refine z1u ?_ | refine z1v ?_ | refine z1w ?_ | refine z1x ?_ | refine z1y ?_ | refine z1z ?_ | refine z20 ?_ | refine z21 ?_ | refine z22 ?_ | refine z23 ?_ | refine z24 ?_
            | refine z25 ?_ | refine z26 ?_ | refine z27 ?_ | refine z28 (fun hp => ?_) (fun hp => ?_) | refine z29 (fun hp => ?_) (fun hp => ?_) | refine z2a ?_ | refine z2b ?_)
          exact .inr hS
      · have e : penF l[i] (roles.getD i 0) at' = (at', 0) := by unfold penF; rw [if_neg hr]
        rw [e] at hget fin1 next
        repeat' (first
          | refine wo_call rfl rfl rfl (c_role hw (by omega) ?_)
          | refine wo_call rfl rfl rfl (c_step hI hci ?_)
          | refine wx_ifDF rfl hr ?_
          | refine z00 ?_ | refine z01 ?_ | refine z02 ?_ | refine z04 ?_ | refine z05 ?_ | refine z08 ?_ | refine zp ?_ | refine z0g ?_ | refine z0h ?_ | refine z0j ?_ | refine z0k ?_
          | refine z0l ?_ | refine z0n ?_ | refine z0o ?_ | refine z0p ?_ | refine z0q ?_ | refine z0r ?_ | refine z0s ?_ | refine z0v ?_ | refine z0z ?_ | refine z12 ?_ | refine z14 ?_
          | refine z15 ?_ | refine z1e ?_ | refine z1f (hk := ?_) | refine z1i ?_ | refine z1j ?_ | refine z1k ?_ | refine z1l ?_ | refine z1m ?_ | refine z1n ?_
          | refine z1o (fun hp => ?_) (fun hp => ?_) | refine z1p (fun hp => ?_) (fun hp => ?_) | refine z1q (fun hp => ?_) (fun hp => ?_) | refine z1r ?_ | refine z1s ?_ | refine z1t ?_
          | refine z1u ?_ | refine z1v ?_ | refine z1w ?_ | refine z1x ?_ | refine z1y ?_ | refine z1z ?_ | refine z20 ?_ | refine z21 ?_ | refine z22 ?_ | refine z23 ?_ | refine z24 ?_
          | refine z25 ?_ | refine z26 ?_ | refine z27 ?_ | refine z28 (fun hp => ?_) (fun hp => ?_) | refine z29 (fun hp => ?_) (fun hp => ?_) | refine z2a ?_ | refine z2b ?_)
        refine wo_yld rfl rfl rfl ((hY i _ _ _ hget (hJa _ _ _ _ hJ)).mono ?_)
        rintro u m' ls' (⟨rfl, hJ'⟩ | ⟨rfl, hS⟩)
        · repeat' (first
            | refine z00 ?_ | refine z01 ?_ | refine z02 ?_ | refine z04 ?_ | refine z05 ?_ | refine z08 ?_ | refine zp ?_ | refine z0g ?_ | refine z0h ?_ | refine z0j ?_ | refine z0k ?_
            | refine z0l ?_ | refine z0n ?_ | refine z0o ?_ | refine z0p ?_ | refine z0q ?_ | refine z0r ?_ | refine z0s ?_ | refine z0v ?_ | refine z0z ?_ | refine z12 ?_ | refine z14 ?_
            | refine z15 ?_ | refine z1e ?_ | refine z1f (hk := ?_) | refine z1i ?_ | refine z1j ?_ | refine z1k ?_ | refine z1l ?_ | refine z1m ?_ | refine z1n ?_
            | refine z1o (fun hp => ?_) (fun hp => ?_) | refine z1p (fun hp => ?_) (fun hp => ?_) | refine z1q (fun hp => ?_) (fun hp => ?_) | refine z1r ?_ | refine z1s ?_ | refine z1t ?_
            | refine z1u ?_ | refine z1v ?_ | refine z1w ?_ | refine z1x ?_ | refine z1y ?_ | refine z1z ?_ | refine z20 ?_ | refine z21 ?_ | refine z22 ?_ | refine z23 ?_ | refine z24 ?_
            | refine z25 ?_ | refine z26 ?_ | refine z27 ?_ | refine z28 (fun hp => ?_) (fun hp => ?_) | refine z29 (fun hp => ?_) (fun hp => ?_) | refine z2a ?_ | refine z2b ?_)
          refine wx_loopL ?_
          exact next _ _ rfl hJ'
        · repeat' (first
            | refine z00 ?_ | refine z01 ?_ | refine z02 ?_ | refine z04 ?_ | refine z05 ?_ | refine z08 ?_ | refine zp ?_ | refine z0g ?_ | refine z0h ?_ | refine z0j ?_ | refine z0k ?_
            | refine z0l ?_ | refine z0n ?_ | refine z0o ?_ | refine z0p ?_ | refine z0q ?_ | refine z0r ?_ | refine z0s ?_ | refine z0v ?_ | refine z0z ?_ | refine z12 ?_ | refine z14 ?_
            | refine z15 ?_ | refine z1e ?_ | refine z1f (hk := ?_) | refine z1i ?_ | refine z1j ?_ | refine z1k ?_ | refine z1l ?_ | refine z1m ?_ | refine z1n ?_
            | refine z1o (fun hp => ?_) (fun hp => ?_) | refine z1p (fun hp => ?_) (fun hp => ?_) | refine z1q (fun hp => ?_) (fun hp => ?_) | refine z1r ?_ | refine z1s ?_ | refine z1t ?_
            | refine z1u ?_ | refine z1v ?_ | refine z1w ?_ | refine z1x ?_ | refine z1y ?_ | refine z1z ?_ | refine z20 ?_ | refine z21 ?_ | refine z22 ?_ | refine z23 ?_ | refine z24 ?_
            | refine z25 ?_ | refine z26 ?_ | refine z27 ?_ | refine z28 (fun hp => ?_) (fun hp => ?_) | refine z29 (fun hp => ?_) (fun hp => ?_) | refine z2a ?_ | refine z2b ?_)
          exact .inr hS
  repeat' (first
    | refine z00 ?_ | refine z01 ?_ | refine z02 ?_ | refine z04 ?_ | refine z05 ?_ | refine z08 ?_ | refine zp ?_ | refine z0g ?_ | refine z0h ?_ | refine z0j ?_ | refine z0k ?_
    | refine z0l ?_ | refine z0n ?_ | refine z0o ?_ | refine z0p ?_ | refine z0q ?_ | refine z0r ?_ | refine z0s ?_ | refine z0v ?_ | refine z0z ?_ | refine z12 ?_ | refine z14 ?_
    | refine z15 ?_ | refine z1e ?_ | refine z1f (hk := ?_) | refine z1i ?_ | refine z1j ?_ | refine z1k ?_ | refine z1l ?_ | refine z1m ?_ | refine z1n ?_
    | refine z1o (fun hp => ?_) (fun hp => ?_) | refine z1p (fun hp => ?_) (fun hp => ?_) | refine z1q (fun hp => ?_) (fun hp => ?_) | refine z1r ?_ | refine z1s ?_ | refine z1t ?_
    | refine z1u ?_ | refine z1v ?_ | refine z1w ?_ | refine z1x ?_ | refine z1y ?_ | refine z1z ?_ | refine z20 ?_ | refine z21 ?_ | refine z22 ?_ | refine z23 ?_ | refine z24 ?_
    | refine z25 ?_ | refine z26 ?_ | refine z27 ?_ | refine z28 (fun hp => ?_) (fun hp => ?_) | refine z29 (fun hp => ?_) (fun hp => ?_) | refine z2a ?_ | refine z2b ?_)
  refine wx_loopL ?_
  exact key l.length 0 x m ls [] (by omega) rfl rfl hx h0

end
end Go.Proofs.Ytnekgoanadbmmaa
