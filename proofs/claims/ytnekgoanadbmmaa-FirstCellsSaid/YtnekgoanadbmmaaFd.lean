/-
The lines of two rows: first.Lines.
-/
import Derived.Test.YtnekgoanadbmmaaFc
namespace Go.Proofs.Ytnekgoanadbmmaa
open Go.Mini
set_option linter.unusedSimpArgs false
set_option linter.unusedVariables false
set_option maxHeartbeats 4000000

section
variable {m : Mem} {ls : List LRec} {Q : MV → Mem → List LRec → Prop}

theorem firstG_len {rest : List Cell} {b : Room} : ∀ {k i : Nat} {row : List Cell} {r : Room}, (firstG rest b row r k i).length ≤ k
  | 0, _, _, _ => by simp [firstG]
  | k + 1, i, row, r => by
    simp only [firstG, List.length_cons]
    split
    · simp
    · split
      · have := firstG_len (rest := rest) (b := b) (k := k) (i := (oneF row i r).1.to.toNat) (row := rest) (r := b); omega
      · simp

def bad (p : Line × Int) : Bool := decide (p.2 ≠ 0)
/-- The lines of two rows. -/
def firstL (first rest : List Cell) (a b : Room) : List Line × Int :=
  if alikeF first rest = false ∨ rest.any badTab = true ∨ b.width < 0 then ([], 2)
  else match (firstG rest b first a (first.length + 2) 0).find? bad with
    | some p => ([], p.2)
    | none => ((firstG rest b first a (first.length + 2) 0).map (·.1), 0)

theorem c_firstLines {first rest : List Cell} {v w : MV} {a b : Room} (hv : Sl KCell first v) (hw : Sl KCell rest w) (hl1 : first.length ≤ 1000000) (hl2 : rest.length ≤ 1000000) (hc1 : ∀ c ∈ first, c.ok) (hc2 : ∀ c ∈ rest, c.ok) (ha : I64 a.start) (hb : I64 b.start)
    (hQ : ∀ u, Sl KLine (firstL first rest a b).1 u → Q (.tup [u, .int .i64 (firstL first rest a b).2]) m ls) : Wc ip f_first_Lines [v, w, .agg a.mv, .agg b.mv] m ls Q := by
  refine wc_fn3d rfl fn_first_Lines rfl (by simp [deepVs, hv.deep, hw.deep, deepV, Room.mv]) rfl ?_
  by_cases hbad : alikeF first rest = false ∨ rest.any badTab = true ∨ b.width < 0
  · have e : firstL first rest a b = ([], 2) := by unfold firstL; rw [if_pos hbad]
    rw [e] at hQ
    have fin : ∀ m' : Mem, m'[0]? = some nilBlk → m'[1]? = some (intBlk 2) → Fin3 (Q · m ls) m' (one [.nils, .int .i64 2]) := fun m' _ _ => fin_cln rfl (hQ _ .nil)
    cases hbt : rest.any badTab with
    | true =>
      cases hal : alikeF first rest with
      | true =>
        repeat' (first
          | refine wo_call rfl rfl rfl (c_Ends (i := 0) hw hl2 (by omega) (fun _ => ?_) (fun h => absurd h (by rw [hbt]; simp)))
          | refine wo_call rfl rfl rfl (c_Alike hal hv hw hl1 ?_)
          | refine wo_store rfl rfl rfl rfl rfl rfl (by decide) rfl ?_
          | refine z00 ?_ | refine z01 ?_ | refine z02 ?_ | refine z04 ?_ | refine z05 ?_ | refine z08 ?_ | refine zp ?_ | refine z0g ?_ | refine z0h ?_ | refine z0j ?_ | refine z0k ?_
          | refine z0l ?_ | refine z0n ?_ | refine z0o ?_ | refine z0p ?_ | refine z0q ?_ | refine z0r ?_ | refine z0s ?_ | refine z0v ?_ | refine z0z ?_ | refine z12 ?_ | refine z14 ?_
          | refine z15 ?_ | refine z1e ?_ | refine z1f (hk := ?_) | refine z1i ?_ | refine z1j ?_ | refine z1k ?_ | refine z1l ?_ | refine z1m ?_ | refine z1n ?_
          | refine z1o (fun hp => ?_) (fun hp => ?_) | refine z1p (fun hp => ?_) (fun hp => ?_) | refine z1q (fun hp => ?_) (fun hp => ?_) | refine z1r ?_ | refine z1s ?_ | refine z1t ?_
          | refine z1u ?_ | refine z1v ?_ | refine z1w ?_ | refine z1x ?_ | refine z1y ?_ | refine z1z ?_ | refine z20 ?_ | refine z21 ?_ | refine z22 ?_ | refine z23 ?_ | refine z24 ?_
          | refine z25 ?_ | refine z26 ?_ | refine z27 ?_ | refine z28 (fun hp => ?_) (fun hp => ?_) | refine z29 (fun hp => ?_) (fun hp => ?_) | refine z2a ?_ | refine z2b ?_)
        exact fin_cln rfl (hQ _ .nil)
      | false =>
        repeat' (first
          | refine wo_call rfl rfl rfl (c_Ends (i := 0) hw hl2 (by omega) (fun _ => ?_) (fun h => absurd h (by rw [hbt]; simp)))
          | refine wo_call rfl rfl rfl (c_Alike hal hv hw hl1 ?_)
          | refine wo_store rfl rfl rfl rfl rfl rfl (by decide) rfl ?_
          | refine z00 ?_ | refine z01 ?_ | refine z02 ?_ | refine z04 ?_ | refine z05 ?_ | refine z08 ?_ | refine zp ?_ | refine z0g ?_ | refine z0h ?_ | refine z0j ?_ | refine z0k ?_
          | refine z0l ?_ | refine z0n ?_ | refine z0o ?_ | refine z0p ?_ | refine z0q ?_ | refine z0r ?_ | refine z0s ?_ | refine z0v ?_ | refine z0z ?_ | refine z12 ?_ | refine z14 ?_
          | refine z15 ?_ | refine z1e ?_ | refine z1f (hk := ?_) | refine z1i ?_ | refine z1j ?_ | refine z1k ?_ | refine z1l ?_ | refine z1m ?_ | refine z1n ?_
          | refine z1o (fun hp => ?_) (fun hp => ?_) | refine z1p (fun hp => ?_) (fun hp => ?_) | refine z1q (fun hp => ?_) (fun hp => ?_) | refine z1r ?_ | refine z1s ?_ | refine z1t ?_
          | refine z1u ?_ | refine z1v ?_ | refine z1w ?_ | refine z1x ?_ | refine z1y ?_ | refine z1z ?_ | refine z20 ?_ | refine z21 ?_ | refine z22 ?_ | refine z23 ?_ | refine z24 ?_
          | refine z25 ?_ | refine z26 ?_ | refine z27 ?_ | refine z28 (fun hp => ?_) (fun hp => ?_) | refine z29 (fun hp => ?_) (fun hp => ?_) | refine z2a ?_ | refine z2b ?_)
        exact fin_cln rfl (hQ _ .nil)
    | false =>
      cases hal : alikeF first rest with
      | true =>
        have hwd : b.width < 0 := by
          rcases hbad with h | h | h
          · rw [hal] at h; cases h
          · rw [hbt] at h; cases h
          · exact h
        repeat' (first
          | refine wo_call rfl rfl rfl (c_Ends (i := 0) hw hl2 (by omega) (fun h => absurd h (by rw [hbt]; simp)) (fun _ x y hx hy => ?_))
          | refine wo_call rfl rfl rfl (c_Alike hal hv hw hl1 ?_)
          | refine wo_store rfl rfl rfl rfl rfl rfl (by decide) rfl ?_
          | refine z00 ?_ | refine z01 ?_ | refine z02 ?_ | refine z04 ?_ | refine z05 ?_ | refine z08 ?_ | refine zp ?_ | refine z0g ?_ | refine z0h ?_ | refine z0j ?_ | refine z0k ?_
          | refine z0l ?_ | refine z0n ?_ | refine z0o ?_ | refine z0p ?_ | refine z0q ?_ | refine z0r ?_ | refine z0s ?_ | refine z0v ?_ | refine z0z ?_ | refine z12 ?_ | refine z14 ?_
          | refine z15 ?_ | refine z1e ?_ | refine z1f (hk := ?_) | refine z1i ?_ | refine z1j ?_ | refine z1k ?_ | refine z1l ?_ | refine z1m ?_ | refine z1n ?_
          | refine z1o (fun hp => ?_) (fun hp => ?_) | refine z1p (fun hp => ?_) (fun hp => ?_) | refine z1q (fun hp => ?_) (fun hp => ?_) | refine z1r ?_ | refine z1s ?_ | refine z1t ?_
          | refine z1u ?_ | refine z1v ?_ | refine z1w ?_ | refine z1x ?_ | refine z1y ?_ | refine z1z ?_ | refine z20 ?_ | refine z21 ?_ | refine z22 ?_ | refine z23 ?_ | refine z24 ?_
          | refine z25 ?_ | refine z26 ?_ | refine z27 ?_ | refine z28 (fun hp => ?_) (fun hp => ?_) | refine z29 (fun hp => ?_) (fun hp => ?_) | refine z2a ?_ | refine z2b ?_)
        exact fin_cln rfl (hQ _ .nil)
      | false =>
        repeat' (first
          | refine wo_call rfl rfl rfl (c_Ends (i := 0) hw hl2 (by omega) (fun h => absurd h (by rw [hbt]; simp)) (fun _ x y hx hy => ?_))
          | refine wo_call rfl rfl rfl (c_Alike hal hv hw hl1 ?_)
          | refine wo_store rfl rfl rfl rfl rfl rfl (by decide) rfl ?_
          | refine z00 ?_ | refine z01 ?_ | refine z02 ?_ | refine z04 ?_ | refine z05 ?_ | refine z08 ?_ | refine zp ?_ | refine z0g ?_ | refine z0h ?_ | refine z0j ?_ | refine z0k ?_
          | refine z0l ?_ | refine z0n ?_ | refine z0o ?_ | refine z0p ?_ | refine z0q ?_ | refine z0r ?_ | refine z0s ?_ | refine z0v ?_ | refine z0z ?_ | refine z12 ?_ | refine z14 ?_
          | refine z15 ?_ | refine z1e ?_ | refine z1f (hk := ?_) | refine z1i ?_ | refine z1j ?_ | refine z1k ?_ | refine z1l ?_ | refine z1m ?_ | refine z1n ?_
          | refine z1o (fun hp => ?_) (fun hp => ?_) | refine z1p (fun hp => ?_) (fun hp => ?_) | refine z1q (fun hp => ?_) (fun hp => ?_) | refine z1r ?_ | refine z1s ?_ | refine z1t ?_
          | refine z1u ?_ | refine z1v ?_ | refine z1w ?_ | refine z1x ?_ | refine z1y ?_ | refine z1z ?_ | refine z20 ?_ | refine z21 ?_ | refine z22 ?_ | refine z23 ?_ | refine z24 ?_
          | refine z25 ?_ | refine z26 ?_ | refine z27 ?_ | refine z28 (fun hp => ?_) (fun hp => ?_) | refine z29 (fun hp => ?_) (fun hp => ?_) | refine z2a ?_ | refine z2b ?_)
        exact fin_cln rfl (hQ _ .nil)
  · have hal : alikeF first rest = true := by
      cases h : alikeF first rest with
      | true => rfl
      | false => exact absurd (.inl h) hbad
    have hbt : rest.any badTab = false := by
      cases h : rest.any badTab with
      | true => exact absurd (.inr (.inl h)) hbad
      | false => rfl
    have hwd : ¬ b.width < 0 := fun h => hbad (.inr (.inr h))
    have hle := alikeF_len hal
    have e : firstL first rest a b = match (firstG rest b first a (first.length + 2) 0).find? bad with | some p => ([], p.2) | none => ((firstG rest b first a (first.length + 2) 0).map (·.1), 0) := by unfold firstL; rw [if_neg hbad]
    rw [e] at hQ
    have hit := iter_firstlines (a := a) (b := b) hv hw hl1 hle hc1 hc2 ha hb
    have hGl := firstG_len (rest := rest) (b := b) (k := first.length + 2) (i := 0) (row := first) (r := a)
    generalize firstG rest b first a (first.length + 2) 0 = G at hQ hit hGl
    repeat' (first
      | refine wo_call rfl rfl rfl (c_Ends (i := 0) hw hl2 (by omega) (fun h => absurd h (by rw [hbt]; simp)) (fun _ x y hx hy => ?_))
      | refine wo_call rfl rfl rfl (c_Alike hal hv hw hl1 ?_)
      | refine wo_call rfl rfl rfl (c_firstlines hv hw ?_)
      | refine z00 ?_ | refine z01 ?_ | refine z02 ?_ | refine z04 ?_ | refine z05 ?_ | refine z08 ?_ | refine zp ?_ | refine z0g ?_ | refine z0h ?_ | refine z0j ?_ | refine z0k ?_
      | refine z0l ?_ | refine z0n ?_ | refine z0o ?_ | refine z0p ?_ | refine z0q ?_ | refine z0r ?_ | refine z0s ?_ | refine z0v ?_ | refine z0z ?_ | refine z12 ?_ | refine z14 ?_
      | refine z15 ?_ | refine z1e ?_ | refine z1f (hk := ?_) | refine z1i ?_ | refine z1j ?_ | refine z1k ?_ | refine z1l ?_ | refine z1m ?_ | refine z1n ?_
      | refine z1o (fun hp => ?_) (fun hp => ?_) | refine z1p (fun hp => ?_) (fun hp => ?_) | refine z1q (fun hp => ?_) (fun hp => ?_) | refine z1r ?_ | refine z1s ?_ | refine z1t ?_
      | refine z1u ?_ | refine z1v ?_ | refine z1w ?_ | refine z1x ?_ | refine z1y ?_ | refine z1z ?_ | refine z20 ?_ | refine z21 ?_ | refine z22 ?_ | refine z23 ?_ | refine z24 ?_
      | refine z25 ?_ | refine z26 ?_ | refine z27 ?_ | refine z28 (fun hp => ?_) (fun hp => ?_) | refine z29 (fun hp => ?_) (fun hp => ?_) | refine z2a ?_ | refine z2b ?_)
    refine wx_overP (K := fun i W m' => m'[0]? = some nilBlk ∧ m'[1]? = some (intBlk 0) ∧ (∃ u d, m'[2]? = some ⟨[u], 0, d⟩ ∧ Hold KLine 3 ((G.take i).map (·.1)) m' u ∧ W = fun q => q < 3 ∨ slB u q) ∧ (G.take i).all (fun p => decide (p.2 = 0)) = true)
      (E := fun e m' => e = .ret ∧ m'[0]? = some nilBlk ∧ ∃ p, G.find? bad = some p ∧ m'[1]? = some (intBlk p.2)) (W := fun q => q < 3 ∨ slB .nils q) rfl hit rfl ?_ ?_ ?_ ?_ ?_ ?_ ?_
    · intro y hy
      obtain ⟨p, _, rfl⟩ := List.mem_map.1 hy
      rfl
    · exact ⟨rfl, rfl, ⟨.nils, true, rfl, .nil, rfl⟩, rfl⟩
    · rintro q (h | h)
      · simpa using h
      · cases h
    · rintro i W m1 m2 ⟨h1, h2, ⟨u, d, h3, h4, rfl⟩, h5⟩ hle2 hs
      exact ⟨by rw [hs 0 (.inl (by omega))]; exact h1, by rw [hs 1 (.inl (by omega))]; exact h2, ⟨u, d, by rw [hs 2 (.inl (by omega))]; exact h3, h4.keep fun q hq => hs q (.inr hq), rfl⟩, h5⟩
    · rintro i y W m1 ls1 hy ⟨h1, h2, ⟨u, d, h3, h4, rfl⟩, h5⟩ hW
      obtain ⟨p, hp, rfl⟩ : ∃ p, G[i]? = some p ∧ y = lineP p := by
        rw [List.getElem?_map] at hy
        cases hq : G[i]? with
        | none => rw [hq] at hy; cases hy
        | some p => rw [hq] at hy; simp at hy; exact ⟨p, rfl, hy.symm⟩
      have hil := (List.getElem?_eq_some_iff.1 hp).1
      have hpe := (List.getElem?_eq_some_iff.1 hp).2
      have hm1 := get_lt h3
      obtain ⟨⟨xf, xt, xb⟩, e⟩ := p
      repeat' (first
        | refine z00 ?_ | refine z01 ?_ | refine z02 ?_ | refine z04 ?_ | refine z05 ?_ | refine z08 ?_ | refine zp ?_ | refine z0g ?_ | refine z0h ?_ | refine z0j ?_ | refine z0k ?_
        | refine z0l ?_ | refine z0n ?_ | refine z0o ?_ | refine z0p ?_ | refine z0q ?_ | refine z0r ?_ | refine z0s ?_ | refine z0v ?_ | refine z0z ?_ | refine z12 ?_ | refine z14 ?_
        | refine z15 ?_ | refine z1e ?_ | refine z1f (hk := ?_) | refine z1i ?_ | refine z1j ?_ | refine z1k ?_ | refine z1l ?_ | refine z1m ?_ | refine z1n ?_
        | refine z1o (fun hp => ?_) (fun hp => ?_) | refine z1p (fun hp => ?_) (fun hp => ?_) | refine z1q (fun hp => ?_) (fun hp => ?_) | refine z1r ?_ | refine z1s ?_ | refine z1t ?_
        | refine z1u ?_ | refine z1v ?_ | refine z1w ?_ | refine z1x ?_ | refine z1y ?_ | refine z1z ?_ | refine z20 ?_ | refine z21 ?_ | refine z22 ?_ | refine z23 ?_ | refine z24 ?_
        | refine z25 ?_ | refine z26 ?_ | refine z27 ?_ | refine z28 (fun hp => ?_) (fun hp => ?_) | refine z29 (fun hp => ?_) (fun hp => ?_) | refine z2a ?_ | refine z2b ?_)
      refine ⟨rfl, rfl, fun ls2 => ?_⟩
      by_cases hpz : e ≠ 0
      · have g0 := get_app h1 ⟨[.int .i64 xf, .int .i64 xt, .bool xb], 0, true⟩
        have g1 := get_app h2 ⟨[.int .i64 xf, .int .i64 xt, .bool xb], 0, true⟩
        repeat' (first
          | refine wx_ifDT rfl hpz ?_
          | refine wo_store rfl rfl rfl g0 rfl rfl (by decide) rfl ?_
          | refine wo_store rfl rfl rfl (get_set g1 (by decide) _) rfl rfl (by decide) rfl ?_
          | refine z00 ?_ | refine z01 ?_ | refine z02 ?_ | refine z04 ?_ | refine z05 ?_ | refine z08 ?_ | refine zp ?_ | refine z0g ?_ | refine z0h ?_ | refine z0j ?_ | refine z0k ?_
          | refine z0l ?_ | refine z0n ?_ | refine z0o ?_ | refine z0p ?_ | refine z0q ?_ | refine z0r ?_ | refine z0s ?_ | refine z0v ?_ | refine z0z ?_ | refine z12 ?_ | refine z14 ?_
          | refine z15 ?_ | refine z1e ?_ | refine z1f (hk := ?_) | refine z1i ?_ | refine z1j ?_ | refine z1k ?_ | refine z1l ?_ | refine z1m ?_ | refine z1n ?_
          | refine z1o (fun hp => ?_) (fun hp => ?_) | refine z1p (fun hp => ?_) (fun hp => ?_) | refine z1q (fun hp => ?_) (fun hp => ?_) | refine z1r ?_ | refine z1s ?_ | refine z1t ?_
          | refine z1u ?_ | refine z1v ?_ | refine z1w ?_ | refine z1x ?_ | refine z1y ?_ | refine z1z ?_ | refine z20 ?_ | refine z21 ?_ | refine z22 ?_ | refine z23 ?_ | refine z24 ?_
          | refine z25 ?_ | refine z26 ?_ | refine z27 ?_ | refine z28 (fun hp => ?_) (fun hp => ?_) | refine z29 (fun hp => ?_) (fun hp => ?_) | refine z2a ?_ | refine z2b ?_)
        refine ⟨⟨[], by simp⟩, rfl, get_set (get_set_self g0 _) (by decide) _, (⟨xf, xt, xb⟩, e), ?_, get_set_self (get_set g1 (by decide) _) _⟩
        rw [List.find?_eq_some_iff_getElem]
        refine ⟨by simpa [bad] using hpz, i, hil, hpe, ?_⟩
        intro j hj
        have hjm : G[j]'(by omega) ∈ G.take i := by
          rw [List.mem_take_iff_getElem]
          exact ⟨j, by omega, rfl⟩
        have := List.all_eq_true.1 h5 _ hjm
        simpa [bad] using this
      · have hml : List.length (m1 ++ [(⟨[.int .i64 xf, .int .i64 xt, .bool xb], 0, true⟩ : Blk)]) = m1.length + 1 := List.length_append
        have h4' := h4.push ⟨[.int .i64 xf, .int .i64 xt, .bool xb], 0, true⟩
        obtain ⟨v2, m2, a1, a2, a3, a4, a5⟩ := h4'.add1' (bytes := 24) (sz := 3) (y := (⟨xf, xt, xb⟩ : Line)) (cs := [.int .i64 xf, .int .i64 xt, .bool xb]) (kc := some 1) (by omega) (by simp; omega) rfl rfl
        rw [hml] at a3 a4 a5
        have hsl : ∀ q, slB u q → 3 ≤ q ∧ q < m1.length := fun q hq => h4.lt hq
        have b0 : m2[0]? = some nilBlk := by rw [a4 0 (by omega) (fun h => by have := hsl _ h; omega)]; exact get_app h1 _
        have b1 : m2[1]? = some (intBlk 0) := by rw [a4 1 (by omega) (fun h => by have := hsl _ h; omega)]; exact get_app h2 _
        have b2 : m2[2]? = some ⟨[u], 0, d⟩ := by rw [a4 2 (by omega) (fun h => by have := hsl _ h; omega)]; exact get_app h3 _
        have b4 := a2.cells
        repeat' (first
          | refine wx_ifDF rfl hpz ?_
          | refine wo_load rfl (get_app h3 _) rfl rfl rfl ?_
          | refine wo_app rfl rfl a1 rfl ?_
          | refine wo_store rfl rfl b4 b2 rfl rfl (by simp) rfl ?_
          | refine z00 ?_ | refine z01 ?_ | refine z02 ?_ | refine z04 ?_ | refine z05 ?_ | refine z08 ?_ | refine zp ?_ | refine z0g ?_ | refine z0h ?_ | refine z0j ?_ | refine z0k ?_
          | refine z0l ?_ | refine z0n ?_ | refine z0o ?_ | refine z0p ?_ | refine z0q ?_ | refine z0r ?_ | refine z0s ?_ | refine z0v ?_ | refine z0z ?_ | refine z12 ?_ | refine z14 ?_
          | refine z15 ?_ | refine z1e ?_ | refine z1f (hk := ?_) | refine z1i ?_ | refine z1j ?_ | refine z1k ?_ | refine z1l ?_ | refine z1m ?_ | refine z1n ?_
          | refine z1o (fun hp => ?_) (fun hp => ?_) | refine z1p (fun hp => ?_) (fun hp => ?_) | refine z1q (fun hp => ?_) (fun hp => ?_) | refine z1r ?_ | refine z1s ?_ | refine z1t ?_
          | refine z1u ?_ | refine z1v ?_ | refine z1w ?_ | refine z1x ?_ | refine z1y ?_ | refine z1z ?_ | refine z20 ?_ | refine z21 ?_ | refine z22 ?_ | refine z23 ?_ | refine z24 ?_
          | refine z25 ?_ | refine z26 ?_ | refine z27 ?_ | refine z28 (fun hp => ?_) (fun hp => ?_) | refine z29 (fun hp => ?_) (fun hp => ?_) | refine z2a ?_ | refine z2b ?_)
        have a2s := a2.set (i := 2) (by omega) ⟨setAt [u] 0 [v2], 0, d && deepVs [v2]⟩
        refine ⟨⟨[], by simp⟩, fun q => q < 3 ∨ slB v2 q, ⟨get_set b0 (by decide) _, get_set b1 (by decide) _, ⟨v2, _, get_set_self b2 _, ?_, rfl⟩, ?_⟩, ?_⟩
        · have e2 : (G.take (i + 1)).map (·.1) = (G.take i).map (·.1) ++ [(⟨xf, xt, xb⟩ : Line)] := by rw [List.take_succ_eq_append_getElem hil, hpe, List.map_append]; rfl
          rw [e2]
          exact a2s
        · rw [List.take_succ_eq_append_getElem hil, List.all_append, h5, hpe]
          simpa using hpz
        · constructor
          · rintro q (h | h)
            · simp; omega
            · exact (a2s.lt h).2
          · simp; omega
          · rintro q (h | h)
            · exact .inl (.inl h)
            · rcases a5 q h with h | h
              · exact .inl (.inr h)
              · right; omega
          · intro q hq hn
            rw [List.getElem?_set_ne (fun e => hn (.inl (by rw [← e]; decide))), a4 q (by omega) (fun h => hn (.inr h)), List.getElem?_append_left hq]
    · rintro W m1 junk ⟨h1, h2, ⟨u, d, h3, h4, rfl⟩, h5⟩
      rw [List.length_map, List.take_length] at h4 h5
      have h6 := h4.cells
      repeat' (first
        | refine wx_retL [8, 9] ?_
        | refine z00 ?_ | refine z01 ?_ | refine z02 ?_ | refine z04 ?_ | refine z05 ?_ | refine z08 ?_ | refine zp ?_ | refine z0g ?_ | refine z0h ?_ | refine z0j ?_ | refine z0k ?_
        | refine z0l ?_ | refine z0n ?_ | refine z0o ?_ | refine z0p ?_ | refine z0q ?_ | refine z0r ?_ | refine z0s ?_ | refine z0v ?_ | refine z0z ?_ | refine z12 ?_ | refine z14 ?_
        | refine z15 ?_ | refine z1e ?_ | refine z1f (hk := ?_) | refine z1i ?_ | refine z1j ?_ | refine z1k ?_ | refine z1l ?_ | refine z1m ?_ | refine z1n ?_
        | refine z1o (fun hp => ?_) (fun hp => ?_) | refine z1p (fun hp => ?_) (fun hp => ?_) | refine z1q (fun hp => ?_) (fun hp => ?_) | refine z1r ?_ | refine z1s ?_ | refine z1t ?_
        | refine z1u ?_ | refine z1v ?_ | refine z1w ?_ | refine z1x ?_ | refine z1y ?_ | refine z1z ?_ | refine z20 ?_ | refine z21 ?_ | refine z22 ?_ | refine z23 ?_ | refine z24 ?_
        | refine z25 ?_ | refine z26 ?_ | refine z27 ?_ | refine z28 (fun hp => ?_) (fun hp => ?_) | refine z29 (fun hp => ?_) (fun hp => ?_) | refine z2a ?_ | refine z2b ?_)
      have e2 : G.find? bad = none := by
        rw [List.find?_eq_none]
        intro p hp
        have := List.all_eq_true.1 h5 p hp
        simpa [bad] using this
      rw [e2] at hQ
      refine end_r (res_cells2 rfl rfl (get_set (get_set_self h1 _) (by decide) _) (get_set_self (get_set h2 (by decide) _) _)) ?_
      refine fin_own2 (K := KLine) (xs := G.map (·.1)) ?_ rfl hQ
      exact ((h4.set (i := 0) (by omega) _).set (i := 1) (by omega) _).own
    · rintro e m1 junk _ ⟨rfl, h1, p, h2, h3⟩
      rw [h2] at hQ
      repeat' (first | refine then_r ?_ | refine block_r ?_)
      refine end_r (res_cells2 rfl rfl h1 h3) ?_
      exact fin_cln rfl (hQ _ .nil)

end
end Go.Proofs.Ytnekgoanadbmmaa
