/-
All lines: fill.Lines; two rows: first.Alike, first.lines, first.Lines.
-/
import Derived.Test.YtnekgoanadbmmaaFb
import Derived.Test.YtnekgoanadbmmaaMiZ
namespace Go.Proofs.Ytnekgoanadbmmaa
open Go.Mini
set_option linter.unusedSimpArgs false
set_option linter.unusedVariables false
set_option maxHeartbeats 4000000

section
variable {m : Mem} {ls : List LRec} {Q : MV → Mem → List LRec → Prop}

theorem c_OneE {l : List Cell} {v : MV} {i : Nat} {r : Room} {args : List MV} {p : Line × Int} (he : oneF l i r = p) (hz : frzs m frzFuel args = some [v, .int .i64 i, .agg r.mv]) (hv : Sl KCell l v) (hl : l.length ≤ 1000000) (hc : ∀ c ∈ l, c.ok) (hs : I64 r.start) (hi : i ≤ l.length) (hQ : Q (lineE p) m ls) :
    Wc ip f_fill_One args m ls Q := c_One hz hv hl hc hs hi (by rw [he]; exact hQ)

theorem pick_mem {l : List Cell} {i : Nat} {r : Room} (hi : i ≤ l.length) (h : (onePick l i r).2 = 0) : (onePick l i r).1 ∈ softs l i ∨ (onePick l i r).1 ∈ emergs l i := by
  unfold onePick at h ⊢
  split
  · rename_i hc
    rw [if_pos hc] at h
    right
    exact (List.mem_filter.1 (reachF_mem hc.2.2 h)).1
  · rename_i hc
    rw [if_neg hc] at h
    left
    exact reachF_mem (by unfold softs; simp) h

/-- What a line is, if there is no error. -/
theorem oneF_ok {l : List Cell} {i : Nat} {r : Room} (hi : i ≤ l.length) (h : (oneF l i r).2 = 0) : (oneF l i r).1.fr = i ∧ ∃ to : Nat, (oneF l i r).1.to = to ∧ i ≤ to ∧ to ≤ l.length ∧ (i < l.length → i < to) ∧ (i = l.length → (oneF l i r).1.forced = false) := by
  have hle := lastF_le hi
  unfold oneF at h ⊢
  split
  · rename_i hc; rw [if_pos hc] at h; simp at h
  · rename_i hc
    rw [if_neg hc] at h
    split
    · rename_i h2; rw [if_pos h2] at h; exact absurd h h2
    · rename_i h2
      have h2' : (onePick l i r).2 = 0 := Decidable.byContradiction h2
      refine ⟨rfl, (onePick l i r).1.toNat, ?_⟩
      have hm : (i : Int) ≤ (onePick l i r).1 ∧ (onePick l i r).1 ≤ l.length ∧ (i < l.length → (i : Int) < (onePick l i r).1) := by
        rcases pick_mem hi h2' with h | h
        · exact softs_mem hi h
        · have := emergs_mem hi h; omega
      refine ⟨by simp only; omega, by omega, by omega, by omega, fun e => ?_⟩
      have e2 : (lastF l i).2 = false := by
        unfold lastF; rw [show l.length - i = 0 by omega]; rfl
      simp only [e2, Bool.false_and]

/-- Is there a line behind this one? -/
def moreB (l : List Cell) (x : Line) : Bool := x.forced || decide (x.to < l.length)

def linesG (l : List Cell) (r rest : Room) : Nat → Nat → List Line × Int
  | 0, _ => ([], 0)
  | k + 1, i => if (oneF l i r).2 ≠ 0 then ([], (oneF l i r).2) else if moreB l (oneF l i r).1 = true then (if (linesG l rest rest k (oneF l i r).1.to.toNat).2 ≠ 0 then ([], (linesG l rest rest k (oneF l i r).1.to.toNat).2) else ((oneF l i r).1 :: (linesG l rest rest k (oneF l i r).1.to.toNat).1, 0)) else ([(oneF l i r).1], 0)
def linesF (l : List Cell) (r rest : Room) : List Line × Int := if rest.width < 0 then ([], 2) else linesG l r rest (l.length + 2) 0

theorem linesG_err {l : List Cell} {rest : Room} : ∀ {k i : Nat} {r : Room}, (linesG l r rest k i).2 ≠ 0 → (linesG l r rest k i).1 = []
  | 0, _, _, h => by simp [linesG] at h
  | k + 1, i, r, h => by
    simp only [linesG] at h ⊢
    split
    · rfl
    · rename_i h1
      rw [if_neg h1] at h
      split
      · rename_i h2
        rw [if_pos h2] at h
        split
        · rfl
        · rename_i h3; rw [if_neg h3] at h; simp at h
      · rename_i h2; rw [if_neg h2] at h; simp at h

theorem more_lt {l : List Cell} {i : Nat} {r : Room} (hi : i ≤ l.length) (h : (oneF l i r).2 = 0) (hm : moreB l (oneF l i r).1 = true) : i < l.length := by
  obtain ⟨_, to, h1, h2, h3, h4, h5⟩ := oneF_ok hi h
  refine Decidable.byContradiction fun hn => ?_
  have e : i = l.length := by omega
  have h6 := h5 e
  unfold moreB at hm
  rw [h6, h1] at hm
  simp at hm
  omega

theorem c_Lines {l : List Cell} {v : MV} {r rest : Room} (hv : Sl KCell l v) (hl : l.length ≤ 1000000) (hc : ∀ c ∈ l, c.ok) (hs : I64 r.start) (hs2 : I64 rest.start)
    (hQ : ∀ u, Sl KLine (linesF l r rest).1 u → Q (.tup [u, .int .i64 (linesF l r rest).2]) m ls) : Wc ip f_fill_Lines [v, .agg r.mv, .agg rest.mv] m ls Q := by
  refine wc_fn3d rfl fn_fill_Lines rfl (by simp [deepVs, hv.deep, deepV, Room.mv]) rfl ?_
  by_cases hw : rest.width < 0
  · have e : linesF l r rest = ([], 2) := by unfold linesF; rw [if_pos hw]
    rw [e] at hQ
    repeat' (first
      | refine z00 ?_ | refine z01 ?_ | refine z02 ?_ | refine z04 ?_ | refine z05 ?_ | refine z08 ?_ | refine zp ?_ | refine z0g ?_ | refine z0h ?_ | refine z0j ?_ | refine z0k ?_
      | refine z0l ?_ | refine z0n ?_ | refine z0o ?_ | refine z0p ?_ | refine z0q ?_ | refine z0r ?_ | refine z0s ?_ | refine z0v ?_ | refine z0z ?_ | refine z12 ?_ | refine z14 ?_
      | refine z15 ?_ | refine z1e ?_ | refine z1f (hk := ?_) | refine z1i ?_ | refine z1j ?_ | refine z1k ?_ | refine z1l ?_ | refine z1m ?_ | refine z1n ?_
      | refine z1o (fun hp => ?_) (fun hp => ?_) | refine z1p (fun hp => ?_) (fun hp => ?_) | refine z1q (fun hp => ?_) (fun hp => ?_) | refine z1r ?_ | refine z1s ?_ | refine z1t ?_
      | refine z1u ?_ | refine z1v ?_ | refine z1w ?_ | refine z1x ?_ | refine z1y ?_ | refine z1z ?_ | refine z20 ?_ | refine z21 ?_ | refine z22 ?_ | refine z23 ?_ | refine z24 ?_
      | refine z25 ?_ | refine z26 ?_ | refine z27 ?_ | refine z28 (fun hp => ?_) (fun hp => ?_) | refine z29 (fun hp => ?_) (fun hp => ?_) | refine z2a ?_ | refine z2b ?_)
    exact fin_cln rfl (hQ _ .nil)
  · have e : linesF l r rest = linesG l r rest (l.length + 2) 0 := by unfold linesF; rw [if_neg hw]
    rw [e] at hQ
    clear e
    have key : ∀ (k i : Nat), i ≤ l.length → l.length + 1 ≤ i + k → ∀ (r : Room), I64 r.start → ∀ (m : Mem) (u : MV) (done : List Line), m[0]? = some ⟨r.mv, 0, true⟩ → Hold KLine 1 done m u → done.length ≤ i → ∀ (b : Bool), b = true → ∀ {R : Ex → As → Mem → List LRec → Prop},
        ((linesG l r rest k i).2 ≠ 0 → ∀ m', R .ret [(6, .nils), (7, .int .i64 (linesG l r rest k i).2)] m' []) →
        ((linesG l r rest k i).2 = 0 → ∀ m' u', Hold KLine 1 (done ++ (linesG l r rest k i).1) m' u' → R (.exit 0) [(8, u')] m' []) →
        Wx ip i_fill_Lines.nt (.loop (lv [0, 5, 8, 9, 10, 11] 46) fill_Lines_b0) [(0, v), (5, .pimm rest.mv 0), (8, u), (9, .ptr 0 0 0), (10, .int .i64 i), (11, .bool b)] m [] R := by
      intro k
      induction k with
      | zero => intro i h1 h2; omega
      | succ k ih =>
        intro i hi hk r hr m u done h0 hu hd b hbt R hE hO
        subst hbt
        simp only [linesG] at hE hO
        generalize hone : oneF l i r = p at hE hO
        obtain ⟨x, e⟩ := p
        simp only at hE hO
        have hz : ∀ mm : Mem, frzs mm frzFuel [v, .int .i64 i, .agg r.mv] = some [v, .int .i64 i, .agg r.mv] := fun mm => frzs_fuel (by simp [deepVs, hv.deep, deepV, Room.mv])
        have hm0 := get_lt h0
        refine wx_roundL rfl ?_
        by_cases he : e ≠ 0
        · rw [if_pos he] at hE
          repeat' (first
            | refine wo_load rfl h0 rfl rfl rfl ?_
            | refine wo_call rfl rfl rfl (c_OneE hone (hz _) hv hl hc hr hi ?_)
            | refine wx_ifDT rfl he ?_
            | refine wx_retL [6, 7] ?_
            | refine z00 ?_ | refine z01 ?_ | refine z02 ?_ | refine z04 ?_ | refine z05 ?_ | refine z08 ?_ | refine zp ?_ | refine z0g ?_ | refine z0h ?_ | refine z0j ?_ | refine z0k ?_
            | refine z0l ?_ | refine z0n ?_ | refine z0o ?_ | refine z0p ?_ | refine z0q ?_ | refine z0r ?_ | refine z0s ?_ | refine z0v ?_ | refine z0z ?_ | refine z12 ?_ | refine z14 ?_
            | refine z15 ?_ | refine z1e ?_ | refine z1f (hk := ?_) | refine z1i ?_ | refine z1j ?_ | refine z1k ?_ | refine z1l ?_ | refine z1m ?_ | refine z1n ?_
            | refine z1o (fun hp => ?_) (fun hp => ?_) | refine z1p (fun hp => ?_) (fun hp => ?_) | refine z1q (fun hp => ?_) (fun hp => ?_) | refine z1r ?_ | refine z1s ?_ | refine z1t ?_
            | refine z1u ?_ | refine z1v ?_ | refine z1w ?_ | refine z1x ?_ | refine z1y ?_ | refine z1z ?_ | refine z20 ?_ | refine z21 ?_ | refine z22 ?_ | refine z23 ?_ | refine z24 ?_
            | refine z25 ?_ | refine z26 ?_ | refine z27 ?_ | refine z28 (fun hp => ?_) (fun hp => ?_) | refine z29 (fun hp => ?_) (fun hp => ?_) | refine z2a ?_ | refine z2b ?_)
          exact hE he _
        · have he0 : e = 0 := Decidable.byContradiction he
          subst he0
          rw [if_neg he] at hE hO
          have hok := oneF_ok (r := r) hi (by rw [hone])
          rw [hone] at hok
          obtain ⟨hfr, to, hto, t1, t2, t3, t4⟩ := hok
          have hmore := more_lt (r := r) hi (by rw [hone])
          rw [hone] at hmore
          obtain ⟨xf, xt, xb⟩ := x
          simp only at hfr hto
          subst hto
          obtain ⟨v2, m2, a1, a2, a3, a4, a5⟩ := (hu.push ⟨[.int .i64 xf, .int .i64 to, .bool xb], 0, true⟩).add1' (bytes := 24) (sz := 3) (y := (⟨xf, to, xb⟩ : Line)) (cs := [.int .i64 xf, .int .i64 to, .bool xb]) (kc := some 1) (by simp) (by omega) rfl rfl
          have hsl : ∀ q, slB u q → 1 ≤ q ∧ q < m.length := fun q hq => hu.lt hq
          have g0 : m2[0]? = some ⟨r.mv, 0, true⟩ := by
            rw [a4 0 (by simp) (fun hq => by have := hsl 0 hq; omega)]
            exact get_app h0 _
          have g1 : m2[m.length]? = some ⟨[.int .i64 xf, .int .i64 to, .bool xb], 0, true⟩ := by
            rw [a4 m.length (by simp) (fun hq => by have := hsl _ hq; omega)]
            exact get_last _ _
          cases hmb : moreB l ⟨xf, to, xb⟩ with
          | false =>
            rw [if_neg (by rw [hmb]; simp)] at hE hO
            unfold moreB at hmb
            simp only [Bool.or_eq_false_iff, decide_eq_false_iff_not] at hmb
            obtain ⟨hb1, hb2⟩ := hmb
            subst hb1
            repeat' (first
              | refine wo_load rfl h0 rfl rfl rfl ?_
              | refine wo_call rfl rfl rfl (c_OneE hone (hz _) hv hl hc hr hi ?_)
              | refine wo_app rfl rfl a1 rfl ?_
              | refine wo_load rfl g1 rfl rfl rfl ?_
              | refine wo_store rfl rfl rfl g0 rfl rfl (by simp [Room.mv]) rfl ?_
              | refine z00 ?_ | refine z01 ?_ | refine z02 ?_ | refine z04 ?_ | refine z05 ?_ | refine z08 ?_ | refine zp ?_ | refine z0g ?_ | refine z0h ?_ | refine z0j ?_ | refine z0k ?_
              | refine z0l ?_ | refine z0n ?_ | refine z0o ?_ | refine z0p ?_ | refine z0q ?_ | refine z0r ?_ | refine z0s ?_ | refine z0v ?_ | refine z0z ?_ | refine z12 ?_ | refine z14 ?_
              | refine z15 ?_ | refine z1e ?_ | refine z1f (hk := ?_) | refine z1i ?_ | refine z1j ?_ | refine z1k ?_ | refine z1l ?_ | refine z1m ?_ | refine z1n ?_
              | refine z1o (fun hp => ?_) (fun hp => ?_) | refine z1p (fun hp => ?_) (fun hp => ?_) | refine z1q (fun hp => ?_) (fun hp => ?_) | refine z1r ?_ | refine z1s ?_ | refine z1t ?_
              | refine z1u ?_ | refine z1v ?_ | refine z1w ?_ | refine z1x ?_ | refine z1y ?_ | refine z1z ?_ | refine z20 ?_ | refine z21 ?_ | refine z22 ?_ | refine z23 ?_ | refine z24 ?_
              | refine z25 ?_ | refine z26 ?_ | refine z27 ?_ | refine z28 (fun hp => ?_) (fun hp => ?_) | refine z29 (fun hp => ?_) (fun hp => ?_) | refine z2a ?_ | refine z2b ?_)
            refine wx_loopL ?_
            refine wx_roundL rfl ?_
            repeat' (first
              | refine wx_exitL [8] ?_
              | refine z00 ?_ | refine z01 ?_ | refine z02 ?_ | refine z04 ?_ | refine z05 ?_ | refine z08 ?_ | refine zp ?_ | refine z0g ?_ | refine z0h ?_ | refine z0j ?_ | refine z0k ?_
              | refine z0l ?_ | refine z0n ?_ | refine z0o ?_ | refine z0p ?_ | refine z0q ?_ | refine z0r ?_ | refine z0s ?_ | refine z0v ?_ | refine z0z ?_ | refine z12 ?_ | refine z14 ?_
              | refine z15 ?_ | refine z1e ?_ | refine z1f (hk := ?_) | refine z1i ?_ | refine z1j ?_ | refine z1k ?_ | refine z1l ?_ | refine z1m ?_ | refine z1n ?_
              | refine z1o (fun hp => ?_) (fun hp => ?_) | refine z1p (fun hp => ?_) (fun hp => ?_) | refine z1q (fun hp => ?_) (fun hp => ?_) | refine z1r ?_ | refine z1s ?_ | refine z1t ?_
              | refine z1u ?_ | refine z1v ?_ | refine z1w ?_ | refine z1x ?_ | refine z1y ?_ | refine z1z ?_ | refine z20 ?_ | refine z21 ?_ | refine z22 ?_ | refine z23 ?_ | refine z24 ?_
              | refine z25 ?_ | refine z26 ?_ | refine z27 ?_ | refine z28 (fun hp => ?_) (fun hp => ?_) | refine z29 (fun hp => ?_) (fun hp => ?_) | refine z2a ?_ | refine z2b ?_)
            exact hO rfl _ _ (a2.set (i := 0) (by omega) _)
          | true =>
            rw [if_pos hmb] at hE hO
            have hlt := hmore hmb
            have nx := ih to t2 (by omega) rest hs2 (m2.set 0 ⟨rest.mv, 0, true⟩) v2 (done ++ [⟨xf, to, xb⟩]) (get_set_self g0 _) (a2.set (i := 0) (by omega) _) (by simp; omega)
            have nx2 := fun (b : Bool) (hb : b = true) => nx b hb (R := R) (fun h m' => by
                have := hE (by rw [Int.toNat_natCast, if_pos h]; exact h) m'
                rw [Int.toNat_natCast, if_pos h] at this
                exact this) (fun h m' u' hu' => by
                rw [Int.toNat_natCast, if_neg (fun c => c h)] at hO
                exact hO rfl m' u' (by simpa using hu'))
            unfold moreB at hmb
            cases xb with
            | true =>
              repeat' (first
                | refine wo_load rfl h0 rfl rfl rfl ?_
                | refine wo_call rfl rfl rfl (c_OneE hone (hz _) hv hl hc hr hi ?_)
                | refine wo_app rfl rfl a1 rfl ?_
                | refine wo_load rfl g1 rfl rfl rfl ?_
                | refine wo_store rfl rfl rfl g0 rfl rfl (by simp [Room.mv]) rfl ?_
                | refine z00 ?_ | refine z01 ?_ | refine z02 ?_ | refine z04 ?_ | refine z05 ?_ | refine z08 ?_ | refine zp ?_ | refine z0g ?_ | refine z0h ?_ | refine z0j ?_ | refine z0k ?_
                | refine z0l ?_ | refine z0n ?_ | refine z0o ?_ | refine z0p ?_ | refine z0q ?_ | refine z0r ?_ | refine z0s ?_ | refine z0v ?_ | refine z0z ?_ | refine z12 ?_ | refine z14 ?_
                | refine z15 ?_ | refine z1e ?_ | refine z1f (hk := ?_) | refine z1i ?_ | refine z1j ?_ | refine z1k ?_ | refine z1l ?_ | refine z1m ?_ | refine z1n ?_
                | refine z1o (fun hp => ?_) (fun hp => ?_) | refine z1p (fun hp => ?_) (fun hp => ?_) | refine z1q (fun hp => ?_) (fun hp => ?_) | refine z1r ?_ | refine z1s ?_ | refine z1t ?_
                | refine z1u ?_ | refine z1v ?_ | refine z1w ?_ | refine z1x ?_ | refine z1y ?_ | refine z1z ?_ | refine z20 ?_ | refine z21 ?_ | refine z22 ?_ | refine z23 ?_ | refine z24 ?_
                | refine z25 ?_ | refine z26 ?_ | refine z27 ?_ | refine z28 (fun hp => ?_) (fun hp => ?_) | refine z29 (fun hp => ?_) (fun hp => ?_) | refine z2a ?_ | refine z2b ?_)
              refine wx_loopL ?_
              exact nx2 true rfl
            | false =>
              have htl : (to : Int) < l.length := by simpa using hmb
              repeat' (first
                | refine wo_load rfl h0 rfl rfl rfl ?_
                | refine wo_call rfl rfl rfl (c_OneE hone (hz _) hv hl hc hr hi ?_)
                | refine wo_app rfl rfl a1 rfl ?_
                | refine wo_load rfl g1 rfl rfl rfl ?_
                | refine wo_store rfl rfl rfl g0 rfl rfl (by simp [Room.mv]) rfl ?_
                | refine z00 ?_ | refine z01 ?_ | refine z02 ?_ | refine z04 ?_ | refine z05 ?_ | refine z08 ?_ | refine zp ?_ | refine z0g ?_ | refine z0h ?_ | refine z0j ?_ | refine z0k ?_
                | refine z0l ?_ | refine z0n ?_ | refine z0o ?_ | refine z0p ?_ | refine z0q ?_ | refine z0r ?_ | refine z0s ?_ | refine z0v ?_ | refine z0z ?_ | refine z12 ?_ | refine z14 ?_
                | refine z15 ?_ | refine z1e ?_ | refine z1f (hk := ?_) | refine z1i ?_ | refine z1j ?_ | refine z1k ?_ | refine z1l ?_ | refine z1m ?_ | refine z1n ?_
                | refine z1o (fun hp => ?_) (fun hp => ?_) | refine z1p (fun hp => ?_) (fun hp => ?_) | refine z1q (fun hp => ?_) (fun hp => ?_) | refine z1r ?_ | refine z1s ?_ | refine z1t ?_
                | refine z1u ?_ | refine z1v ?_ | refine z1w ?_ | refine z1x ?_ | refine z1y ?_ | refine z1z ?_ | refine z20 ?_ | refine z21 ?_ | refine z22 ?_ | refine z23 ?_ | refine z24 ?_
                | refine z25 ?_ | refine z26 ?_ | refine z27 ?_ | refine z28 (fun hp => ?_) (fun hp => ?_) | refine z29 (fun hp => ?_) (fun hp => ?_) | refine z2a ?_ | refine z2b ?_)
              refine wx_loopL ?_
              exact nx2 _ (decide_eq_true htl)
    repeat' (first
      | refine z00 ?_ | refine z01 ?_ | refine z02 ?_ | refine z04 ?_ | refine z05 ?_ | refine z08 ?_ | refine zp ?_ | refine z0g ?_ | refine z0h ?_ | refine z0j ?_ | refine z0k ?_
      | refine z0l ?_ | refine z0n ?_ | refine z0o ?_ | refine z0p ?_ | refine z0q ?_ | refine z0r ?_ | refine z0s ?_ | refine z0v ?_ | refine z0z ?_ | refine z12 ?_ | refine z14 ?_
      | refine z15 ?_ | refine z1e ?_ | refine z1f (hk := ?_) | refine z1i ?_ | refine z1j ?_ | refine z1k ?_ | refine z1l ?_ | refine z1m ?_ | refine z1n ?_
      | refine z1o (fun hp => ?_) (fun hp => ?_) | refine z1p (fun hp => ?_) (fun hp => ?_) | refine z1q (fun hp => ?_) (fun hp => ?_) | refine z1r ?_ | refine z1s ?_ | refine z1t ?_
      | refine z1u ?_ | refine z1v ?_ | refine z1w ?_ | refine z1x ?_ | refine z1y ?_ | refine z1z ?_ | refine z20 ?_ | refine z21 ?_ | refine z22 ?_ | refine z23 ?_ | refine z24 ?_
      | refine z25 ?_ | refine z26 ?_ | refine z27 ?_ | refine z28 (fun hp => ?_) (fun hp => ?_) | refine z29 (fun hp => ?_) (fun hp => ?_) | refine z2a ?_ | refine z2b ?_)
    refine wx_loopL ?_
    refine key (l.length + 2) 0 (by omega) (by omega) r hs _ _ [] rfl .nil (by simp) true rfl ?_ ?_
    · intro h m'
      repeat' (first | refine then_r ?_ | refine block_r ?_)
      refine end_r rfl ?_
      rw [linesG_err h] at hQ
      exact fin_cln rfl (hQ _ .nil)
    · intro h m' u' hu'
      repeat' (first
        | refine z00 ?_ | refine z01 ?_ | refine z02 ?_ | refine z04 ?_ | refine z05 ?_ | refine z08 ?_ | refine zp ?_ | refine z0g ?_ | refine z0h ?_ | refine z0j ?_ | refine z0k ?_
        | refine z0l ?_ | refine z0n ?_ | refine z0o ?_ | refine z0p ?_ | refine z0q ?_ | refine z0r ?_ | refine z0s ?_ | refine z0v ?_ | refine z0z ?_ | refine z12 ?_ | refine z14 ?_
        | refine z15 ?_ | refine z1e ?_ | refine z1f (hk := ?_) | refine z1i ?_ | refine z1j ?_ | refine z1k ?_ | refine z1l ?_ | refine z1m ?_ | refine z1n ?_
        | refine z1o (fun hp => ?_) (fun hp => ?_) | refine z1p (fun hp => ?_) (fun hp => ?_) | refine z1q (fun hp => ?_) (fun hp => ?_) | refine z1r ?_ | refine z1s ?_ | refine z1t ?_
        | refine z1u ?_ | refine z1v ?_ | refine z1w ?_ | refine z1x ?_ | refine z1y ?_ | refine z1z ?_ | refine z20 ?_ | refine z21 ?_ | refine z22 ?_ | refine z23 ?_ | refine z24 ?_
        | refine z25 ?_ | refine z26 ?_ | refine z27 ?_ | refine z28 (fun hp => ?_) (fun hp => ?_) | refine z29 (fun hp => ?_) (fun hp => ?_) | refine z2a ?_ | refine z2b ?_)
      rw [h] at hQ
      exact fin_own2 hu'.own rfl hQ

/-! ### Two rows -/

def alikeC (a b : Cell) : Bool := a.kind == b.kind && (a.node == b.node && (a.char == b.char && (a.soft == b.soft && a.emerg == b.emerg)))
def alikeF : List Cell → List Cell → Bool
  | [], [] => true
  | x :: xs, y :: ys => alikeC x y && alikeF xs ys
  | _, _ => false

theorem alikeF_len : ∀ {a b : List Cell}, alikeF a b = true → a.length = b.length
  | [], [], _ => rfl
  | x :: xs, y :: ys, h => by
    simp only [alikeF, Bool.and_eq_true] at h
    simp [alikeF_len h.2]
  | [], _ :: _, h => by simp [alikeF] at h
  | _ :: _, [], h => by simp [alikeF] at h

theorem c_Alike1 {a b : Cell} {t : Bool} (ht : alikeC a b = t) (hQ : Q (.bool t) m ls) : Wc ip f_first_Alike_1 [.agg a.mv, .agg b.mv] m ls Q := by
  subst ht
  refine wc_fn3d rfl fn_first_Alike_1 rfl rfl rfl ?_
  repeat' (first
    | refine wo_box rfl rfl rfl ?_
    | refine wo_eqa rfl rfl rfl rfl ?_
    | refine z00 ?_ | refine z01 ?_ | refine z02 ?_ | refine z04 ?_ | refine z05 ?_ | refine z08 ?_ | refine zp ?_ | refine z0g ?_ | refine z0h ?_ | refine z0j ?_ | refine z0k ?_
    | refine z0l ?_ | refine z0n ?_ | refine z0o ?_ | refine z0p ?_ | refine z0q ?_ | refine z0r ?_ | refine z0s ?_ | refine z0v ?_ | refine z0z ?_ | refine z12 ?_ | refine z14 ?_
    | refine z15 ?_ | refine z1e ?_ | refine z1f (hk := ?_) | refine z1i ?_ | refine z1j ?_ | refine z1k ?_ | refine z1l ?_ | refine z1m ?_ | refine z1n ?_
    | refine z1o (fun hp => ?_) (fun hp => ?_) | refine z1p (fun hp => ?_) (fun hp => ?_) | refine z1q (fun hp => ?_) (fun hp => ?_) | refine z1r ?_ | refine z1s ?_ | refine z1t ?_
    | refine z1u ?_ | refine z1v ?_ | refine z1w ?_ | refine z1x ?_ | refine z1y ?_ | refine z1z ?_ | refine z20 ?_ | refine z21 ?_ | refine z22 ?_ | refine z23 ?_ | refine z24 ?_
    | refine z25 ?_ | refine z26 ?_ | refine z27 ?_ | refine z28 (fun hp => ?_) (fun hp => ?_) | refine z29 (fun hp => ?_) (fun hp => ?_) | refine z2a ?_ | refine z2b ?_)
  refine fin_cln rfl ?_
  have e : ∀ t : Bool, t = alikeC a b → Q (.bool t) m ls := fun t h => h ▸ hQ
  refine e _ ?_
  simp [alikeC]

theorem c_EqualFunc {a b : List Cell} {v w : MV} {t : Bool} (ht : alikeF a b = t) (hv : Sl KCell a v) (hw : Sl KCell b w) (hl : a.length ≤ 1000000) (hQ : Q (.bool t) m ls) : Wc ip f_slices_EqualFunc_api_Cell [v, w, .fn f_first_Alike_1 [] []] m ls Q := by
  subst ht
  refine wc_fn3d rfl fn_slices_EqualFunc_api_Cell rfl (by simp [deepVs, hv.deep, hw.deep, deepV]) rfl ?_
  by_cases hlen : a.length = b.length
  · have key : ∀ (k i : Nat), i + k = a.length → ∀ (m : Mem), ∀ {R : Ex → As → Mem → List LRec → Prop}, (alikeF (a.drop i) (b.drop i) = true → ∀ m, R (.exit 0) [] m []) → (alikeF (a.drop i) (b.drop i) = false → ∀ m, R .ret [(6, .bool false)] m []) →
        Wx ip i_slices_EqualFunc_api_Cell.nt (.loop (lv [1, 2, 15, 16, 17] 32) slices_EqualFunc_api_Cell_b0) [(1, w), (2, .fn f_first_Alike_1 [] []), (15, v), (16, .int .i64 a.length), (17, .int .i64 i)] m [] R := by
      intro k
      induction k with
      | zero =>
        intro i hk m R h0 h1
        refine wx_roundL rfl ?_
        repeat' (first
          | refine wx_exitL [] ?_
          | refine z00 ?_ | refine z01 ?_ | refine z02 ?_ | refine z04 ?_ | refine z05 ?_ | refine z08 ?_ | refine zp ?_ | refine z0g ?_ | refine z0h ?_ | refine z0j ?_ | refine z0k ?_
          | refine z0l ?_ | refine z0n ?_ | refine z0o ?_ | refine z0p ?_ | refine z0q ?_ | refine z0r ?_ | refine z0s ?_ | refine z0v ?_ | refine z0z ?_ | refine z12 ?_ | refine z14 ?_
          | refine z15 ?_ | refine z1e ?_ | refine z1f (hk := ?_) | refine z1i ?_ | refine z1j ?_ | refine z1k ?_ | refine z1l ?_ | refine z1m ?_ | refine z1n ?_
          | refine z1o (fun hp => ?_) (fun hp => ?_) | refine z1p (fun hp => ?_) (fun hp => ?_) | refine z1q (fun hp => ?_) (fun hp => ?_) | refine z1r ?_ | refine z1s ?_ | refine z1t ?_
          | refine z1u ?_ | refine z1v ?_ | refine z1w ?_ | refine z1x ?_ | refine z1y ?_ | refine z1z ?_ | refine z20 ?_ | refine z21 ?_ | refine z22 ?_ | refine z23 ?_ | refine z24 ?_
          | refine z25 ?_ | refine z26 ?_ | refine z27 ?_ | refine z28 (fun hp => ?_) (fun hp => ?_) | refine z29 (fun hp => ?_) (fun hp => ?_) | refine z2a ?_ | refine z2b ?_)
        exact h0 (by rw [List.drop_eq_nil_of_le (by omega), List.drop_eq_nil_of_le (by omega)]; rfl) _
      | succ k ih =>
        intro i hk m R h0 h1
        have hlt : i < a.length := by omega
        have hlt2 : i < b.length := by omega
        rw [List.drop_eq_getElem_cons hlt, List.drop_eq_getElem_cons hlt2] at h0 h1
        simp only [alikeF] at h0 h1
        refine wx_roundL rfl ?_
        cases hal : alikeC a[i] b[i] with
        | true =>
          rw [hal, Bool.true_and] at h0 h1
          repeat' (first
            | refine wo_loadA rfl rfl rfl rfl ?_
            | refine wo_call rfl rfl rfl (c_Alike1 hal ?_)
            | refine z00 ?_ | refine z01 ?_ | refine z02 ?_ | refine z04 ?_ | refine z05 ?_ | refine z08 ?_ | refine zp ?_ | refine z0g ?_ | refine z0h ?_ | refine z0j ?_ | refine z0k ?_
            | refine z0l ?_ | refine z0n ?_ | refine z0o ?_ | refine z0p ?_ | refine z0q ?_ | refine z0r ?_ | refine z0s ?_ | refine z0v ?_ | refine z0z ?_ | refine z12 ?_ | refine z14 ?_
            | refine z15 ?_ | refine z1e ?_ | refine z1f (hk := ?_) | refine z1i ?_ | refine z1j ?_ | refine z1k ?_ | refine z1l ?_ | refine z1m ?_ | refine z1n ?_
            | refine z1o (fun hp => ?_) (fun hp => ?_) | refine z1p (fun hp => ?_) (fun hp => ?_) | refine z1q (fun hp => ?_) (fun hp => ?_) | refine z1r ?_ | refine z1s ?_ | refine z1t ?_
            | refine z1u ?_ | refine z1v ?_ | refine z1w ?_ | refine z1x ?_ | refine z1y ?_ | refine z1z ?_ | refine z20 ?_ | refine z21 ?_ | refine z22 ?_ | refine z23 ?_ | refine z24 ?_
            | refine z25 ?_ | refine z26 ?_ | refine z27 ?_ | refine z28 (fun hp => ?_) (fun hp => ?_) | refine z29 (fun hp => ?_) (fun hp => ?_) | refine z2a ?_ | refine z2b ?_)
          exact wx_loopL (ih (i + 1) (by omega) _ h0 h1)
        | false =>
          rw [hal, Bool.false_and] at h0 h1
          repeat' (first
            | refine wo_loadA rfl rfl rfl rfl ?_
            | refine wo_call rfl rfl rfl (c_Alike1 hal ?_)
            | refine wx_retL [6] ?_
            | refine z00 ?_ | refine z01 ?_ | refine z02 ?_ | refine z04 ?_ | refine z05 ?_ | refine z08 ?_ | refine zp ?_ | refine z0g ?_ | refine z0h ?_ | refine z0j ?_ | refine z0k ?_
            | refine z0l ?_ | refine z0n ?_ | refine z0o ?_ | refine z0p ?_ | refine z0q ?_ | refine z0r ?_ | refine z0s ?_ | refine z0v ?_ | refine z0z ?_ | refine z12 ?_ | refine z14 ?_
            | refine z15 ?_ | refine z1e ?_ | refine z1f (hk := ?_) | refine z1i ?_ | refine z1j ?_ | refine z1k ?_ | refine z1l ?_ | refine z1m ?_ | refine z1n ?_
            | refine z1o (fun hp => ?_) (fun hp => ?_) | refine z1p (fun hp => ?_) (fun hp => ?_) | refine z1q (fun hp => ?_) (fun hp => ?_) | refine z1r ?_ | refine z1s ?_ | refine z1t ?_
            | refine z1u ?_ | refine z1v ?_ | refine z1w ?_ | refine z1x ?_ | refine z1y ?_ | refine z1z ?_ | refine z20 ?_ | refine z21 ?_ | refine z22 ?_ | refine z23 ?_ | refine z24 ?_
            | refine z25 ?_ | refine z26 ?_ | refine z27 ?_ | refine z28 (fun hp => ?_) (fun hp => ?_) | refine z29 (fun hp => ?_) (fun hp => ?_) | refine z2a ?_ | refine z2b ?_)
          exact h1 rfl _
    repeat' (first
      | refine z00 ?_ | refine z01 ?_ | refine z02 ?_ | refine z04 ?_ | refine z05 ?_ | refine z08 ?_ | refine zp ?_ | refine z0g ?_ | refine z0h ?_ | refine z0j ?_ | refine z0k ?_
      | refine z0l ?_ | refine z0n ?_ | refine z0o ?_ | refine z0p ?_ | refine z0q ?_ | refine z0r ?_ | refine z0s ?_ | refine z0v ?_ | refine z0z ?_ | refine z12 ?_ | refine z14 ?_
      | refine z15 ?_ | refine z1e ?_ | refine z1f (hk := ?_) | refine z1i ?_ | refine z1j ?_ | refine z1k ?_ | refine z1l ?_ | refine z1m ?_ | refine z1n ?_
      | refine z1o (fun hp => ?_) (fun hp => ?_) | refine z1p (fun hp => ?_) (fun hp => ?_) | refine z1q (fun hp => ?_) (fun hp => ?_) | refine z1r ?_ | refine z1s ?_ | refine z1t ?_
      | refine z1u ?_ | refine z1v ?_ | refine z1w ?_ | refine z1x ?_ | refine z1y ?_ | refine z1z ?_ | refine z20 ?_ | refine z21 ?_ | refine z22 ?_ | refine z23 ?_ | refine z24 ?_
      | refine z25 ?_ | refine z26 ?_ | refine z27 ?_ | refine z28 (fun hp => ?_) (fun hp => ?_) | refine z29 (fun hp => ?_) (fun hp => ?_) | refine z2a ?_ | refine z2b ?_)
    refine wx_loopL ?_
    refine key a.length 0 (by omega) _ ?_ ?_
    · intro h m'
      have e : alikeF a b = true := h
      rw [e] at hQ
      repeat' (first
        | refine z00 ?_ | refine z01 ?_ | refine z02 ?_ | refine z04 ?_ | refine z05 ?_ | refine z08 ?_ | refine zp ?_ | refine z0g ?_ | refine z0h ?_ | refine z0j ?_ | refine z0k ?_
        | refine z0l ?_ | refine z0n ?_ | refine z0o ?_ | refine z0p ?_ | refine z0q ?_ | refine z0r ?_ | refine z0s ?_ | refine z0v ?_ | refine z0z ?_ | refine z12 ?_ | refine z14 ?_
        | refine z15 ?_ | refine z1e ?_ | refine z1f (hk := ?_) | refine z1i ?_ | refine z1j ?_ | refine z1k ?_ | refine z1l ?_ | refine z1m ?_ | refine z1n ?_
        | refine z1o (fun hp => ?_) (fun hp => ?_) | refine z1p (fun hp => ?_) (fun hp => ?_) | refine z1q (fun hp => ?_) (fun hp => ?_) | refine z1r ?_ | refine z1s ?_ | refine z1t ?_
        | refine z1u ?_ | refine z1v ?_ | refine z1w ?_ | refine z1x ?_ | refine z1y ?_ | refine z1z ?_ | refine z20 ?_ | refine z21 ?_ | refine z22 ?_ | refine z23 ?_ | refine z24 ?_
        | refine z25 ?_ | refine z26 ?_ | refine z27 ?_ | refine z28 (fun hp => ?_) (fun hp => ?_) | refine z29 (fun hp => ?_) (fun hp => ?_) | refine z2a ?_ | refine z2b ?_)
      exact fin_cln rfl hQ
    · intro h m'
      have e : alikeF a b = false := h
      rw [e] at hQ
      repeat' (first | refine then_r ?_ | refine block_r ?_)
      refine end_r rfl ?_
      exact fin_cln rfl hQ
  · have e : alikeF a b = false := by
      cases h : alikeF a b with
      | true => exact absurd (alikeF_len h) hlen
      | false => rfl
    rw [e] at hQ
    repeat' (first
      | refine z00 ?_ | refine z01 ?_ | refine z02 ?_ | refine z04 ?_ | refine z05 ?_ | refine z08 ?_ | refine zp ?_ | refine z0g ?_ | refine z0h ?_ | refine z0j ?_ | refine z0k ?_
      | refine z0l ?_ | refine z0n ?_ | refine z0o ?_ | refine z0p ?_ | refine z0q ?_ | refine z0r ?_ | refine z0s ?_ | refine z0v ?_ | refine z0z ?_ | refine z12 ?_ | refine z14 ?_
      | refine z15 ?_ | refine z1e ?_ | refine z1f (hk := ?_) | refine z1i ?_ | refine z1j ?_ | refine z1k ?_ | refine z1l ?_ | refine z1m ?_ | refine z1n ?_
      | refine z1o (fun hp => ?_) (fun hp => ?_) | refine z1p (fun hp => ?_) (fun hp => ?_) | refine z1q (fun hp => ?_) (fun hp => ?_) | refine z1r ?_ | refine z1s ?_ | refine z1t ?_
      | refine z1u ?_ | refine z1v ?_ | refine z1w ?_ | refine z1x ?_ | refine z1y ?_ | refine z1z ?_ | refine z20 ?_ | refine z21 ?_ | refine z22 ?_ | refine z23 ?_ | refine z24 ?_
      | refine z25 ?_ | refine z26 ?_ | refine z27 ?_ | refine z28 (fun hp => ?_) (fun hp => ?_) | refine z29 (fun hp => ?_) (fun hp => ?_) | refine z2a ?_ | refine z2b ?_)
    exact fin_cln rfl hQ

theorem c_Alike {a b : List Cell} {v w : MV} {t : Bool} (ht : alikeF a b = t) (hv : Sl KCell a v) (hw : Sl KCell b w) (hl : a.length ≤ 1000000) (hQ : Q (.bool t) m ls) : Wc ip f_first_Alike [v, w] m ls Q := by
  refine wc_fn3d rfl fn_first_Alike rfl (by simp [deepVs, hv.deep, hw.deep]) rfl ?_
  repeat' (first
    | refine wo_call rfl rfl rfl (c_EqualFunc ht hv hw hl ?_)
    | refine z00 ?_ | refine z01 ?_ | refine z02 ?_ | refine z04 ?_ | refine z05 ?_ | refine z08 ?_ | refine zp ?_ | refine z0g ?_ | refine z0h ?_ | refine z0j ?_ | refine z0k ?_
    | refine z0l ?_ | refine z0n ?_ | refine z0o ?_ | refine z0p ?_ | refine z0q ?_ | refine z0r ?_ | refine z0s ?_ | refine z0v ?_ | refine z0z ?_ | refine z12 ?_ | refine z14 ?_
    | refine z15 ?_ | refine z1e ?_ | refine z1f (hk := ?_) | refine z1i ?_ | refine z1j ?_ | refine z1k ?_ | refine z1l ?_ | refine z1m ?_ | refine z1n ?_
    | refine z1o (fun hp => ?_) (fun hp => ?_) | refine z1p (fun hp => ?_) (fun hp => ?_) | refine z1q (fun hp => ?_) (fun hp => ?_) | refine z1r ?_ | refine z1s ?_ | refine z1t ?_
    | refine z1u ?_ | refine z1v ?_ | refine z1w ?_ | refine z1x ?_ | refine z1y ?_ | refine z1z ?_ | refine z20 ?_ | refine z21 ?_ | refine z22 ?_ | refine z23 ?_ | refine z24 ?_
    | refine z25 ?_ | refine z26 ?_ | refine z27 ?_ | refine z28 (fun hp => ?_) (fun hp => ?_) | refine z29 (fun hp => ?_) (fun hp => ?_) | refine z2a ?_ | refine z2b ?_)
  exact fin_cln rfl hQ

/-! ### The lines of two rows -/

/-- What 'lines' goes over. -/
def firstG (rest : List Cell) (b : Room) : List Cell → Room → Nat → Nat → List (Line × Int)
  | _, _, 0, _ => []
  | row, r, k + 1, i => oneF row i r :: (if (oneF row i r).2 ≠ 0 then [] else if moreB row (oneF row i r).1 = true then firstG rest b rest b k (oneF row i r).1.to.toNat else [])
def lineP (p : Line × Int) : List MV := [.agg p.1.mv, .int .i64 p.2]

theorem c_firstlines {first rest : List Cell} {v w : MV} {a b : Room} (hv : Sl KCell first v) (hw : Sl KCell rest w) (hQ : Q (.fn f_first_lines_1 [] [.pimm [v] 0, .pimm a.mv 0, .pimm [w] 0, .pimm b.mv 0]) m ls) : Wc ip f_first_lines [v, w, .agg a.mv, .agg b.mv] m ls Q := by
  have h1 := hv.cells
  have h2 := hw.cells
  have h3 : deepVs [v] = true := by simp [deepVs, hv.deep]
  have h4 : deepVs [w] = true := by simp [deepVs, hw.deep]
  refine wc_fn1 rfl fn_first_lines rfl (by simp [deepVs, hv.deep, hw.deep, deepV, Room.mv]) rfl ?_
  repeat' (first
    | refine z00 ?_ | refine z01 ?_ | refine z02 ?_ | refine z04 ?_ | refine z05 ?_ | refine z08 ?_ | refine zp ?_ | refine z0g ?_ | refine z0h ?_ | refine z0j ?_ | refine z0k ?_
    | refine z0l ?_ | refine z0n ?_ | refine z0o ?_ | refine z0p ?_ | refine z0q ?_ | refine z0r ?_ | refine z0s ?_ | refine z0v ?_ | refine z0z ?_ | refine z12 ?_ | refine z14 ?_
    | refine z15 ?_ | refine z1e ?_ | refine z1f (hk := ?_) | refine z1i ?_ | refine z1j ?_ | refine z1k ?_ | refine z1l ?_ | refine z1m ?_ | refine z1n ?_
    | refine z1o (fun hp => ?_) (fun hp => ?_) | refine z1p (fun hp => ?_) (fun hp => ?_) | refine z1q (fun hp => ?_) (fun hp => ?_) | refine z1r ?_ | refine z1s ?_ | refine z1t ?_
    | refine z1u ?_ | refine z1v ?_ | refine z1w ?_ | refine z1x ?_ | refine z1y ?_ | refine z1z ?_ | refine z20 ?_ | refine z21 ?_ | refine z22 ?_ | refine z23 ?_ | refine z24 ?_
    | refine z25 ?_ | refine z26 ?_ | refine z27 ?_ | refine z28 (fun hp => ?_) (fun hp => ?_) | refine z29 (fun hp => ?_) (fun hp => ?_) | refine z2a ?_ | refine z2b ?_)
  exact fin1_deep (by simp [one, deepV, deepVs]) hQ

theorem iter_firstlines {first rest : List Cell} {v w : MV} {a b : Room} (hv : Sl KCell first v) (hw : Sl KCell rest w) (hl : first.length ≤ 1000000) (he : first.length = rest.length) (hc1 : ∀ c ∈ first, c.ok) (hc2 : ∀ c ∈ rest, c.ok) (ha : I64 a.start) (hb : I64 b.start) :
    IterP ip f_first_lines_1 [] [.pimm [v] 0, .pimm a.mv 0, .pimm [w] 0, .pimm b.mv 0] ((firstG rest b first a (first.length + 2) 0).map lineP) := by
  intro J S j W m ls hJ0 hW hJs hY
  refine wc_fn0 rfl fn_first_lines_1 rfl rfl ?_
  generalize hall : firstG rest b first a (first.length + 2) 0 = all at hY ⊢
  have key : ∀ (k i : Nat) (row : List Cell) (x : MV) (r : Room), Sl KCell row x → row.length = rest.length → (∀ c ∈ row, c.ok) → I64 r.start → i ≤ rest.length → rest.length + 1 ≤ i + k → ∀ (m : Mem) (ls : List LRec) (W : Nat → Prop) (p : Nat) (done : List (Line × Int)), m[p]? = some ⟨r.mv, 0, true⟩ → ¬ W p → (∀ q, W q → q < m.length) → all = done ++ firstG rest b row r k i → J done.length W m ls →
      ∀ (bo : Bool), bo = true → Wx ip i_first_lines_1.nt (.loop (lv [0, 3, 4, 6, 7, 8, 9] 44) first_lines_1_b0) [(0, .yld j), (3, .pimm [w] 0), (4, .pimm b.mv 0), (6, x), (7, .ptr p 0 0), (8, .int .i64 i), (9, .bool bo)] m ls
        (blockK 0 (endK i_first_lines_1.res fun _ m' ls' => (∃ W', J (all.map lineP).length W' m' ls') ∨ S m' ls')) := by
    intro k
    induction k with
    | zero => intro i row x r _ _ _ _ h1 h2; omega
    | succ k ih =>
      intro i row x r hx hrl hrc hr hi hk m ls W p done hp hWp hW hs hJ bo hbo
      subst hbo
      simp only [firstG] at hs
      generalize hone : oneF row i r = y at hs
      obtain ⟨⟨xf, xt, xb⟩, e⟩ := y
      simp only at hs
      have hz : ∀ mm : Mem, frzs mm frzFuel [x, .int .i64 i, .agg r.mv] = some [x, .int .i64 i, .agg r.mv] := fun mm => frzs_fuel (by simp [deepVs, hx.deep, deepV, Room.mv])
      have hget : (all.map lineP)[done.length]? = some (lineP (⟨xf, xt, xb⟩, e)) := by
        rw [hs, List.getElem?_map, List.getElem?_append_right (Nat.le_refl _)]; simp
      have hpl := get_lt hp
      have hJ1 : J done.length W (m ++ [⟨[.int .i64 xf, .int .i64 xt, .bool xb], 0, true⟩]) ls := hJs _ _ _ _ _ hJ (by simp) fun q hq => by rw [List.getElem?_append_left (hW q hq)]
      have hW1 : ∀ q, W q → q < (m ++ [(⟨[.int .i64 xf, .int .i64 xt, .bool xb], 0, true⟩ : Blk)]).length := fun q hq => by have := hW q hq; simp; omega
      refine wx_roundL rfl ?_
      repeat' (first
        | refine wo_load rfl hp rfl rfl rfl ?_
        | refine wo_call rfl rfl rfl (c_OneE hone (hz _) hx (by omega) hrc hr (by omega) ?_)
        | refine z00 ?_ | refine z01 ?_ | refine z02 ?_ | refine z04 ?_ | refine z05 ?_ | refine z08 ?_ | refine zp ?_ | refine z0g ?_ | refine z0h ?_ | refine z0j ?_ | refine z0k ?_
        | refine z0l ?_ | refine z0n ?_ | refine z0o ?_ | refine z0p ?_ | refine z0q ?_ | refine z0r ?_ | refine z0s ?_ | refine z0v ?_ | refine z0z ?_ | refine z12 ?_ | refine z14 ?_
        | refine z15 ?_ | refine z1e ?_ | refine z1f (hk := ?_) | refine z1i ?_ | refine z1j ?_ | refine z1k ?_ | refine z1l ?_ | refine z1m ?_ | refine z1n ?_
        | refine z1o (fun hp => ?_) (fun hp => ?_) | refine z1p (fun hp => ?_) (fun hp => ?_) | refine z1q (fun hp => ?_) (fun hp => ?_) | refine z1r ?_ | refine z1s ?_ | refine z1t ?_
        | refine z1u ?_ | refine z1v ?_ | refine z1w ?_ | refine z1x ?_ | refine z1y ?_ | refine z1z ?_ | refine z20 ?_ | refine z21 ?_ | refine z22 ?_ | refine z23 ?_ | refine z24 ?_
        | refine z25 ?_ | refine z26 ?_ | refine z27 ?_ | refine z28 (fun hp => ?_) (fun hp => ?_) | refine z29 (fun hp => ?_) (fun hp => ?_) | refine z2a ?_ | refine z2b ?_)
      refine wo_yld rfl rfl rfl ((hY _ _ _ _ _ hget hJ1 hW1).mono ?_)
      rintro u m' ls' (⟨rfl, W', hJ', hk'⟩ | ⟨rfl, hS⟩)
      · have g0 : m'[p]? = some ⟨r.mv, 0, true⟩ := hk'.get hWp (get_app hp _)
        have g1 : m'[m.length]? = some ⟨[.int .i64 xf, .int .i64 xt, .bool xb], 0, true⟩ := hk'.get (fun h => by have := hW _ h; omega) (get_last _ _)
        have hWp' : ¬ W' p := fun h => by
          rcases hk'.new p h with h | h
          · exact hWp h
          · simp at h; omega
        by_cases he : e ≠ 0
        · rw [if_pos he] at hs
          repeat' (first
            | refine z00 ?_ | refine z01 ?_ | refine z02 ?_ | refine z04 ?_ | refine z05 ?_ | refine z08 ?_ | refine zp ?_ | refine z0g ?_ | refine z0h ?_ | refine z0j ?_ | refine z0k ?_
            | refine z0l ?_ | refine z0n ?_ | refine z0o ?_ | refine z0p ?_ | refine z0q ?_ | refine z0r ?_ | refine z0s ?_ | refine z0v ?_ | refine z0z ?_ | refine z12 ?_ | refine z14 ?_
            | refine z15 ?_ | refine z1e ?_ | refine z1f (hk := ?_) | refine z1i ?_ | refine z1j ?_ | refine z1k ?_ | refine z1l ?_ | refine z1m ?_ | refine z1n ?_
            | refine z1o (fun hp => ?_) (fun hp => ?_) | refine z1p (fun hp => ?_) (fun hp => ?_) | refine z1q (fun hp => ?_) (fun hp => ?_) | refine z1r ?_ | refine z1s ?_ | refine z1t ?_
            | refine z1u ?_ | refine z1v ?_ | refine z1w ?_ | refine z1x ?_ | refine z1y ?_ | refine z1z ?_ | refine z20 ?_ | refine z21 ?_ | refine z22 ?_ | refine z23 ?_ | refine z24 ?_
            | refine z25 ?_ | refine z26 ?_ | refine z27 ?_ | refine z28 (fun hp => ?_) (fun hp => ?_) | refine z29 (fun hp => ?_) (fun hp => ?_) | refine z2a ?_ | refine z2b ?_)
          left
          refine ⟨W', ?_⟩
          rw [List.length_map, hs]
          simpa using hJ'
        · have he0 : e = 0 := Decidable.byContradiction he
          subst he0
          rw [if_neg he] at hs
          have hok := oneF_ok (l := row) (r := r) (i := i) (by omega) (by rw [hone])
          rw [hone] at hok
          obtain ⟨hfr, to, hto, t1, t2, t3, t4⟩ := hok
          have hmore := more_lt (l := row) (r := r) (i := i) (by omega) (by rw [hone])
          rw [hone] at hmore
          simp only at hfr hto
          subst hto
          have hp' := get_lt g0
          have hJ2 : J (done.length + 1) W' (m'.set p ⟨b.mv, 0, true⟩) ls' := hJs _ _ _ _ _ hJ' (by simp) fun q hq => by rw [List.getElem?_set_ne (fun e => hWp' (by rw [e]; exact hq))]
          have hW2 : ∀ q, W' q → q < (m'.set p (⟨b.mv, 0, true⟩ : Blk)).length := fun q hq => by have := hk'.lt q hq; simpa using this
          cases hmb : moreB row ⟨xf, to, xb⟩ with
          | false =>
            rw [if_neg (by rw [hmb]; simp)] at hs
            unfold moreB at hmb
            simp only [Bool.or_eq_false_iff, decide_eq_false_iff_not] at hmb
            obtain ⟨hb1, hb2⟩ := hmb
            subst hb1
            repeat' (first
              | refine wo_load rfl g1 rfl rfl rfl ?_
              | refine wo_store rfl rfl rfl g0 rfl rfl (by simp [Room.mv]) rfl ?_
              | refine z00 ?_ | refine z01 ?_ | refine z02 ?_ | refine z04 ?_ | refine z05 ?_ | refine z08 ?_ | refine zp ?_ | refine z0g ?_ | refine z0h ?_ | refine z0j ?_ | refine z0k ?_
              | refine z0l ?_ | refine z0n ?_ | refine z0o ?_ | refine z0p ?_ | refine z0q ?_ | refine z0r ?_ | refine z0s ?_ | refine z0v ?_ | refine z0z ?_ | refine z12 ?_ | refine z14 ?_
              | refine z15 ?_ | refine z1e ?_ | refine z1f (hk := ?_) | refine z1i ?_ | refine z1j ?_ | refine z1k ?_ | refine z1l ?_ | refine z1m ?_ | refine z1n ?_
              | refine z1o (fun hp => ?_) (fun hp => ?_) | refine z1p (fun hp => ?_) (fun hp => ?_) | refine z1q (fun hp => ?_) (fun hp => ?_) | refine z1r ?_ | refine z1s ?_ | refine z1t ?_
              | refine z1u ?_ | refine z1v ?_ | refine z1w ?_ | refine z1x ?_ | refine z1y ?_ | refine z1z ?_ | refine z20 ?_ | refine z21 ?_ | refine z22 ?_ | refine z23 ?_ | refine z24 ?_
              | refine z25 ?_ | refine z26 ?_ | refine z27 ?_ | refine z28 (fun hp => ?_) (fun hp => ?_) | refine z29 (fun hp => ?_) (fun hp => ?_) | refine z2a ?_ | refine z2b ?_)
            refine wx_loopL ?_
            refine wx_roundL rfl ?_
            repeat' (first
              | refine z00 ?_ | refine z01 ?_ | refine z02 ?_ | refine z04 ?_ | refine z05 ?_ | refine z08 ?_ | refine zp ?_ | refine z0g ?_ | refine z0h ?_ | refine z0j ?_ | refine z0k ?_
              | refine z0l ?_ | refine z0n ?_ | refine z0o ?_ | refine z0p ?_ | refine z0q ?_ | refine z0r ?_ | refine z0s ?_ | refine z0v ?_ | refine z0z ?_ | refine z12 ?_ | refine z14 ?_
              | refine z15 ?_ | refine z1e ?_ | refine z1f (hk := ?_) | refine z1i ?_ | refine z1j ?_ | refine z1k ?_ | refine z1l ?_ | refine z1m ?_ | refine z1n ?_
              | refine z1o (fun hp => ?_) (fun hp => ?_) | refine z1p (fun hp => ?_) (fun hp => ?_) | refine z1q (fun hp => ?_) (fun hp => ?_) | refine z1r ?_ | refine z1s ?_ | refine z1t ?_
              | refine z1u ?_ | refine z1v ?_ | refine z1w ?_ | refine z1x ?_ | refine z1y ?_ | refine z1z ?_ | refine z20 ?_ | refine z21 ?_ | refine z22 ?_ | refine z23 ?_ | refine z24 ?_
              | refine z25 ?_ | refine z26 ?_ | refine z27 ?_ | refine z28 (fun hp => ?_) (fun hp => ?_) | refine z29 (fun hp => ?_) (fun hp => ?_) | refine z2a ?_ | refine z2b ?_)
            left
            refine ⟨W', ?_⟩
            rw [List.length_map, hs, List.length_append]
            exact hJ2
          | true =>
            rw [if_pos hmb] at hs
            have hlt := hmore hmb
            have nx := ih to rest w b hw rfl hc2 hb (by omega) (by omega) (m'.set p ⟨b.mv, 0, true⟩) ls' W' p (done ++ [(⟨xf, to, xb⟩, 0)]) (get_set_self g0 _) hWp' hW2 (by rw [hs]; simp) (by simpa using hJ2)
            unfold moreB at hmb
            cases xb with
            | true =>
              repeat' (first
                | refine wo_load rfl g1 rfl rfl rfl ?_
                | refine wo_store rfl rfl rfl g0 rfl rfl (by simp [Room.mv]) rfl ?_
                | refine z00 ?_ | refine z01 ?_ | refine z02 ?_ | refine z04 ?_ | refine z05 ?_ | refine z08 ?_ | refine zp ?_ | refine z0g ?_ | refine z0h ?_ | refine z0j ?_ | refine z0k ?_
                | refine z0l ?_ | refine z0n ?_ | refine z0o ?_ | refine z0p ?_ | refine z0q ?_ | refine z0r ?_ | refine z0s ?_ | refine z0v ?_ | refine z0z ?_ | refine z12 ?_ | refine z14 ?_
                | refine z15 ?_ | refine z1e ?_ | refine z1f (hk := ?_) | refine z1i ?_ | refine z1j ?_ | refine z1k ?_ | refine z1l ?_ | refine z1m ?_ | refine z1n ?_
                | refine z1o (fun hp => ?_) (fun hp => ?_) | refine z1p (fun hp => ?_) (fun hp => ?_) | refine z1q (fun hp => ?_) (fun hp => ?_) | refine z1r ?_ | refine z1s ?_ | refine z1t ?_
                | refine z1u ?_ | refine z1v ?_ | refine z1w ?_ | refine z1x ?_ | refine z1y ?_ | refine z1z ?_ | refine z20 ?_ | refine z21 ?_ | refine z22 ?_ | refine z23 ?_ | refine z24 ?_
                | refine z25 ?_ | refine z26 ?_ | refine z27 ?_ | refine z28 (fun hp => ?_) (fun hp => ?_) | refine z29 (fun hp => ?_) (fun hp => ?_) | refine z2a ?_ | refine z2b ?_)
              refine wx_loopL ?_
              exact nx true rfl
            | false =>
              have htl : (to : Int) < row.length := by simpa using hmb
              repeat' (first
                | refine wo_load rfl g1 rfl rfl rfl ?_
                | refine wo_store rfl rfl rfl g0 rfl rfl (by simp [Room.mv]) rfl ?_
                | refine z00 ?_ | refine z01 ?_ | refine z02 ?_ | refine z04 ?_ | refine z05 ?_ | refine z08 ?_ | refine zp ?_ | refine z0g ?_ | refine z0h ?_ | refine z0j ?_ | refine z0k ?_
                | refine z0l ?_ | refine z0n ?_ | refine z0o ?_ | refine z0p ?_ | refine z0q ?_ | refine z0r ?_ | refine z0s ?_ | refine z0v ?_ | refine z0z ?_ | refine z12 ?_ | refine z14 ?_
                | refine z15 ?_ | refine z1e ?_ | refine z1f (hk := ?_) | refine z1i ?_ | refine z1j ?_ | refine z1k ?_ | refine z1l ?_ | refine z1m ?_ | refine z1n ?_
                | refine z1o (fun hp => ?_) (fun hp => ?_) | refine z1p (fun hp => ?_) (fun hp => ?_) | refine z1q (fun hp => ?_) (fun hp => ?_) | refine z1r ?_ | refine z1s ?_ | refine z1t ?_
                | refine z1u ?_ | refine z1v ?_ | refine z1w ?_ | refine z1x ?_ | refine z1y ?_ | refine z1z ?_ | refine z20 ?_ | refine z21 ?_ | refine z22 ?_ | refine z23 ?_ | refine z24 ?_
                | refine z25 ?_ | refine z26 ?_ | refine z27 ?_ | refine z28 (fun hp => ?_) (fun hp => ?_) | refine z29 (fun hp => ?_) (fun hp => ?_) | refine z2a ?_ | refine z2b ?_)
              refine wx_loopL ?_
              exact nx _ (decide_eq_true htl)
      · repeat' (first
          | refine z00 ?_ | refine z01 ?_ | refine z02 ?_ | refine z04 ?_ | refine z05 ?_ | refine z08 ?_ | refine zp ?_ | refine z0g ?_ | refine z0h ?_ | refine z0j ?_ | refine z0k ?_
          | refine z0l ?_ | refine z0n ?_ | refine z0o ?_ | refine z0p ?_ | refine z0q ?_ | refine z0r ?_ | refine z0s ?_ | refine z0v ?_ | refine z0z ?_ | refine z12 ?_ | refine z14 ?_
          | refine z15 ?_ | refine z1e ?_ | refine z1f (hk := ?_) | refine z1i ?_ | refine z1j ?_ | refine z1k ?_ | refine z1l ?_ | refine z1m ?_ | refine z1n ?_
          | refine z1o (fun hp => ?_) (fun hp => ?_) | refine z1p (fun hp => ?_) (fun hp => ?_) | refine z1q (fun hp => ?_) (fun hp => ?_) | refine z1r ?_ | refine z1s ?_ | refine z1t ?_
          | refine z1u ?_ | refine z1v ?_ | refine z1w ?_ | refine z1x ?_ | refine z1y ?_ | refine z1z ?_ | refine z20 ?_ | refine z21 ?_ | refine z22 ?_ | refine z23 ?_ | refine z24 ?_
          | refine z25 ?_ | refine z26 ?_ | refine z27 ?_ | refine z28 (fun hp => ?_) (fun hp => ?_) | refine z29 (fun hp => ?_) (fun hp => ?_) | refine z2a ?_ | refine z2b ?_)
        exact .inr hS
  repeat' (first
    | refine z00 ?_ | refine z01 ?_ | refine z02 ?_ | refine z04 ?_ | refine z05 ?_ | refine z08 ?_ | refine zp ?_ | refine z0g ?_ | refine z0h ?_ | refine z0j ?_ | refine z0k ?_
    | refine z0l ?_ | refine z0n ?_ | refine z0o ?_ | refine z0p ?_ | refine z0q ?_ | refine z0r ?_ | refine z0s ?_ | refine z0v ?_ | refine z0z ?_ | refine z12 ?_ | refine z14 ?_
    | refine z15 ?_ | refine z1e ?_ | refine z1f (hk := ?_) | refine z1i ?_ | refine z1j ?_ | refine z1k ?_ | refine z1l ?_ | refine z1m ?_ | refine z1n ?_
    | refine z1o (fun hp => ?_) (fun hp => ?_) | refine z1p (fun hp => ?_) (fun hp => ?_) | refine z1q (fun hp => ?_) (fun hp => ?_) | refine z1r ?_ | refine z1s ?_ | refine z1t ?_
    | refine z1u ?_ | refine z1v ?_ | refine z1w ?_ | refine z1x ?_ | refine z1y ?_ | refine z1z ?_ | refine z20 ?_ | refine z21 ?_ | refine z22 ?_ | refine z23 ?_ | refine z24 ?_
    | refine z25 ?_ | refine z26 ?_ | refine z27 ?_ | refine z28 (fun hp => ?_) (fun hp => ?_) | refine z29 (fun hp => ?_) (fun hp => ?_) | refine z2a ?_ | refine z2b ?_)
  refine wx_loopL ?_
  refine key (first.length + 2) 0 first v a hv he hc1 ha (by omega) (by omega) _ ls W m.length [] (get_last _ _) (fun h => by have := hW _ h; omega) (fun q hq => by have := hW q hq; simp; omega) (by rw [← hall]; rfl) ?_ true rfl
  exact hJs _ _ _ _ _ hJ0 (by simp) fun q hq => by rw [List.getElem?_append_left (hW q hq)]

end
end Go.Proofs.Ytnekgoanadbmmaa
