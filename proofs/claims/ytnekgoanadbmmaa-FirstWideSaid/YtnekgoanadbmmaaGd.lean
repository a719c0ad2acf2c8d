/-
The statement FirstWide, of the program's text in Mini.
-/
import Derived.Test.YtnekgoanadbmmaaGa
namespace Go.Proofs.Ytnekgoanadbmmaa
open Go.Mini
set_option linter.unusedSimpArgs false
set_option linter.unusedVariables false
set_option maxHeartbeats 4000000

section
variable {m : Mem} {ls : List LRec} {Q : MV → Mem → List LRec → Prop}

/-! ### Plainly -/

def far : Int := 1099511627776
/-- A cell that goes forward, and not far. -/
def Near (c : Cell) : Prop := 0 ≤ c.adv ∧ c.adv ≤ far

theorem step_near {c : Cell} {x : Int} (hc : Near c) (h0 : 0 ≤ x) (h1 : x ≤ 1152921504606846976) : (stepF c x).2 = 0 ∧ x ≤ (stepF c x).1 ∧ (stepF c x).1 ≤ x + far := by
  unfold Near far at hc
  have hf : ∀ n : Int, 0 ≤ n → n ≤ 4611686018427387904 → fits n = (n, 0) := fun n a b => by unfold fits; rw [if_neg (by omega)]
  unfold stepF far
  rw [if_neg (by omega)]
  split
  · rw [hf _ (by omega) (by omega)]; simp; omega
  · rw [hf x h0 (by omega), if_neg (by simp)]
    split
    · simp; omega
    · unfold stopF
      rw [if_neg (by omega)]
      have hb := tmod_bd (x := x) (y := c.adv) (by omega)
      have hn : 0 ≤ x.tmod c.adv := Int.tmod_nonneg _ h0
      rw [if_neg (by omega), hf _ (by omega) (by omega)]
      simp; omega

theorem pen_near {c : Cell} {ro x : Int} (hc : Near c) (h0 : 0 ≤ x) (h1 : x ≤ 1152921504606846976) : (penF c ro x).2 = 0 ∧ x ≤ (penF c ro x).1 ∧ (penF c ro x).1 ≤ x + far := by
  unfold penF
  split
  · exact step_near hc h0 h1
  · unfold far; simp; omega

theorem pensF_near {roles : List Int} : ∀ {l : List Cell} {i : Nat} {x : Int}, (∀ c ∈ l, Near c) → 0 ≤ x → x + l.length * far ≤ 1152921504606846976 → ∀ p ∈ pensF roles i l x, p.2 = 0 ∧ x ≤ p.1 ∧ p.1 ≤ x + l.length * far
  | [], _, _, _, _, _, p, h => by simp [pensF] at h
  | c :: cs, i, x, hc, h0, h1, p, h => by
    have hl : ((c :: cs).length : Int) * far = cs.length * far + far := by
      rw [List.length_cons, Int.natCast_succ, Int.add_mul, Int.one_mul]
    have hcs : 0 ≤ (cs.length : Int) * far := Int.mul_nonneg (by omega) (by unfold far; omega)
    rw [hl] at h1 ⊢
    have hfar : far = 1099511627776 := rfl
    obtain ⟨g1, g2, g3⟩ := pen_near (ro := roles.getD i 0) (hc c (by simp)) h0 (by omega)
    simp only [pensF] at h
    rcases List.mem_cons.1 h with rfl | h
    · exact ⟨g1, g2, by omega⟩
    · rw [if_neg (fun c => c g1)] at h
      have := pensF_near (fun c h => hc c (by simp [h])) (by omega) (by omega) p h
      exact ⟨this.1, by omega, by omega⟩

theorem end_near {l : List Cell} {roles : List Int} {x : Int} (hc : ∀ c ∈ l, Near c) (h0 : 0 ≤ x) (h1 : x + l.length * far ≤ 1152921504606846976) : (endL l roles x).2 = 0 ∧ (endL l roles x).1 ≤ x + l.length * far := by
  have hcs : 0 ≤ (l.length : Int) * far := Int.mul_nonneg (by omega) (by unfold far; omega)
  have hp := pensF_near (roles := roles) (i := 0) hc h0 h1
  have hb : l.any badTab = false := by
    rw [List.any_eq_false]
    intro c h
    have := hc c h
    unfold Near at this
    simp [badTab]
    omega
  have hf : fits x = (x, 0) := by unfold fits; rw [if_neg (by omega)]
  have e : pensL l roles x = (x :: (pensF roles 0 l x).map (·.1), 0) := by
    unfold pensL
    rw [if_neg (by rw [hb]; simp), hf, if_neg (by simp)]
    have : (pensF roles 0 l x).find? (fun p => decide (p.2 ≠ 0)) = none := by
      rw [List.find?_eq_none]
      intro p h
      have := (hp p h).1
      simpa using this
    rw [this]
  unfold endL
  rw [e, if_neg (by simp)]
  refine ⟨rfl, ?_⟩
  simp only
  have hlt : (x :: (pensF roles 0 l x).map (·.1)).length - 1 < (x :: (pensF roles 0 l x).map (·.1)).length := by simp
  rw [getD_lt hlt]
  have hm := List.getElem_mem hlt
  rcases List.mem_cons.1 hm with h | h
  · rw [h]; omega
  · obtain ⟨p, h2, h3⟩ := List.mem_map.1 h
    rw [← h3]
    exact (hp p h2).2.2

theorem reachG_all {fits : Int → Bool × Int} : ∀ {l : List Int} {p : Int} {b : Bool}, (∀ q ∈ l, fits q = (true, 0)) → reachG fits p b l = (l.getLastD p, true, 0)
  | [], p, b, _ => rfl
  | q :: qs, p, b, h => by
    simp only [reachG, h q (by simp)]
    rw [if_neg (by simp), if_neg (by simp), reachG_all (fun q hq => h q (by simp [hq]))]
    cases qs <;> rfl

theorem lastG_none {l : List Cell} (h : ∀ c ∈ l, c.kind ≠ 5) : ∀ {k i : Nat}, i + k = l.length → lastG l k i = (l.length, false)
  | 0, i, hk => by simp [lastG]; omega
  | k + 1, i, hk => by
    have hlt : i < l.length := by omega
    simp only [lastG, getD_lt hlt]
    rw [if_pos (h _ (List.getElem_mem hlt))]
    exact lastG_none h (by omega)

theorem one_wide {f : List Cell} (hn : ∀ c ∈ f, Near c) (hk : ∀ c ∈ f, c.kind ≠ 5) (hl : f.length ≤ 80) : oneF f 0 ⟨1125899906842624, 0⟩ = (⟨0, f.length, false⟩, 0) := by
  have hlast : lastF f 0 = (f.length, false) := lastG_none hk (by omega)
  have hb : f.any badTab = false := by
    rw [List.any_eq_false]
    intro c h
    have := hn c h
    unfold Near at this
    simp [badTab]
    omega
  have hfit : ∀ q : Int, 0 ≤ q → q ≤ f.length → fitsF f 0 ⟨1125899906842624, 0⟩ q = (true, 0) := by
    intro q h0 h1
    have hcl := cut_len (l := f) (i := 0) (j := q.toNat) (by omega) (by omega)
    have := end_near (l := cut f 0 q.toNat) (roles := (rolesF (cut f 0 q.toNat)).map unhang) (x := 0) (fun c hc => hn c (List.mem_of_mem_drop (List.mem_of_mem_take hc))) (by omega) (by rw [hcl]; unfold far; omega)
    unfold fitsF fitL
    simp only
    rw [this.1]
    have h2 := this.2
    rw [hcl] at h2
    unfold far at h2
    congr 1
    rw [decide_eq_true_eq]
    omega
  have hr : reachF (fitsF f 0 ⟨1125899906842624, 0⟩) (softs f 0) = ((f.length : Int), true, 0) := by
    unfold reachF
    rw [reachG_all (fun q hq => by have := softs_mem (i := 0) (by omega) hq; exact hfit q (by omega) (by omega))]
    unfold softs
    rw [hlast]
    simp
  have hp : onePick f 0 ⟨1125899906842624, 0⟩ = ((f.length : Int), 0) := by
    unfold onePick
    rw [hr]
    simp
  unfold oneF
  rw [if_neg (by rw [hb]; simp), hp, if_neg (by simp), hlast]
  simp

theorem first_wide {f r : List Cell} (hal : alikeF f r = true) (hn : ∀ c ∈ f, Near c) (hk : ∀ c ∈ f, c.kind ≠ 5) (hr : ∀ c ∈ r, 0 ≤ c.adv) (hl : f.length ≤ 80) : firstL f r ⟨1125899906842624, 0⟩ ⟨0, 0⟩ = ([⟨0, f.length, false⟩], 0) := by
  have hb : r.any badTab = false := by
    rw [List.any_eq_false]
    intro c h
    have := hr c h
    simp [badTab]
    omega
  have h1 := one_wide hn hk hl
  unfold firstL
  rw [if_neg (by rw [hal, hb]; simp)]
  have e : firstG r ⟨0, 0⟩ f ⟨1125899906842624, 0⟩ (f.length + 2) 0 = [(⟨0, f.length, false⟩, 0)] := by
    simp only [firstG, h1]
    simp [moreB]
  rw [e]
  simp [List.find?_cons, bad]

theorem cells_wide {f r : List Cell} (hal : alikeF f r = true) : firstC f r [⟨0, f.length, false⟩] = some [f] := by
  unfold firstC
  rw [if_neg (by rw [hal]; simp)]
  simp only [cellsG]
  rw [if_neg (by unfold badCut; simp)]
  simp [cut]

/-! ### The law -/

theorem law_FirstWide {f r : List Cell} {v w : MV} {a b : Room} (hv : Sl KCell f v) (hw : Sl KCell r w) (hl1 : f.length ≤ 9223372036854775807) (hl2 : r.length ≤ 9223372036854775807) (hc1 : ∀ c ∈ f, c.ok) (hc2 : ∀ c ∈ r, c.ok) (hQ : Q (.bool true) m ls) :
    Wc ip f_law15_FirstWide [.agg (given15 v w a b)] m ls Q := by
  have hd : deepVs (given15 v w a b) = true := by simp [given15, deepVs, hv.deep, hw.deep, deepV]
  refine wc_fn3d rfl fn_law15_FirstWide rfl (by simp [deepVs, deepV, hd]) rfl ?_
  by_cases hbig : great15 f r
  · repeat' (first
      | refine wo_call rfl rfl rfl (c_great15 (a := a) (b := b) hv hw ?_)
      | refine wo_call rfl rfl rfl (c_head15 ?_)
      | refine z00 ?_ | refine z01 ?_ | refine z02 ?_ | refine z03 ?_ | refine z04 ?_ | refine z05 ?_ | refine z06 ?_ | refine z07 ?_ | refine z08 ?_ | refine z09 ?_ | refine z0a ?_
      | refine z0b ?_ | refine z0c ?_ | refine z0d ?_ | refine z0e ?_ | refine z0f ?_ | refine z0g ?_ | refine z0h ?_ | refine z0i ?_ | refine z0j ?_ | refine z0k ?_ | refine z0l ?_
      | refine z0m ?_ | refine z0n ?_ | refine z0o ?_ | refine z0p ?_ | refine z0q ?_ | refine z0r ?_ | refine z0s ?_ | refine z0t ?_ | refine z0u ?_ | refine z0v ?_ | refine z0w ?_
      | refine z0x ?_ | refine z0y ?_ | refine z0z ?_ | refine z10 ?_ | refine z11 ?_ | refine z12 ?_ | refine z13 ?_ | refine z14 ?_ | refine z15 ?_ | refine z16 ?_ | refine z17 ?_
      | refine z18 ?_ | refine z19 ?_ | refine z1a ?_ | refine z1b ?_ | refine z1c ?_ | refine z1d ?_ | refine z1e ?_ | refine z1f (hk := ?_) | refine z1g ?_ | refine z1h ?_ | refine z1i ?_
      | refine z1j ?_ | refine z1k ?_ | refine z1l ?_ | refine z1m ?_ | refine z1n ?_ | refine z1o (fun hp => ?_) (fun hp => ?_) | refine z1p (fun hp => ?_) (fun hp => ?_)
      | refine z1q (fun hp => ?_) (fun hp => ?_) | refine z1r ?_ | refine z1s ?_ | refine z1t ?_ | refine z1u ?_ | refine z1v ?_ | refine z1w ?_ | refine z1x ?_ | refine z1y ?_ | refine z1z ?_
      | refine z20 ?_ | refine z21 ?_ | refine z22 ?_ | refine z23 ?_ | refine z24 ?_ | refine z25 ?_ | refine z26 ?_ | refine z27 ?_ | refine z28 (fun hp => ?_) (fun hp => ?_)
      | refine z29 (fun hp => ?_) (fun hp => ?_) | refine z2a ?_ | refine z2b ?_)
    exact fin_cln rfl hQ
  · obtain ⟨hb1, hb2⟩ : f.length ≤ 80 ∧ r.length ≤ 80 := by unfold great15 at hbig; omega
    cases hal : alikeF f r with
    | false =>
      repeat' (first
        | refine wo_call rfl rfl rfl (c_great15 (a := a) (b := b) hv hw ?_)
        | refine wo_call rfl rfl rfl (c_Alike hal hv hw (by omega) ?_)
        | refine wo_call rfl rfl rfl (c_head15 ?_)
        | refine z00 ?_ | refine z01 ?_ | refine z02 ?_ | refine z03 ?_ | refine z04 ?_ | refine z05 ?_ | refine z06 ?_ | refine z07 ?_ | refine z08 ?_ | refine z09 ?_ | refine z0a ?_
        | refine z0b ?_ | refine z0c ?_ | refine z0d ?_ | refine z0e ?_ | refine z0f ?_ | refine z0g ?_ | refine z0h ?_ | refine z0i ?_ | refine z0j ?_ | refine z0k ?_ | refine z0l ?_
        | refine z0m ?_ | refine z0n ?_ | refine z0o ?_ | refine z0p ?_ | refine z0q ?_ | refine z0r ?_ | refine z0s ?_ | refine z0t ?_ | refine z0u ?_ | refine z0v ?_ | refine z0w ?_
        | refine z0x ?_ | refine z0y ?_ | refine z0z ?_ | refine z10 ?_ | refine z11 ?_ | refine z12 ?_ | refine z13 ?_ | refine z14 ?_ | refine z15 ?_ | refine z16 ?_ | refine z17 ?_
        | refine z18 ?_ | refine z19 ?_ | refine z1a ?_ | refine z1b ?_ | refine z1c ?_ | refine z1d ?_ | refine z1e ?_ | refine z1f (hk := ?_) | refine z1g ?_ | refine z1h ?_ | refine z1i ?_
        | refine z1j ?_ | refine z1k ?_ | refine z1l ?_ | refine z1m ?_ | refine z1n ?_ | refine z1o (fun hp => ?_) (fun hp => ?_) | refine z1p (fun hp => ?_) (fun hp => ?_)
        | refine z1q (fun hp => ?_) (fun hp => ?_) | refine z1r ?_ | refine z1s ?_ | refine z1t ?_ | refine z1u ?_ | refine z1v ?_ | refine z1w ?_ | refine z1x ?_ | refine z1y ?_
        | refine z1z ?_ | refine z20 ?_ | refine z21 ?_ | refine z22 ?_ | refine z23 ?_ | refine z24 ?_ | refine z25 ?_ | refine z26 ?_ | refine z27 ?_
        | refine z28 (fun hp => ?_) (fun hp => ?_) | refine z29 (fun hp => ?_) (fun hp => ?_) | refine z2a ?_ | refine z2b ?_)
      exact fin_cln rfl hQ
    | true =>
      have hlen := alikeF_len hal
      repeat' (first
        | refine wo_call rfl rfl rfl (c_great15 (a := a) (b := b) hv hw ?_)
        | refine wo_call rfl rfl rfl (c_Alike hal hv hw (by omega) ?_)
        | refine z00 ?_ | refine z01 ?_ | refine z02 ?_ | refine z03 ?_ | refine z04 ?_ | refine z05 ?_ | refine z06 ?_ | refine z07 ?_ | refine z08 ?_ | refine z09 ?_ | refine z0a ?_
        | refine z0b ?_ | refine z0c ?_ | refine z0d ?_ | refine z0e ?_ | refine z0f ?_ | refine z0g ?_ | refine z0h ?_ | refine z0i ?_ | refine z0j ?_ | refine z0k ?_ | refine z0l ?_
        | refine z0m ?_ | refine z0n ?_ | refine z0o ?_ | refine z0p ?_ | refine z0q ?_ | refine z0r ?_ | refine z0s ?_ | refine z0t ?_ | refine z0u ?_ | refine z0v ?_ | refine z0w ?_
        | refine z0x ?_ | refine z0y ?_ | refine z0z ?_ | refine z10 ?_ | refine z11 ?_ | refine z12 ?_ | refine z13 ?_ | refine z14 ?_ | refine z15 ?_ | refine z16 ?_ | refine z17 ?_
        | refine z18 ?_ | refine z19 ?_ | refine z1a ?_ | refine z1b ?_ | refine z1c ?_ | refine z1d ?_ | refine z1e ?_ | refine z1f (hk := ?_) | refine z1g ?_ | refine z1h ?_ | refine z1i ?_
        | refine z1j ?_ | refine z1k ?_ | refine z1l ?_ | refine z1m ?_ | refine z1n ?_ | refine z1o (fun hp => ?_) (fun hp => ?_) | refine z1p (fun hp => ?_) (fun hp => ?_)
        | refine z1q (fun hp => ?_) (fun hp => ?_) | refine z1r ?_ | refine z1s ?_ | refine z1t ?_ | refine z1u ?_ | refine z1v ?_ | refine z1w ?_ | refine z1x ?_ | refine z1y ?_
        | refine z1z ?_ | refine z20 ?_ | refine z21 ?_ | refine z22 ?_ | refine z23 ?_ | refine z24 ?_ | refine z25 ?_ | refine z26 ?_ | refine z27 ?_
        | refine z28 (fun hp => ?_) (fun hp => ?_) | refine z29 (fun hp => ?_) (fun hp => ?_) | refine z2a ?_ | refine z2b ?_)
      have key : ∀ (k i : Nat), i + k = f.length → (∀ (j : Nat) (h : j < f.length) (h' : j < r.length), j < i → f[j].kind ≠ 5 ∧ Near f[j] ∧ 0 ≤ r[j].adv) → ∀ (m : Mem) {R : Ex → As → Mem → List LRec → Prop},
          ((∀ (j : Nat) (h : j < f.length) (h' : j < r.length), f[j].kind ≠ 5 ∧ Near f[j] ∧ 0 ≤ r[j].adv) → ∀ m', R (.exit 0) [(1, .pimm (given15 v w a b) 0)] m' []) → (∀ m', R .ret [(2, .bool true)] m' []) →
          Wx ip i_law15_FirstWide.nt (.loop (lv [1, 3] 111) law15_FirstWide_b0) [(1, .pimm (given15 v w a b) 0), (3, .int .i64 i)] m [] R := by
        intro k
        induction k with
        | zero =>
          intro i hk hg m R hR hS
          refine wx_roundL rfl ?_
          repeat' (first
            | refine wx_exitL [1] ?_
            | refine z00 ?_ | refine z01 ?_ | refine z02 ?_ | refine z03 ?_ | refine z04 ?_ | refine z05 ?_ | refine z06 ?_ | refine z07 ?_ | refine z08 ?_ | refine z09 ?_ | refine z0a ?_
            | refine z0b ?_ | refine z0c ?_ | refine z0d ?_ | refine z0e ?_ | refine z0f ?_ | refine z0g ?_ | refine z0h ?_ | refine z0i ?_ | refine z0j ?_ | refine z0k ?_ | refine z0l ?_
            | refine z0m ?_ | refine z0n ?_ | refine z0o ?_ | refine z0p ?_ | refine z0q ?_ | refine z0r ?_ | refine z0s ?_ | refine z0t ?_ | refine z0u ?_ | refine z0v ?_ | refine z0w ?_
            | refine z0x ?_ | refine z0y ?_ | refine z0z ?_ | refine z10 ?_ | refine z11 ?_ | refine z12 ?_ | refine z13 ?_ | refine z14 ?_ | refine z15 ?_ | refine z16 ?_ | refine z17 ?_
            | refine z18 ?_ | refine z19 ?_ | refine z1a ?_ | refine z1b ?_ | refine z1c ?_ | refine z1d ?_ | refine z1e ?_ | refine z1f (hk := ?_) | refine z1g ?_ | refine z1h ?_
            | refine z1i ?_ | refine z1j ?_ | refine z1k ?_ | refine z1l ?_ | refine z1m ?_ | refine z1n ?_ | refine z1o (fun hp => ?_) (fun hp => ?_)
            | refine z1p (fun hp => ?_) (fun hp => ?_) | refine z1q (fun hp => ?_) (fun hp => ?_) | refine z1r ?_ | refine z1s ?_ | refine z1t ?_ | refine z1u ?_ | refine z1v ?_
            | refine z1w ?_ | refine z1x ?_ | refine z1y ?_ | refine z1z ?_ | refine z20 ?_ | refine z21 ?_ | refine z22 ?_ | refine z23 ?_ | refine z24 ?_ | refine z25 ?_ | refine z26 ?_
            | refine z27 ?_ | refine z28 (fun hp => ?_) (fun hp => ?_) | refine z29 (fun hp => ?_) (fun hp => ?_) | refine z2a ?_ | refine z2b ?_)
          exact hR (fun j h h' => hg j h h' (by omega)) _
        | succ k ih =>
          intro i hk hg m R hR hS
          have hlt : i < f.length := by omega
          have hlt2 : i < r.length := by omega
          refine wx_roundL rfl ?_
          by_cases c1 : f[i].kind = 5
          · repeat' (first
              | refine wo_guardET rfl c1 rfl ?_
              | refine wo_call rfl rfl rfl (c_head15 ?_)
              | refine wx_retL [2] ?_
              | refine z00 ?_ | refine z01 ?_ | refine z02 ?_ | refine z03 ?_ | refine z04 ?_ | refine z05 ?_ | refine z06 ?_ | refine z07 ?_ | refine z08 ?_ | refine z09 ?_ | refine z0a ?_
              | refine z0b ?_ | refine z0c ?_ | refine z0d ?_ | refine z0e ?_ | refine z0f ?_ | refine z0g ?_ | refine z0h ?_ | refine z0i ?_ | refine z0j ?_ | refine z0k ?_ | refine z0l ?_
              | refine z0m ?_ | refine z0n ?_ | refine z0o ?_ | refine z0p ?_ | refine z0q ?_ | refine z0r ?_ | refine z0s ?_ | refine z0t ?_ | refine z0u ?_ | refine z0v ?_ | refine z0w ?_
              | refine z0x ?_ | refine z0y ?_ | refine z0z ?_ | refine z10 ?_ | refine z11 ?_ | refine z12 ?_ | refine z13 ?_ | refine z14 ?_ | refine z15 ?_ | refine z16 ?_ | refine z17 ?_
              | refine z18 ?_ | refine z19 ?_ | refine z1a ?_ | refine z1b ?_ | refine z1c ?_ | refine z1d ?_ | refine z1e ?_ | refine z1f (hk := ?_) | refine z1g ?_ | refine z1h ?_
              | refine z1i ?_ | refine z1j ?_ | refine z1k ?_ | refine z1l ?_ | refine z1m ?_ | refine z1n ?_ | refine z1o (fun hp => ?_) (fun hp => ?_)
              | refine z1p (fun hp => ?_) (fun hp => ?_) | refine z1q (fun hp => ?_) (fun hp => ?_) | refine z1r ?_ | refine z1s ?_ | refine z1t ?_ | refine z1u ?_ | refine z1v ?_
              | refine z1w ?_ | refine z1x ?_ | refine z1y ?_ | refine z1z ?_ | refine z20 ?_ | refine z21 ?_ | refine z22 ?_ | refine z23 ?_ | refine z24 ?_ | refine z25 ?_ | refine z26 ?_
              | refine z27 ?_ | refine z28 (fun hp => ?_) (fun hp => ?_) | refine z29 (fun hp => ?_) (fun hp => ?_) | refine z2a ?_ | refine z2b ?_)
            exact hS _
          · by_cases c2 : f[i].adv < 0
            · repeat' (first
                | refine wo_guardEF rfl c1 rfl ?_
                | refine wo_guardET rfl c2 rfl ?_
                | refine wo_call rfl rfl rfl (c_head15 ?_)
                | refine wx_retL [2] ?_
                | refine z00 ?_ | refine z01 ?_ | refine z02 ?_ | refine z03 ?_ | refine z04 ?_ | refine z05 ?_ | refine z06 ?_ | refine z07 ?_ | refine z08 ?_ | refine z09 ?_ | refine z0a ?_
                | refine z0b ?_ | refine z0c ?_ | refine z0d ?_ | refine z0e ?_ | refine z0f ?_ | refine z0g ?_ | refine z0h ?_ | refine z0i ?_ | refine z0j ?_ | refine z0k ?_ | refine z0l ?_
                | refine z0m ?_ | refine z0n ?_ | refine z0o ?_ | refine z0p ?_ | refine z0q ?_ | refine z0r ?_ | refine z0s ?_ | refine z0t ?_ | refine z0u ?_ | refine z0v ?_ | refine z0w ?_
                | refine z0x ?_ | refine z0y ?_ | refine z0z ?_ | refine z10 ?_ | refine z11 ?_ | refine z12 ?_ | refine z13 ?_ | refine z14 ?_ | refine z15 ?_ | refine z16 ?_ | refine z17 ?_
                | refine z18 ?_ | refine z19 ?_ | refine z1a ?_ | refine z1b ?_ | refine z1c ?_ | refine z1d ?_ | refine z1e ?_ | refine z1f (hk := ?_) | refine z1g ?_ | refine z1h ?_
                | refine z1i ?_ | refine z1j ?_ | refine z1k ?_ | refine z1l ?_ | refine z1m ?_ | refine z1n ?_ | refine z1o (fun hp => ?_) (fun hp => ?_)
                | refine z1p (fun hp => ?_) (fun hp => ?_) | refine z1q (fun hp => ?_) (fun hp => ?_) | refine z1r ?_ | refine z1s ?_ | refine z1t ?_ | refine z1u ?_ | refine z1v ?_
                | refine z1w ?_ | refine z1x ?_ | refine z1y ?_ | refine z1z ?_ | refine z20 ?_ | refine z21 ?_ | refine z22 ?_ | refine z23 ?_ | refine z24 ?_ | refine z25 ?_ | refine z26 ?_
                | refine z27 ?_ | refine z28 (fun hp => ?_) (fun hp => ?_) | refine z29 (fun hp => ?_) (fun hp => ?_) | refine z2a ?_ | refine z2b ?_)
              exact hS _
            · by_cases c3 : 1099511627776 < f[i].adv
              · repeat' (first
                  | refine wo_guardEF rfl c1 rfl ?_
                  | refine wo_guardEF rfl c2 rfl ?_
                  | refine wo_guardET rfl c3 rfl ?_
                  | refine wo_call rfl rfl rfl (c_head15 ?_)
                  | refine wx_retL [2] ?_
                  | refine z00 ?_ | refine z01 ?_ | refine z02 ?_ | refine z03 ?_ | refine z04 ?_ | refine z05 ?_ | refine z06 ?_ | refine z07 ?_ | refine z08 ?_ | refine z09 ?_
                  | refine z0a ?_ | refine z0b ?_ | refine z0c ?_ | refine z0d ?_ | refine z0e ?_ | refine z0f ?_ | refine z0g ?_ | refine z0h ?_ | refine z0i ?_ | refine z0j ?_
                  | refine z0k ?_ | refine z0l ?_ | refine z0m ?_ | refine z0n ?_ | refine z0o ?_ | refine z0p ?_ | refine z0q ?_ | refine z0r ?_ | refine z0s ?_ | refine z0t ?_
                  | refine z0u ?_ | refine z0v ?_ | refine z0w ?_ | refine z0x ?_ | refine z0y ?_ | refine z0z ?_ | refine z10 ?_ | refine z11 ?_ | refine z12 ?_ | refine z13 ?_
                  | refine z14 ?_ | refine z15 ?_ | refine z16 ?_ | refine z17 ?_ | refine z18 ?_ | refine z19 ?_ | refine z1a ?_ | refine z1b ?_ | refine z1c ?_ | refine z1d ?_
                  | refine z1e ?_ | refine z1f (hk := ?_) | refine z1g ?_ | refine z1h ?_ | refine z1i ?_ | refine z1j ?_ | refine z1k ?_ | refine z1l ?_ | refine z1m ?_ | refine z1n ?_
                  | refine z1o (fun hp => ?_) (fun hp => ?_) | refine z1p (fun hp => ?_) (fun hp => ?_) | refine z1q (fun hp => ?_) (fun hp => ?_) | refine z1r ?_ | refine z1s ?_
                  | refine z1t ?_ | refine z1u ?_ | refine z1v ?_ | refine z1w ?_ | refine z1x ?_ | refine z1y ?_ | refine z1z ?_ | refine z20 ?_ | refine z21 ?_ | refine z22 ?_
                  | refine z23 ?_ | refine z24 ?_ | refine z25 ?_ | refine z26 ?_ | refine z27 ?_ | refine z28 (fun hp => ?_) (fun hp => ?_) | refine z29 (fun hp => ?_) (fun hp => ?_)
                  | refine z2a ?_ | refine z2b ?_)
                exact hS _
              · by_cases c4 : r[i].adv < 0
                · repeat' (first
                    | refine wo_guardEF rfl c1 rfl ?_
                    | refine wo_guardEF rfl c2 rfl ?_
                    | refine wo_guardEF rfl c3 rfl ?_
                    | refine wx_ifDT rfl c4 ?_
                    | refine wo_call rfl rfl rfl (c_head15 ?_)
                    | refine wx_retL [2] ?_
                    | refine z00 ?_ | refine z01 ?_ | refine z02 ?_ | refine z03 ?_ | refine z04 ?_ | refine z05 ?_ | refine z06 ?_ | refine z07 ?_ | refine z08 ?_ | refine z09 ?_
                    | refine z0a ?_ | refine z0b ?_ | refine z0c ?_ | refine z0d ?_ | refine z0e ?_ | refine z0f ?_ | refine z0g ?_ | refine z0h ?_ | refine z0i ?_ | refine z0j ?_
                    | refine z0k ?_ | refine z0l ?_ | refine z0m ?_ | refine z0n ?_ | refine z0o ?_ | refine z0p ?_ | refine z0q ?_ | refine z0r ?_ | refine z0s ?_ | refine z0t ?_
                    | refine z0u ?_ | refine z0v ?_ | refine z0w ?_ | refine z0x ?_ | refine z0y ?_ | refine z0z ?_ | refine z10 ?_ | refine z11 ?_ | refine z12 ?_ | refine z13 ?_
                    | refine z14 ?_ | refine z15 ?_ | refine z16 ?_ | refine z17 ?_ | refine z18 ?_ | refine z19 ?_ | refine z1a ?_ | refine z1b ?_ | refine z1c ?_ | refine z1d ?_
                    | refine z1e ?_ | refine z1f (hk := ?_) | refine z1g ?_ | refine z1h ?_ | refine z1i ?_ | refine z1j ?_ | refine z1k ?_ | refine z1l ?_ | refine z1m ?_ | refine z1n ?_
                    | refine z1o (fun hp => ?_) (fun hp => ?_) | refine z1p (fun hp => ?_) (fun hp => ?_) | refine z1q (fun hp => ?_) (fun hp => ?_) | refine z1r ?_ | refine z1s ?_
                    | refine z1t ?_ | refine z1u ?_ | refine z1v ?_ | refine z1w ?_ | refine z1x ?_ | refine z1y ?_ | refine z1z ?_ | refine z20 ?_ | refine z21 ?_ | refine z22 ?_
                    | refine z23 ?_ | refine z24 ?_ | refine z25 ?_ | refine z26 ?_ | refine z27 ?_ | refine z28 (fun hp => ?_) (fun hp => ?_) | refine z29 (fun hp => ?_) (fun hp => ?_)
                    | refine z2a ?_ | refine z2b ?_)
                  exact hS _
                · repeat' (first
                    | refine wo_guardEF rfl c1 rfl ?_
                    | refine wo_guardEF rfl c2 rfl ?_
                    | refine wo_guardEF rfl c3 rfl ?_
                    | refine wx_ifDF rfl c4 ?_
                    | refine z00 ?_ | refine z01 ?_ | refine z02 ?_ | refine z03 ?_ | refine z04 ?_ | refine z05 ?_ | refine z06 ?_ | refine z07 ?_ | refine z08 ?_ | refine z09 ?_
                    | refine z0a ?_ | refine z0b ?_ | refine z0c ?_ | refine z0d ?_ | refine z0e ?_ | refine z0f ?_ | refine z0g ?_ | refine z0h ?_ | refine z0i ?_ | refine z0j ?_
                    | refine z0k ?_ | refine z0l ?_ | refine z0m ?_ | refine z0n ?_ | refine z0o ?_ | refine z0p ?_ | refine z0q ?_ | refine z0r ?_ | refine z0s ?_ | refine z0t ?_
                    | refine z0u ?_ | refine z0v ?_ | refine z0w ?_ | refine z0x ?_ | refine z0y ?_ | refine z0z ?_ | refine z10 ?_ | refine z11 ?_ | refine z12 ?_ | refine z13 ?_
                    | refine z14 ?_ | refine z15 ?_ | refine z16 ?_ | refine z17 ?_ | refine z18 ?_ | refine z19 ?_ | refine z1a ?_ | refine z1b ?_ | refine z1c ?_ | refine z1d ?_
                    | refine z1e ?_ | refine z1f (hk := ?_) | refine z1g ?_ | refine z1h ?_ | refine z1i ?_ | refine z1j ?_ | refine z1k ?_ | refine z1l ?_ | refine z1m ?_ | refine z1n ?_
                    | refine z1o (fun hp => ?_) (fun hp => ?_) | refine z1p (fun hp => ?_) (fun hp => ?_) | refine z1q (fun hp => ?_) (fun hp => ?_) | refine z1r ?_ | refine z1s ?_
                    | refine z1t ?_ | refine z1u ?_ | refine z1v ?_ | refine z1w ?_ | refine z1x ?_ | refine z1y ?_ | refine z1z ?_ | refine z20 ?_ | refine z21 ?_ | refine z22 ?_
                    | refine z23 ?_ | refine z24 ?_ | refine z25 ?_ | refine z26 ?_ | refine z27 ?_ | refine z28 (fun hp => ?_) (fun hp => ?_) | refine z29 (fun hp => ?_) (fun hp => ?_)
                    | refine z2a ?_ | refine z2b ?_)
                  refine wx_loopL ?_
                  refine ih (i + 1) (by omega) ?_ _ hR hS
                  intro j h h' hj
                  by_cases e : j = i
                  · subst e
                    exact ⟨c1, ⟨by omega, by unfold far; omega⟩, by omega⟩
                  · exact hg j h h' (by omega)
      refine wx_loopL ?_
      refine key f.length 0 (by omega) (fun j h h' hj => by omega) _ ?_ ?_
      · intro hg m'
        have hn : ∀ c ∈ f, Near c := by
          intro c hc
          obtain ⟨j, hj, rfl⟩ := List.mem_iff_getElem.1 hc
          exact (hg j hj (by omega)).2.1
        have hk5 : ∀ c ∈ f, c.kind ≠ 5 := by
          intro c hc
          obtain ⟨j, hj, rfl⟩ := List.mem_iff_getElem.1 hc
          exact (hg j hj (by omega)).1
        have hr0 : ∀ c ∈ r, 0 ≤ c.adv := by
          intro c hc
          obtain ⟨j, hj, rfl⟩ := List.mem_iff_getElem.1 hc
          exact (hg j (by omega) hj).2.2
        clear key
        repeat' (first
          | refine wo_call rfl rfl rfl (c_firstLines (a := ⟨1125899906842624, 0⟩) (b := ⟨0, 0⟩) hv hw (by omega) (by omega) hc1 hc2 (show I64 0 by decide) (show I64 0 by decide) ?_)
          | refine z00 ?_ | refine z01 ?_ | refine z02 ?_ | refine z03 ?_ | refine z04 ?_ | refine z05 ?_ | refine z06 ?_ | refine z07 ?_ | refine z08 ?_ | refine z09 ?_ | refine z0a ?_
          | refine z0b ?_ | refine z0c ?_ | refine z0d ?_ | refine z0e ?_ | refine z0f ?_ | refine z0g ?_ | refine z0h ?_ | refine z0i ?_ | refine z0j ?_ | refine z0k ?_ | refine z0l ?_
          | refine z0m ?_ | refine z0n ?_ | refine z0o ?_ | refine z0p ?_ | refine z0q ?_ | refine z0r ?_ | refine z0s ?_ | refine z0t ?_ | refine z0u ?_ | refine z0v ?_ | refine z0w ?_
          | refine z0x ?_ | refine z0y ?_ | refine z0z ?_ | refine z10 ?_ | refine z11 ?_ | refine z12 ?_ | refine z13 ?_ | refine z14 ?_ | refine z15 ?_ | refine z16 ?_ | refine z17 ?_
          | refine z18 ?_ | refine z19 ?_ | refine z1a ?_ | refine z1b ?_ | refine z1c ?_ | refine z1d ?_ | refine z1e ?_ | refine z1f (hk := ?_) | refine z1g ?_ | refine z1h ?_
          | refine z1i ?_ | refine z1j ?_ | refine z1k ?_ | refine z1l ?_ | refine z1m ?_ | refine z1n ?_ | refine z1o (fun hp => ?_) (fun hp => ?_) | refine z1p (fun hp => ?_) (fun hp => ?_)
          | refine z1q (fun hp => ?_) (fun hp => ?_) | refine z1r ?_ | refine z1s ?_ | refine z1t ?_ | refine z1u ?_ | refine z1v ?_ | refine z1w ?_ | refine z1x ?_ | refine z1y ?_
          | refine z1z ?_ | refine z20 ?_ | refine z21 ?_ | refine z22 ?_ | refine z23 ?_ | refine z24 ?_ | refine z25 ?_ | refine z26 ?_ | refine z27 ?_
          | refine z28 (fun hp => ?_) (fun hp => ?_) | refine z29 (fun hp => ?_) (fun hp => ?_) | refine z2a ?_ | refine z2b ?_)
        rw [first_wide hal hn hk5 hr0 hb1]
        intro u hu
        have hu' : Sl KLine [⟨0, f.length, false⟩] u := hu
        clear hu
        have hcw := cells_wide hal
        repeat' (first
          | refine wo_call rfl rfl rfl (c_Cells hv hw hu' (by omega) (by omega) (by simp) (fun h => absurd h (by rw [hcw]; simp)) ?_)
          | refine z00 ?_ | refine z01 ?_ | refine z02 ?_ | refine z03 ?_ | refine z04 ?_ | refine z05 ?_ | refine z06 ?_ | refine z07 ?_ | refine z08 ?_ | refine z09 ?_ | refine z0a ?_
          | refine z0b ?_ | refine z0c ?_ | refine z0d ?_ | refine z0e ?_ | refine z0f ?_ | refine z0g ?_ | refine z0h ?_ | refine z0i ?_ | refine z0j ?_ | refine z0k ?_ | refine z0l ?_
          | refine z0m ?_ | refine z0n ?_ | refine z0o ?_ | refine z0p ?_ | refine z0q ?_ | refine z0r ?_ | refine z0s ?_ | refine z0t ?_ | refine z0u ?_ | refine z0v ?_ | refine z0w ?_
          | refine z0x ?_ | refine z0y ?_ | refine z0z ?_ | refine z10 ?_ | refine z11 ?_ | refine z12 ?_ | refine z13 ?_ | refine z14 ?_ | refine z15 ?_ | refine z16 ?_ | refine z17 ?_
          | refine z18 ?_ | refine z19 ?_ | refine z1a ?_ | refine z1b ?_ | refine z1c ?_ | refine z1d ?_ | refine z1e ?_ | refine z1f (hk := ?_) | refine z1g ?_ | refine z1h ?_
          | refine z1i ?_ | refine z1j ?_ | refine z1k ?_ | refine z1l ?_ | refine z1m ?_ | refine z1n ?_ | refine z1o (fun hp => ?_) (fun hp => ?_) | refine z1p (fun hp => ?_) (fun hp => ?_)
          | refine z1q (fun hp => ?_) (fun hp => ?_) | refine z1r ?_ | refine z1s ?_ | refine z1t ?_ | refine z1u ?_ | refine z1v ?_ | refine z1w ?_ | refine z1x ?_ | refine z1y ?_
          | refine z1z ?_ | refine z20 ?_ | refine z21 ?_ | refine z22 ?_ | refine z23 ?_ | refine z24 ?_ | refine z25 ?_ | refine z26 ?_ | refine z27 ?_
          | refine z28 (fun hp => ?_) (fun hp => ?_) | refine z29 (fun hp => ?_) (fun hp => ?_) | refine z2a ?_ | refine z2b ?_)
        rw [hcw]
        intro out hout vs z hz hs
        simp only [Option.some.injEq] at hout
        subst hout
        cases hs with | cons hx ht =>
        cases ht with | nil =>
        rename_i x
        obtain ⟨kc, rfl⟩ : ∃ kc, z = .lit [x] 1 kc := by
          rcases hz with ⟨_, h⟩ | h
          · cases h
          · exact h
        have hul : lenM u = some 1 := hu'.len
        have h1 : ((1 : Nat) : Int) = 1 := rfl
        repeat' (first
          | refine wo_len (n := 1) rfl hul rfl ?_
          | refine wo_iaddrS rfl hu' rfl ⟨by omega, by simp⟩ rfl rfl ?_
          | refine wo_eqa rfl rfl (eq_lineE (x := ⟨0, f.length, false⟩) (y := ⟨0, f.length, false⟩) (decide_eq_true rfl)) rfl ?_
          | refine wo_iaddrl rfl rfl (by omega) (by decide) rfl rfl ?_
          | refine wo_call rfl rfl rfl (c_Same11 (decide_eq_true rfl) hx hv (by omega) ?_)
          | refine wo_call rfl rfl rfl (c_head15 ?_)
          | refine z00 ?_ | refine z01 ?_ | refine z02 ?_ | refine z03 ?_ | refine z04 ?_ | refine z05 ?_ | refine z06 ?_ | refine z07 ?_ | refine z08 ?_ | refine z09 ?_ | refine z0a ?_
          | refine z0b ?_ | refine z0c ?_ | refine z0d ?_ | refine z0e ?_ | refine z0f ?_ | refine z0g ?_ | refine z0h ?_ | refine z0i ?_ | refine z0j ?_ | refine z0k ?_ | refine z0l ?_
          | refine z0m ?_ | refine z0n ?_ | refine z0o ?_ | refine z0p ?_ | refine z0q ?_ | refine z0r ?_ | refine z0s ?_ | refine z0t ?_ | refine z0u ?_ | refine z0v ?_ | refine z0w ?_
          | refine z0x ?_ | refine z0y ?_ | refine z0z ?_ | refine z10 ?_ | refine z11 ?_ | refine z12 ?_ | refine z13 ?_ | refine z14 ?_ | refine z15 ?_ | refine z16 ?_ | refine z17 ?_
          | refine z18 ?_ | refine z19 ?_ | refine z1a ?_ | refine z1b ?_ | refine z1c ?_ | refine z1d ?_ | refine z1e ?_ | refine z1f (hk := ?_) | refine z1g ?_ | refine z1h ?_
          | refine z1i ?_ | refine z1j ?_ | refine z1k ?_ | refine z1l ?_ | refine z1m ?_ | refine z1n ?_ | refine z1o (fun hp => ?_) (fun hp => ?_) | refine z1p (fun hp => ?_) (fun hp => ?_)
          | refine z1q (fun hp => ?_) (fun hp => ?_) | refine z1r ?_ | refine z1s ?_ | refine z1t ?_ | refine z1u ?_ | refine z1v ?_ | refine z1w ?_ | refine z1x ?_ | refine z1y ?_
          | refine z1z ?_ | refine z20 ?_ | refine z21 ?_ | refine z22 ?_ | refine z23 ?_ | refine z24 ?_ | refine z25 ?_ | refine z26 ?_ | refine z27 ?_
          | refine z28 (fun hp => ?_) (fun hp => ?_) | refine z29 (fun hp => ?_) (fun hp => ?_) | refine z2a ?_ | refine z2b ?_)
        exact fin_cln rfl hQ
      · intro m'
        repeat' (first | refine then_r ?_ | refine block_r ?_)
        refine end_r rfl ?_
        exact fin_cln rfl hQ

end
end Go.Proofs.Ytnekgoanadbmmaa
