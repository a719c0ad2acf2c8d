/-
Pens: tabs.Pens, tabs.End.
-/
import Derived.Test.YtnekgoanadbmmaaCb
namespace Go.Proofs.Ytnekgoanadbmmaa
open Go.Mini
set_option linter.unusedSimpArgs false
set_option linter.unusedVariables false
set_option maxHeartbeats 4000000

section
variable {m : Mem} {ls : List LRec} {Q : MV → Mem → List LRec → Prop}

def badTab (c : Cell) : Bool := decide (c.kind = 4 ∧ c.adv < 0)

/-- The pens; an error. -/
def pensL (l : List Cell) (roles : List Int) (x : Int) : List Int × Int :=
  if l.any badTab then ([], 2)
  else if (fits x).2 ≠ 0 then ([], (fits x).2)
  else match (pensF roles 0 l x).find? (fun p => decide (p.2 ≠ 0)) with
    | some p => ([], p.2)
    | none => (x :: (pensF roles 0 l x).map (·.1), 0)

def nilBlk : Blk := ⟨[.nils], 0, true⟩
def intBlk (n : Int) : Blk := ⟨[.int .i64 n], 0, true⟩

theorem pens_tabs {l : List Cell} {v : MV} (hv : Sl KCell l v) (hl : l.length ≤ 1000000) {v1 v2 : MV} {R : Ex → As → Mem → List LRec → Prop}
    (h1 : l.any badTab = true → ∀ m : Mem, m[0]? = some nilBlk → m[1]? = some (intBlk 2) → R .ret [(6, .ptr 0 0 0), (7, .ptr 1 0 0)] m [])
    (h2 : l.any badTab = false → ∀ m : Mem, m[0]? = some nilBlk → m[1]? = some (intBlk 0) → R (.exit 0) [(0, v), (1, v1), (2, v2), (6, .ptr 0 0 0), (7, .ptr 1 0 0)] m []) :
    ∀ (k i : Nat) (m : Mem), i + k = l.length → (l.take i).any badTab = false → m[0]? = some nilBlk → m[1]? = some (intBlk 0) →
      Wx ip i_tabs_Pens.nt (.loop (lv [0, 1, 2, 6, 7, 15, 16, 17] 55) tabs_Pens_b0) [(0, v), (1, v1), (2, v2), (6, .ptr 0 0 0), (7, .ptr 1 0 0), (15, v), (16, .int .i64 l.length), (17, .int .i64 i)] m [] R := by
  intro k
  induction k with
  | zero =>
    intro i m hk hb hm0 hm1
    refine wx_roundL rfl ?_
    repeat' (first
      | refine wx_exitL [0, 1, 2, 6, 7] ?_
      | refine z00 ?_ | refine z01 ?_ | refine z02 ?_ | refine z04 ?_ | refine z05 ?_ | refine z08 ?_ | refine zp ?_ | refine z0g ?_ | refine z0h ?_ | refine z0j ?_ | refine z0k ?_
      | refine z0l ?_ | refine z0n ?_ | refine z0o ?_ | refine z0p ?_ | refine z0q ?_ | refine z0r ?_ | refine z0s ?_ | refine z0v ?_ | refine z0z ?_ | refine z12 ?_ | refine z14 ?_
      | refine z15 ?_ | refine z1e ?_ | refine z1f (hk := ?_) | refine z1i ?_ | refine z1j ?_ | refine z1k ?_ | refine z1l ?_ | refine z1m ?_ | refine z1n ?_
      | refine z1o (fun hp => ?_) (fun hp => ?_) | refine z1p (fun hp => ?_) (fun hp => ?_) | refine z1q (fun hp => ?_) (fun hp => ?_) | refine z1r ?_ | refine z1s ?_ | refine z1t ?_
      | refine z1u ?_ | refine z1v ?_ | refine z1w ?_ | refine z1x ?_ | refine z1y ?_ | refine z1z ?_ | refine z20 ?_ | refine z21 ?_ | refine z22 ?_ | refine z23 ?_ | refine z24 ?_
      | refine z25 ?_ | refine z26 ?_ | refine z27 ?_ | refine z28 (fun hp => ?_) (fun hp => ?_) | refine z29 (fun hp => ?_) (fun hp => ?_) | refine z2a ?_ | refine z2b ?_)
    exact h2 (by rw [List.take_of_length_le (by omega)] at hb; exact hb) m hm0 hm1
  | succ k ih =>
    intro i m hk hb hm0 hm1
    have hlt : i < l.length := by omega
    have hany : (l.take (i + 1)).any badTab = badTab l[i] := by
      rw [List.take_succ_eq_append_getElem hlt, List.any_append, hb]; simp
    refine wx_roundL rfl ?_
    by_cases hbt : l[i].kind = 4 ∧ l[i].adv < 0
    · have hall : l.any badTab = true := by
        rw [List.any_eq_true]
        exact ⟨l[i], List.getElem_mem hlt, by simp [badTab, hbt]⟩
      have ha := hbt.1
      have hb2 := hbt.2
      have g0 := fun k : Blk => get_app hm0 k
      have g1 := fun k : Blk => get_app hm1 k
      repeat' (first
        | refine wx_retL [6, 7] ?_
        | refine wo_guardDT rfl ha rfl ?_
        | refine wx_ifDT rfl hb2 ?_
        | refine wo_store rfl rfl rfl (g0 _) (by rfl) (by rfl) (by decide) rfl ?_
        | refine wo_store rfl rfl rfl (get_set (g1 _) (by decide) _) (by rfl) (by rfl) (by decide) rfl ?_
        | refine z00 ?_ | refine z01 ?_ | refine z02 ?_ | refine z04 ?_ | refine z05 ?_ | refine z08 ?_ | refine zp ?_ | refine z0g ?_ | refine z0h ?_ | refine z0j ?_ | refine z0k ?_
        | refine z0l ?_ | refine z0n ?_ | refine z0o ?_ | refine z0p ?_ | refine z0q ?_ | refine z0r ?_ | refine z0s ?_ | refine z0v ?_ | refine z0z ?_ | refine z12 ?_ | refine z14 ?_
        | refine z15 ?_ | refine z1e ?_ | refine z1f (hk := ?_) | refine z1i ?_ | refine z1j ?_ | refine z1k ?_ | refine z1l ?_ | refine z1m ?_ | refine z1n ?_
        | refine z1o (fun hp => ?_) (fun hp => ?_) | refine z1p (fun hp => ?_) (fun hp => ?_) | refine z1q (fun hp => ?_) (fun hp => ?_) | refine z1r ?_ | refine z1s ?_ | refine z1t ?_
        | refine z1u ?_ | refine z1v ?_ | refine z1w ?_ | refine z1x ?_ | refine z1y ?_ | refine z1z ?_ | refine z20 ?_ | refine z21 ?_ | refine z22 ?_ | refine z23 ?_ | refine z24 ?_
        | refine z25 ?_ | refine z26 ?_ | refine z27 ?_ | refine z28 (fun hp => ?_) (fun hp => ?_) | refine z29 (fun hp => ?_) (fun hp => ?_) | refine z2a ?_ | refine z2b ?_)
      refine h1 hall _ ?_ ?_
      · rw [List.getElem?_set_ne (by decide), get_set_self (g0 _)]; rfl
      · rw [get_set_self (get_set (g1 _) (by decide) _)]; rfl
    · have hbf : badTab l[i] = false := by simp only [badTab, decide_eq_false_iff_not]; exact hbt
      have fin : ∀ c : Blk, Wx ip i_tabs_Pens.nt (.loop (lv [0, 1, 2, 6, 7, 15, 16, 17] 55) tabs_Pens_b0) [(0, v), (1, v1), (2, v2), (6, .ptr 0 0 0), (7, .ptr 1 0 0), (15, v), (16, .int .i64 l.length), (17, .int .i64 ((i : Int) + 1))] (m ++ [c]) [] R :=
        fun c => ih (i + 1) _ (by omega) (by rw [hany, hbf]) (get_app hm0 c) (get_app hm1 c)
      by_cases ha : l[i].kind = 4
      · have hb2 : ¬ l[i].adv < 0 := fun c => hbt ⟨ha, c⟩
        repeat' (first
          | refine wo_guardDT rfl ha rfl ?_
          | refine wx_ifDF rfl hb2 ?_
          | refine z00 ?_ | refine z01 ?_ | refine z02 ?_ | refine z04 ?_ | refine z05 ?_ | refine z08 ?_ | refine zp ?_ | refine z0g ?_ | refine z0h ?_ | refine z0j ?_ | refine z0k ?_
          | refine z0l ?_ | refine z0n ?_ | refine z0o ?_ | refine z0p ?_ | refine z0q ?_ | refine z0r ?_ | refine z0s ?_ | refine z0v ?_ | refine z0z ?_ | refine z12 ?_ | refine z14 ?_
          | refine z15 ?_ | refine z1e ?_ | refine z1f (hk := ?_) | refine z1i ?_ | refine z1j ?_ | refine z1k ?_ | refine z1l ?_ | refine z1m ?_ | refine z1n ?_
          | refine z1o (fun hp => ?_) (fun hp => ?_) | refine z1p (fun hp => ?_) (fun hp => ?_) | refine z1q (fun hp => ?_) (fun hp => ?_) | refine z1r ?_ | refine z1s ?_ | refine z1t ?_
          | refine z1u ?_ | refine z1v ?_ | refine z1w ?_ | refine z1x ?_ | refine z1y ?_ | refine z1z ?_ | refine z20 ?_ | refine z21 ?_ | refine z22 ?_ | refine z23 ?_ | refine z24 ?_
          | refine z25 ?_ | refine z26 ?_ | refine z27 ?_ | refine z28 (fun hp => ?_) (fun hp => ?_) | refine z29 (fun hp => ?_) (fun hp => ?_) | refine z2a ?_ | refine z2b ?_)
        exact wx_loopL (fin _)
      · repeat' (first
          | refine wo_guardDF rfl ha rfl ?_
          | refine z00 ?_ | refine z01 ?_ | refine z02 ?_ | refine z04 ?_ | refine z05 ?_ | refine z08 ?_ | refine zp ?_ | refine z0g ?_ | refine z0h ?_ | refine z0j ?_ | refine z0k ?_
          | refine z0l ?_ | refine z0n ?_ | refine z0o ?_ | refine z0p ?_ | refine z0q ?_ | refine z0r ?_ | refine z0s ?_ | refine z0v ?_ | refine z0z ?_ | refine z12 ?_ | refine z14 ?_
          | refine z15 ?_ | refine z1e ?_ | refine z1f (hk := ?_) | refine z1i ?_ | refine z1j ?_ | refine z1k ?_ | refine z1l ?_ | refine z1m ?_ | refine z1n ?_
          | refine z1o (fun hp => ?_) (fun hp => ?_) | refine z1p (fun hp => ?_) (fun hp => ?_) | refine z1q (fun hp => ?_) (fun hp => ?_) | refine z1r ?_ | refine z1s ?_ | refine z1t ?_
          | refine z1u ?_ | refine z1v ?_ | refine z1w ?_ | refine z1x ?_ | refine z1y ?_ | refine z1z ?_ | refine z20 ?_ | refine z21 ?_ | refine z22 ?_ | refine z23 ?_ | refine z24 ?_
          | refine z25 ?_ | refine z26 ?_ | refine z27 ?_ | refine z28 (fun hp => ?_) (fun hp => ?_) | refine z29 (fun hp => ?_) (fun hp => ?_) | refine z2a ?_ | refine z2b ?_)
        exact wx_loopL (fin _)

theorem c_Pens {l : List Cell} {roles : List Int} {v w : MV} {x : Int} (hv : Sl KCell l v) (hw : Sl KU8 roles w) (hl : l.length ≤ 1000000) (hc : ∀ c ∈ l, c.ok) (hx : I64 x)
    (hQ : ∀ u, Sl KI64 (pensL l roles x).1 u → Q (.tup [u, .int .i64 (pensL l roles x).2]) m ls) : Wc ip f_tabs_Pens [v, w, .int .i64 x] m ls Q := by
  refine wc_fn1 rfl fn_tabs_Pens rfl (by simp [deepVs, hv.deep, hw.deep, deepV]) rfl ?_
  repeat' (first
    | refine z00 ?_ | refine z01 ?_ | refine z02 ?_ | refine z04 ?_ | refine z05 ?_ | refine z08 ?_ | refine zp ?_ | refine z0g ?_ | refine z0h ?_ | refine z0j ?_ | refine z0k ?_
    | refine z0l ?_ | refine z0n ?_ | refine z0o ?_ | refine z0p ?_ | refine z0q ?_ | refine z0r ?_ | refine z0s ?_ | refine z0v ?_ | refine z0z ?_ | refine z12 ?_ | refine z14 ?_
    | refine z15 ?_ | refine z1e ?_ | refine z1f (hk := ?_) | refine z1i ?_ | refine z1j ?_ | refine z1k ?_ | refine z1l ?_ | refine z1m ?_ | refine z1n ?_
    | refine z1o (fun hp => ?_) (fun hp => ?_) | refine z1p (fun hp => ?_) (fun hp => ?_) | refine z1q (fun hp => ?_) (fun hp => ?_) | refine z1r ?_ | refine z1s ?_ | refine z1t ?_
    | refine z1u ?_ | refine z1v ?_ | refine z1w ?_ | refine z1x ?_ | refine z1y ?_ | refine z1z ?_ | refine z20 ?_ | refine z21 ?_ | refine z22 ?_ | refine z23 ?_ | refine z24 ?_
    | refine z25 ?_ | refine z26 ?_ | refine z27 ?_ | refine z28 (fun hp => ?_) (fun hp => ?_) | refine z29 (fun hp => ?_) (fun hp => ?_) | refine z2a ?_ | refine z2b ?_)
  refine wx_loopL ?_
  refine pens_tabs hv hl ?_ ?_ l.length 0 _ (by omega) rfl rfl rfl
  · intro hb m hm0 hm1
    have e : pensL l roles x = ([], 2) := by unfold pensL; rw [if_pos hb]
    rw [e] at hQ
    repeat' (first | refine then_r ?_ | refine block_r ?_)
    refine end_r (res_cells2 rfl rfl hm0 hm1) ?_
    exact fin1_deep rfl (hQ _ .nil)
  · intro hb m hm0 hm1
    by_cases he : (fits x).2 ≠ 0
    · have e : pensL l roles x = ([], (fits x).2) := by unfold pensL; rw [if_neg (by simp [hb]), if_pos he]
      rw [e] at hQ
      repeat' (first
        | refine wo_call rfl rfl rfl (c_sum1 hx ?_)
        | refine wx_ifDT rfl he ?_
        | refine wx_retL [6, 7] ?_
        | refine z00 ?_ | refine z01 ?_ | refine z02 ?_ | refine z04 ?_ | refine z05 ?_ | refine z08 ?_ | refine zp ?_ | refine z0g ?_ | refine z0h ?_ | refine z0j ?_ | refine z0k ?_
        | refine z0l ?_ | refine z0n ?_ | refine z0o ?_ | refine z0p ?_ | refine z0q ?_ | refine z0r ?_ | refine z0s ?_ | refine z0v ?_ | refine z0z ?_ | refine z12 ?_ | refine z14 ?_
        | refine z15 ?_ | refine z1e ?_ | refine z1f (hk := ?_) | refine z1i ?_ | refine z1j ?_ | refine z1k ?_ | refine z1l ?_ | refine z1m ?_ | refine z1n ?_
        | refine z1o (fun hp => ?_) (fun hp => ?_) | refine z1p (fun hp => ?_) (fun hp => ?_) | refine z1q (fun hp => ?_) (fun hp => ?_) | refine z1r ?_ | refine z1s ?_ | refine z1t ?_
        | refine z1u ?_ | refine z1v ?_ | refine z1w ?_ | refine z1x ?_ | refine z1y ?_ | refine z1z ?_ | refine z20 ?_ | refine z21 ?_ | refine z22 ?_ | refine z23 ?_ | refine z24 ?_
        | refine z25 ?_ | refine z26 ?_ | refine z27 ?_ | refine z28 (fun hp => ?_) (fun hp => ?_) | refine z29 (fun hp => ?_) (fun hp => ?_) | refine z2a ?_ | refine z2b ?_)
      refine end_r (res_cells2 rfl rfl (get_set (get_set_self hm0 _) (by decide) _) (get_set_self (get_set hm1 (by decide) _) _)) ?_
      exact fin1_deep rfl (hQ _ .nil)
    · repeat' (first
        | refine wo_call rfl rfl rfl (c_sum1 hx ?_)
        | refine wx_ifDF rfl he ?_
        | refine wo_call rfl rfl rfl (c_pens hv hw ?_)
        | refine z00 ?_ | refine z01 ?_ | refine z02 ?_ | refine z04 ?_ | refine z05 ?_ | refine z08 ?_ | refine zp ?_ | refine z0g ?_ | refine z0h ?_ | refine z0j ?_ | refine z0k ?_
        | refine z0l ?_ | refine z0n ?_ | refine z0o ?_ | refine z0p ?_ | refine z0q ?_ | refine z0r ?_ | refine z0s ?_ | refine z0v ?_ | refine z0z ?_ | refine z12 ?_ | refine z14 ?_
        | refine z15 ?_ | refine z1e ?_ | refine z1f (hk := ?_) | refine z1i ?_ | refine z1j ?_ | refine z1k ?_ | refine z1l ?_ | refine z1m ?_ | refine z1n ?_
        | refine z1o (fun hp => ?_) (fun hp => ?_) | refine z1p (fun hp => ?_) (fun hp => ?_) | refine z1q (fun hp => ?_) (fun hp => ?_) | refine z1r ?_ | refine z1s ?_ | refine z1t ?_
        | refine z1u ?_ | refine z1v ?_ | refine z1w ?_ | refine z1x ?_ | refine z1y ?_ | refine z1z ?_ | refine z20 ?_ | refine z21 ?_ | refine z22 ?_ | refine z23 ?_ | refine z24 ?_
        | refine z25 ?_ | refine z26 ?_ | refine z27 ?_ | refine z28 (fun hp => ?_) (fun hp => ?_) | refine z29 (fun hp => ?_) (fun hp => ?_) | refine z2a ?_ | refine z2b ?_)
      have hlen : 2 ≤ m.length := by have := get_lt hm1; omega
      have hb1 : m.length ≠ 0 := by omega
      have hb2 : m.length ≠ 1 := by omega
      have hseq : (pensF roles 0 l x).length ≤ l.length := by
        have : ∀ (l : List Cell) (i : Nat) (x : Int), (pensF roles i l x).length ≤ l.length := by
          intro l
          induction l with
          | nil => intro i x; simp [pensF]
          | cons c cs ih =>
            intro i x
            simp only [pensF, List.length_cons]
            split
            · simp
            · have := ih (i + 1) (penF c (roles.getD i 0) x).1; omega
        exact this l 0 x
      refine wx_over (K := fun i m' => m'[0]? = some nilBlk ∧ m'[1]? = some (intBlk 0) ∧ (∃ u d, m'[m.length]? = some ⟨[u], 0, d⟩ ∧ App KI64 (m.length + 1) (x :: ((pensF roles 0 l x).take i).map (·.1)) m' u) ∧ ((pensF roles 0 l x).take i).all (fun p => decide (p.2 = 0)) = true)
        (E := fun e m' => e = .ret ∧ m'[0]? = some nilBlk ∧ ∃ p, (pensF roles 0 l x).find? (fun p => decide (p.2 ≠ 0)) = some p ∧ m'[1]? = some (intBlk p.2))
        rfl (iter_pens hv hw hl hc hx) rfl ?_ ?_ ?_ ?_ ?_ ?_
      · intro y hy
        obtain ⟨p, _, rfl⟩ := List.mem_map.1 hy
        rfl
      · exact ⟨get_app hm0 _, get_app hm1 _, ⟨_, _, get_last _ _, .inr (.inl rfl)⟩, rfl⟩
      · rintro i m1 k ⟨h1, h2, ⟨u, d, h3, h4⟩, h5⟩
        exact ⟨get_app h1 k, get_app h2 k, ⟨u, d, get_app h3 k, h4.push k⟩, h5⟩
      · rintro i y m1 ls1 hy ⟨h1, h2, ⟨u, d, h3, h4⟩, h5⟩
        obtain ⟨p, hp, rfl⟩ : ∃ p, (pensF roles 0 l x)[i]? = some p ∧ y = pairMv p := by
          rw [List.getElem?_map] at hy
          cases hq : (pensF roles 0 l x)[i]? with
          | none => rw [hq] at hy; cases hy
          | some p => rw [hq] at hy; simp at hy; exact ⟨p, rfl, hy.symm⟩
        have hil := (List.getElem?_eq_some_iff.1 hp).1
        have hpe := (List.getElem?_eq_some_iff.1 hp).2
        repeat' (first
          | refine z00 ?_ | refine z01 ?_ | refine z02 ?_ | refine z04 ?_ | refine z05 ?_ | refine z08 ?_ | refine zp ?_ | refine z0g ?_ | refine z0h ?_ | refine z0j ?_ | refine z0k ?_
          | refine z0l ?_ | refine z0n ?_ | refine z0o ?_ | refine z0p ?_ | refine z0q ?_ | refine z0r ?_ | refine z0s ?_ | refine z0v ?_ | refine z0z ?_ | refine z12 ?_ | refine z14 ?_
          | refine z15 ?_ | refine z1e ?_ | refine z1f (hk := ?_) | refine z1i ?_ | refine z1j ?_ | refine z1k ?_ | refine z1l ?_ | refine z1m ?_ | refine z1n ?_
          | refine z1o (fun hp => ?_) (fun hp => ?_) | refine z1p (fun hp => ?_) (fun hp => ?_) | refine z1q (fun hp => ?_) (fun hp => ?_) | refine z1r ?_ | refine z1s ?_ | refine z1t ?_
          | refine z1u ?_ | refine z1v ?_ | refine z1w ?_ | refine z1x ?_ | refine z1y ?_ | refine z1z ?_ | refine z20 ?_ | refine z21 ?_ | refine z22 ?_ | refine z23 ?_ | refine z24 ?_
          | refine z25 ?_ | refine z26 ?_ | refine z27 ?_ | refine z28 (fun hp => ?_) (fun hp => ?_) | refine z29 (fun hp => ?_) (fun hp => ?_) | refine z2a ?_ | refine z2b ?_)
        refine ⟨rfl, rfl, fun ls2 => ?_⟩
        by_cases hpz : p.2 ≠ 0
        · repeat' (first
            | refine wx_ifDT rfl hpz ?_
            | refine z00 ?_ | refine z01 ?_ | refine z02 ?_ | refine z04 ?_ | refine z05 ?_ | refine z08 ?_ | refine zp ?_ | refine z0g ?_ | refine z0h ?_ | refine z0j ?_ | refine z0k ?_
            | refine z0l ?_ | refine z0n ?_ | refine z0o ?_ | refine z0p ?_ | refine z0q ?_ | refine z0r ?_ | refine z0s ?_ | refine z0v ?_ | refine z0z ?_ | refine z12 ?_ | refine z14 ?_
            | refine z15 ?_ | refine z1e ?_ | refine z1f (hk := ?_) | refine z1i ?_ | refine z1j ?_ | refine z1k ?_ | refine z1l ?_ | refine z1m ?_ | refine z1n ?_
            | refine z1o (fun hp => ?_) (fun hp => ?_) | refine z1p (fun hp => ?_) (fun hp => ?_) | refine z1q (fun hp => ?_) (fun hp => ?_) | refine z1r ?_ | refine z1s ?_ | refine z1t ?_
            | refine z1u ?_ | refine z1v ?_ | refine z1w ?_ | refine z1x ?_ | refine z1y ?_ | refine z1z ?_ | refine z20 ?_ | refine z21 ?_ | refine z22 ?_ | refine z23 ?_ | refine z24 ?_
            | refine z25 ?_ | refine z26 ?_ | refine z27 ?_ | refine z28 (fun hp => ?_) (fun hp => ?_) | refine z29 (fun hp => ?_) (fun hp => ?_) | refine z2a ?_ | refine z2b ?_)
          refine ⟨⟨[], by simp⟩, rfl, get_set (get_set_self h1 _) (by decide) _, p, ?_, get_set_self (get_set h2 (by decide) _) _⟩
          rw [List.find?_eq_some_iff_getElem]
          refine ⟨by simpa using hpz, i, hil, hpe, ?_⟩
          intro j hj
          have hjm : (pensF roles 0 l x)[j]'(by omega) ∈ (pensF roles 0 l x).take i := by
            rw [List.mem_take_iff_getElem]
            exact ⟨j, by omega, rfl⟩
          have := List.all_eq_true.1 h5 _ hjm
          simpa using this
        · have hlm : m.length < m1.length := get_lt h3
          obtain ⟨v2, m2, a1, a2, a3, a4⟩ := App.app (bytes := 8) (x := .lit (flat KI64.E [p.1]) [p.1].length (some 1)) h4 (by omega) (src_lit (K := KI64) (xs := [p.1])) rfl (by simp) (by simp; omega) rfl
          have b1 : m2[0]? = some nilBlk := by rw [a3 0 (by omega)]; exact h1
          have b2 : m2[1]? = some (intBlk 0) := by rw [a3 1 (by omega)]; exact h2
          have b3 : m2[m.length]? = some ⟨[u], 0, d⟩ := by rw [a3 _ (by omega)]; exact h3
          have b4 := a2.cells
          repeat' (first
            | refine wx_ifDF rfl hpz ?_
            | refine wo_app rfl rfl a1 rfl ?_
            | refine z00 ?_ | refine z01 ?_ | refine z02 ?_ | refine z04 ?_ | refine z05 ?_ | refine z08 ?_ | refine zp ?_ | refine z0g ?_ | refine z0h ?_ | refine z0j ?_ | refine z0k ?_
            | refine z0l ?_ | refine z0n ?_ | refine z0o ?_ | refine z0p ?_ | refine z0q ?_ | refine z0r ?_ | refine z0s ?_ | refine z0v ?_ | refine z0z ?_ | refine z12 ?_ | refine z14 ?_
            | refine z15 ?_ | refine z1e ?_ | refine z1f (hk := ?_) | refine z1i ?_ | refine z1j ?_ | refine z1k ?_ | refine z1l ?_ | refine z1m ?_ | refine z1n ?_
            | refine z1o (fun hp => ?_) (fun hp => ?_) | refine z1p (fun hp => ?_) (fun hp => ?_) | refine z1q (fun hp => ?_) (fun hp => ?_) | refine z1r ?_ | refine z1s ?_ | refine z1t ?_
            | refine z1u ?_ | refine z1v ?_ | refine z1w ?_ | refine z1x ?_ | refine z1y ?_ | refine z1z ?_ | refine z20 ?_ | refine z21 ?_ | refine z22 ?_ | refine z23 ?_ | refine z24 ?_
            | refine z25 ?_ | refine z26 ?_ | refine z27 ?_ | refine z28 (fun hp => ?_) (fun hp => ?_) | refine z29 (fun hp => ?_) (fun hp => ?_) | refine z2a ?_ | refine z2b ?_)
          refine ⟨⟨[], by simp⟩, get_set b1 (by omega) _, get_set b2 (by omega) _, ⟨v2, _, get_set_self b3 _, ?_⟩, ?_⟩
          · have e : (pensF roles 0 l x).take (i + 1) = (pensF roles 0 l x).take i ++ [p] := by rw [List.take_succ_eq_append_getElem hil, hpe]
            rw [e]
            have := a2.set (i := m.length) (by omega) ⟨setAt [u] 0 [v2], 0, d && deepVs [v2]⟩
            simpa using this
          · rw [List.take_succ_eq_append_getElem hil, List.all_append, h5, hpe]
            simpa using hpz
      · rintro m1 junk ⟨h1, h2, ⟨u, d, h3, h4⟩, h5⟩
        rw [List.length_map, List.take_length] at h4 h5
        have h6 := h4.cells
        repeat' (first
          | refine wx_retL [6, 7] ?_
          | refine z00 ?_ | refine z01 ?_ | refine z02 ?_ | refine z04 ?_ | refine z05 ?_ | refine z08 ?_ | refine zp ?_ | refine z0g ?_ | refine z0h ?_ | refine z0j ?_ | refine z0k ?_
          | refine z0l ?_ | refine z0n ?_ | refine z0o ?_ | refine z0p ?_ | refine z0q ?_ | refine z0r ?_ | refine z0s ?_ | refine z0v ?_ | refine z0z ?_ | refine z12 ?_ | refine z14 ?_
          | refine z15 ?_ | refine z1e ?_ | refine z1f (hk := ?_) | refine z1i ?_ | refine z1j ?_ | refine z1k ?_ | refine z1l ?_ | refine z1m ?_ | refine z1n ?_
          | refine z1o (fun hp => ?_) (fun hp => ?_) | refine z1p (fun hp => ?_) (fun hp => ?_) | refine z1q (fun hp => ?_) (fun hp => ?_) | refine z1r ?_ | refine z1s ?_ | refine z1t ?_
          | refine z1u ?_ | refine z1v ?_ | refine z1w ?_ | refine z1x ?_ | refine z1y ?_ | refine z1z ?_ | refine z20 ?_ | refine z21 ?_ | refine z22 ?_ | refine z23 ?_ | refine z24 ?_
          | refine z25 ?_ | refine z26 ?_ | refine z27 ?_ | refine z28 (fun hp => ?_) (fun hp => ?_) | refine z29 (fun hp => ?_) (fun hp => ?_) | refine z2a ?_ | refine z2b ?_)
        have e : pensL l roles x = (x :: (pensF roles 0 l x).map (·.1), 0) := by
          unfold pensL
          rw [if_neg (by simp [hb]), if_neg he]
          have : (pensF roles 0 l x).find? (fun p => decide (p.2 ≠ 0)) = none := by
            rw [List.find?_eq_none]
            intro p hp
            have := List.all_eq_true.1 h5 p hp
            simpa using this
          rw [this]
        rw [e] at hQ
        refine end_r (res_cells2 rfl rfl (get_set (get_set_self h1 _) (by decide) _) (get_set_self (get_set h2 (by decide) _) _)) ?_
        refine App.fin1 (N := m.length + 1) (K := KI64) ?_ rfl hQ
        exact (h4.set (by omega) _).set (by omega) _
      · rintro e m1 junk hne ⟨rfl, h1, p, hf, h2⟩
        have e : pensL l roles x = ([], p.2) := by
          unfold pensL
          rw [if_neg (by simp [hb]), if_neg he, hf]
        rw [e] at hQ
        repeat' (first | refine then_r ?_ | refine block_r ?_)
        refine end_r (res_cells2 rfl rfl h1 h2) ?_
        exact fin1_deep rfl (hQ _ .nil)

end
end Go.Proofs.Ytnekgoanadbmmaa
