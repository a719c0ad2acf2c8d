/-
White space at a line's ends: trim.
-/
import Derived.Test.YtnekgoanadbmmaaCc
namespace Go.Proofs.Ytnekgoanadbmmaa
open Go.Mini
set_option linter.unusedSimpArgs false
set_option linter.unusedVariables false
set_option maxHeartbeats 4000000

section
variable {m : Mem} {ls : List LRec} {Q : MV → Mem → List LRec → Prop}

/-- The last pen. -/
def endL (l : List Cell) (roles : List Int) (x : Int) : Int × Int :=
  if (pensL l roles x).2 ≠ 0 then (0, (pensL l roles x).2) else ((pensL l roles x).1.getD ((pensL l roles x).1.length - 1) 0, 0)

theorem pensL_ne {l : List Cell} {roles : List Int} {x : Int} (h : (pensL l roles x).2 = 0) : (pensL l roles x).1 = x :: (pensF roles 0 l x).map (·.1) := by
  by_cases h1 : l.any badTab = true
  · unfold pensL at h; rw [if_pos h1] at h; simp at h
  · by_cases h2 : (fits x).2 ≠ 0
    · unfold pensL at h; rw [if_neg h1, if_pos h2] at h; exact absurd h h2
    · unfold pensL at h ⊢
      rw [if_neg h1, if_neg h2] at h ⊢
      cases h3 : (pensF roles 0 l x).find? (fun p => decide (p.2 ≠ 0)) with
      | none => rfl
      | some p =>
        rw [h3] at h
        have := List.find?_some h3
        simp at this
        exact absurd h this

theorem c_End {l : List Cell} {roles : List Int} {v w : MV} {x : Int} {args : List MV} (hz : frzs m frzFuel args = some [v, w, .int .i64 x]) (hv : Sl KCell l v) (hw : Sl KU8 roles w) (hl : l.length ≤ 1000000) (hc : ∀ c ∈ l, c.ok) (hx : I64 x)
    (hQ : Q (two (endL l roles x)) m ls) : Wc ip f_tabs_End args m ls Q := by
  refine wc_fn3 rfl fn_tabs_End rfl hz rfl ?_
  repeat' (first
    | refine wo_call rfl rfl rfl (c_Pens hv hw hl hc hx ?_)
    | refine z00 ?_ | refine z01 ?_ | refine z02 ?_ | refine z04 ?_ | refine z05 ?_ | refine z08 ?_ | refine zp ?_ | refine z0g ?_ | refine z0h ?_ | refine z0j ?_ | refine z0k ?_
    | refine z0l ?_ | refine z0n ?_ | refine z0o ?_ | refine z0p ?_ | refine z0q ?_ | refine z0r ?_ | refine z0s ?_ | refine z0v ?_ | refine z0z ?_ | refine z12 ?_ | refine z14 ?_
    | refine z15 ?_ | refine z1e ?_ | refine z1f (hk := ?_) | refine z1i ?_ | refine z1j ?_ | refine z1k ?_ | refine z1l ?_ | refine z1m ?_ | refine z1n ?_
    | refine z1o (fun hp => ?_) (fun hp => ?_) | refine z1p (fun hp => ?_) (fun hp => ?_) | refine z1q (fun hp => ?_) (fun hp => ?_) | refine z1r ?_ | refine z1s ?_ | refine z1t ?_
    | refine z1u ?_ | refine z1v ?_ | refine z1w ?_ | refine z1x ?_ | refine z1y ?_ | refine z1z ?_ | refine z20 ?_ | refine z21 ?_ | refine z22 ?_ | refine z23 ?_ | refine z24 ?_
    | refine z25 ?_ | refine z26 ?_ | refine z27 ?_ | refine z28 (fun hp => ?_) (fun hp => ?_) | refine z29 (fun hp => ?_) (fun hp => ?_) | refine z2a ?_ | refine z2b ?_)
  intro u hu
  by_cases he : (pensL l roles x).2 ≠ 0
  · repeat' (first
      | refine wx_ifDT rfl he ?_
      | refine z00 ?_ | refine z01 ?_ | refine z02 ?_ | refine z04 ?_ | refine z05 ?_ | refine z08 ?_ | refine zp ?_ | refine z0g ?_ | refine z0h ?_ | refine z0j ?_ | refine z0k ?_
      | refine z0l ?_ | refine z0n ?_ | refine z0o ?_ | refine z0p ?_ | refine z0q ?_ | refine z0r ?_ | refine z0s ?_ | refine z0v ?_ | refine z0z ?_ | refine z12 ?_ | refine z14 ?_
      | refine z15 ?_ | refine z1e ?_ | refine z1f (hk := ?_) | refine z1i ?_ | refine z1j ?_ | refine z1k ?_ | refine z1l ?_ | refine z1m ?_ | refine z1n ?_
      | refine z1o (fun hp => ?_) (fun hp => ?_) | refine z1p (fun hp => ?_) (fun hp => ?_) | refine z1q (fun hp => ?_) (fun hp => ?_) | refine z1r ?_ | refine z1s ?_ | refine z1t ?_
      | refine z1u ?_ | refine z1v ?_ | refine z1w ?_ | refine z1x ?_ | refine z1y ?_ | refine z1z ?_ | refine z20 ?_ | refine z21 ?_ | refine z22 ?_ | refine z23 ?_ | refine z24 ?_
      | refine z25 ?_ | refine z26 ?_ | refine z27 ?_ | refine z28 (fun hp => ?_) (fun hp => ?_) | refine z29 (fun hp => ?_) (fun hp => ?_) | refine z2a ?_ | refine z2b ?_)
    refine fin_cln rfl ?_
    have e : endL l roles x = (0, (pensL l roles x).2) := by unfold endL; rw [if_pos he]
    rw [e] at hQ
    exact hQ
  · have hne := pensL_ne (Decidable.byContradiction he)
    have hpos : 1 ≤ (pensL l roles x).1.length := by rw [hne]; simp
    have hle : (pensL l roles x).1.length ≤ 2000000 := by
      rw [hne]
      have : ∀ (l : List Cell) (i : Nat) (x : Int), (pensF roles i l x).length ≤ l.length := by
        intro l
        induction l with
        | nil => intro i x; simp [pensF]
        | cons c cs ih =>
          intro i x
          simp only [pensF, List.length_cons]
          split
          · simp
          · have := ih (i + 1) (penF c (roles.getD i 0) x).1; omega
      have := this l 0 x
      simp; omega
    repeat' (first
      | refine wx_ifDF rfl he ?_
      | refine z00 ?_ | refine z01 ?_ | refine z02 ?_ | refine z04 ?_ | refine z05 ?_ | refine z08 ?_ | refine zp ?_ | refine z0g ?_ | refine z0h ?_ | refine z0j ?_ | refine z0k ?_
      | refine z0l ?_ | refine z0n ?_ | refine z0o ?_ | refine z0p ?_ | refine z0q ?_ | refine z0r ?_ | refine z0s ?_ | refine z0v ?_ | refine z0z ?_ | refine z12 ?_ | refine z14 ?_
      | refine z15 ?_ | refine z1e ?_ | refine z1f (hk := ?_) | refine z1i ?_ | refine z1j ?_ | refine z1k ?_ | refine z1l ?_ | refine z1m ?_ | refine z1n ?_
      | refine z1o (fun hp => ?_) (fun hp => ?_) | refine z1p (fun hp => ?_) (fun hp => ?_) | refine z1q (fun hp => ?_) (fun hp => ?_) | refine z1r ?_ | refine z1s ?_ | refine z1t ?_
      | refine z1u ?_ | refine z1v ?_ | refine z1w ?_ | refine z1x ?_ | refine z1y ?_ | refine z1z ?_ | refine z20 ?_ | refine z21 ?_ | refine z22 ?_ | refine z23 ?_ | refine z24 ?_
      | refine z25 ?_ | refine z26 ?_ | refine z27 ?_ | refine z28 (fun hp => ?_) (fun hp => ?_) | refine z29 (fun hp => ?_) (fun hp => ?_) | refine z2a ?_ | refine z2b ?_)
    refine fin_cln rfl ?_
    have e : endL l roles x = ((pensL l roles x).1.getD ((pensL l roles x).1.length - 1) 0, 0) := by unfold endL; rw [if_neg he]
    rw [e] at hQ
    have e2 : (((pensL l roles x).1.length : Int) - 1).toNat = (pensL l roles x).1.length - 1 := by omega
    have hlt : (pensL l roles x).1.length - 1 < (pensL l roles x).1.length := by omega
    simp only [one, two, e2] at hQ ⊢
    rw [getD_lt hlt] at hQ
    exact hQ

/-! ### Roles -/

def edgeC (c : Cell) : Bool := decide (c.kind = 7 ∨ c.kind = 8 ∨ c.kind = 5)
def blankC (c : Cell) : Bool := edgeC c || decide (c.kind = 1)
def hangC (c : Cell) : Bool := blankC c || decide (c.kind = 2)

theorem c_edge {c : Cell} (hQ : Q (.bool (edgeC c)) m ls) : Wc ip f_trim_edge [.agg c.mv] m ls Q := by
  refine wc_fn3d rfl fn_trim_edge rfl rfl rfl ?_
  repeat' (first
    | refine z00 ?_ | refine z01 ?_ | refine z02 ?_ | refine z04 ?_ | refine z05 ?_ | refine z08 ?_ | refine zp ?_ | refine z0g ?_ | refine z0h ?_ | refine z0j ?_ | refine z0k ?_
    | refine z0l ?_ | refine z0n ?_ | refine z0o ?_ | refine z0p ?_ | refine z0q ?_ | refine z0r ?_ | refine z0s ?_ | refine z0v ?_ | refine z0z ?_ | refine z12 ?_ | refine z14 ?_
    | refine z15 ?_ | refine z1e ?_ | refine z1f (hk := ?_) | refine z1i ?_ | refine z1j ?_ | refine z1k ?_ | refine z1l ?_ | refine z1m ?_ | refine z1n ?_
    | refine z1o (fun hp => ?_) (fun hp => ?_) | refine z1p (fun hp => ?_) (fun hp => ?_) | refine z1q (fun hp => ?_) (fun hp => ?_) | refine z1r ?_ | refine z1s ?_ | refine z1t ?_
    | refine z1u ?_ | refine z1v ?_ | refine z1w ?_ | refine z1x ?_ | refine z1y ?_ | refine z1z ?_ | refine z20 ?_ | refine z21 ?_ | refine z22 ?_ | refine z23 ?_ | refine z24 ?_
    | refine z25 ?_ | refine z26 ?_ | refine z27 ?_ | refine z28 (fun hp => ?_) (fun hp => ?_) | refine z29 (fun hp => ?_) (fun hp => ?_) | refine z2a ?_ | refine z2b ?_)
  all_goals (refine fin_cln rfl ?_; simpa [one, edgeC, *] using hQ)

theorem c_blank {c : Cell} (hQ : Q (.bool (blankC c)) m ls) : Wc ip f_trim_Roles_2 [.agg c.mv] m ls Q := by
  refine wc_fn3d rfl fn_trim_Roles_2 rfl rfl rfl ?_
  repeat' (first
    | refine wo_call rfl rfl rfl (c_edge ?_)
    | refine z00 ?_ | refine z01 ?_ | refine z02 ?_ | refine z04 ?_ | refine z05 ?_ | refine z08 ?_ | refine zp ?_ | refine z0g ?_ | refine z0h ?_ | refine z0j ?_ | refine z0k ?_
    | refine z0l ?_ | refine z0n ?_ | refine z0o ?_ | refine z0p ?_ | refine z0q ?_ | refine z0r ?_ | refine z0s ?_ | refine z0v ?_ | refine z0z ?_ | refine z12 ?_ | refine z14 ?_
    | refine z15 ?_ | refine z1e ?_ | refine z1f (hk := ?_) | refine z1i ?_ | refine z1j ?_ | refine z1k ?_ | refine z1l ?_ | refine z1m ?_ | refine z1n ?_
    | refine z1o (fun hp => ?_) (fun hp => ?_) | refine z1p (fun hp => ?_) (fun hp => ?_) | refine z1q (fun hp => ?_) (fun hp => ?_) | refine z1r ?_ | refine z1s ?_ | refine z1t ?_
    | refine z1u ?_ | refine z1v ?_ | refine z1w ?_ | refine z1x ?_ | refine z1y ?_ | refine z1z ?_ | refine z20 ?_ | refine z21 ?_ | refine z22 ?_ | refine z23 ?_ | refine z24 ?_
    | refine z25 ?_ | refine z26 ?_ | refine z27 ?_ | refine z28 (fun hp => ?_) (fun hp => ?_) | refine z29 (fun hp => ?_) (fun hp => ?_) | refine z2a ?_ | refine z2b ?_)
  all_goals (refine fin_cln rfl ?_; simpa [one, blankC, edgeC, *] using hQ)

theorem c_hang {c : Cell} {b : Nat} (hm : m[b]? = some ⟨[.fn f_trim_Roles_2 [] []], 0, true⟩) (hQ : Q (.bool (hangC c)) m ls) : Wc ip f_trim_Roles_3 [.agg c.mv, .ptr b 0 0] m ls Q := by
  have hz : frzs m frzFuel [.agg c.mv, .ptr b 0 0] = some [.agg c.mv, .pimm [.fn f_trim_Roles_2 [] []] 0] := by
    obtain ⟨n, hn⟩ := fuel 9 (by omega)
    rw [hn]
    simp [frzs, frz, deepVs, deepV, Cell.mv, blk?, hm]
  refine wc_fn3 rfl fn_trim_Roles_3 rfl hz rfl ?_
  repeat' (first
    | refine wo_call rfl rfl rfl (c_blank ?_)
    | refine z00 ?_ | refine z01 ?_ | refine z02 ?_ | refine z04 ?_ | refine z05 ?_ | refine z08 ?_ | refine zp ?_ | refine z0g ?_ | refine z0h ?_ | refine z0j ?_ | refine z0k ?_
    | refine z0l ?_ | refine z0n ?_ | refine z0o ?_ | refine z0p ?_ | refine z0q ?_ | refine z0r ?_ | refine z0s ?_ | refine z0v ?_ | refine z0z ?_ | refine z12 ?_ | refine z14 ?_
    | refine z15 ?_ | refine z1e ?_ | refine z1f (hk := ?_) | refine z1i ?_ | refine z1j ?_ | refine z1k ?_ | refine z1l ?_ | refine z1m ?_ | refine z1n ?_
    | refine z1o (fun hp => ?_) (fun hp => ?_) | refine z1p (fun hp => ?_) (fun hp => ?_) | refine z1q (fun hp => ?_) (fun hp => ?_) | refine z1r ?_ | refine z1s ?_ | refine z1t ?_
    | refine z1u ?_ | refine z1v ?_ | refine z1w ?_ | refine z1x ?_ | refine z1y ?_ | refine z1z ?_ | refine z20 ?_ | refine z21 ?_ | refine z22 ?_ | refine z23 ?_ | refine z24 ?_
    | refine z25 ?_ | refine z26 ?_ | refine z27 ?_ | refine z28 (fun hp => ?_) (fun hp => ?_) | refine z29 (fun hp => ?_) (fun hp => ?_) | refine z2a ?_ | refine z2b ?_)
  all_goals (refine fin_cln rfl ?_; simp only [hangC] at hQ; cases hbc : blankC c <;> simp_all [one])

/-- The places that one goes over, from an end of a line on, as long as something is so. -/
def walkF (l : List Cell) (pr : Cell → Bool) (b : Int) : Nat → Int → List Int
  | 0, _ => []
  | n + 1, i => if pr (l.getD i.toNat default) then i :: walkF l pr b n (i + b) else []

theorem c_from {v isv : MV} {l : List Cell} {i b : Int} (hv : Sl KCell l v) (hi : cellsOf isv = some [isv]) (hQ : Q (.fn f_trim_from_1 [] [.ptr m.length 0 0, .pimm [v] 0, .ptr (m.length + 1) 0 0, .pimm [.int .i64 b] 0]) (m ++ [⟨[.int .i64 i], 0, true⟩] ++ [⟨[isv], 0, deepVs [isv]⟩]) ls) :
    Wc ip f_trim_from [v, .int .i64 i, .int .i64 b, isv] m ls Q := by
  have h1 := hv.cells
  have h3 : deepVs [v] = true := by simp [deepVs, hv.deep]
  refine wc_fn0 rfl fn_trim_from rfl rfl ?_
  repeat' (first
    | refine wo_box rfl (by first | rfl | assumption) rfl ?_
    | refine z00 ?_ | refine z01 ?_ | refine z02 ?_ | refine z04 ?_ | refine z05 ?_ | refine z08 ?_ | refine zp ?_ | refine z0g ?_ | refine z0h ?_ | refine z0j ?_ | refine z0k ?_
    | refine z0l ?_ | refine z0n ?_ | refine z0o ?_ | refine z0p ?_ | refine z0q ?_ | refine z0r ?_ | refine z0s ?_ | refine z0v ?_ | refine z0z ?_ | refine z12 ?_ | refine z14 ?_
    | refine z15 ?_ | refine z1e ?_ | refine z1f (hk := ?_) | refine z1i ?_ | refine z1j ?_ | refine z1k ?_ | refine z1l ?_ | refine z1m ?_ | refine z1n ?_
    | refine z1o (fun hp => ?_) (fun hp => ?_) | refine z1p (fun hp => ?_) (fun hp => ?_) | refine z1q (fun hp => ?_) (fun hp => ?_) | refine z1r ?_ | refine z1s ?_ | refine z1t ?_
    | refine z1u ?_ | refine z1v ?_ | refine z1w ?_ | refine z1x ?_ | refine z1y ?_ | refine z1z ?_ | refine z20 ?_ | refine z21 ?_ | refine z22 ?_ | refine z23 ?_ | refine z24 ?_
    | refine z25 ?_ | refine z26 ?_ | refine z27 ?_ | refine z28 (fun hp => ?_) (fun hp => ?_) | refine z29 (fun hp => ?_) (fun hp => ?_) | refine z2a ?_ | refine z2b ?_)
  have e : (m ++ [(⟨[.int .i64 i], 0, deepVs [.int .i64 i]⟩ : Blk)]).length = m.length + 1 := by simp
  simp only [one, e]
  exact hQ

def iBlk (i : Int) : Blk := ⟨[.int .i64 i], 0, true⟩

theorem iter_from {v : MV} {l : List Cell} {pr : Cell → Bool} {b i0 : Int} {isf : Nat} {iscaps : List MV} {p q : Nat} {d : Bool} {Gis : Mem → Prop} (hpq : p ≠ q) (hv : Sl KCell l v) (hl : l.length ≤ 1000000)
    (his : ∀ (c : Cell) (m : Mem) (ls : List LRec) (Q : MV → Mem → List LRec → Prop), Gis m → Q (.bool (pr c)) m ls → Wc ip isf (.agg c.mv :: iscaps) m ls Q) (hend : b = 1 ∧ i0 = 0 ∨ b = -1 ∧ i0 = (l.length : Int) - 1) :
    IterAt ip f_trim_from_1 [] [.ptr p 0 0, .pimm [v] 0, .ptr q 0 0, .pimm [.int .i64 b] 0] ((walkF l pr b l.length i0).map fun i => [.int .i64 i]) p (fun k => iBlk (i0 + k * b)) (fun m => m[q]? = some ⟨[.fn isf [] iscaps], 0, d⟩ ∧ Gis m) := by
  intro J S j m ls h0 hp0 hG hJs hJa hY
  refine wc_fn0 rfl fn_trim_from_1 rfl rfl ?_
  have key : ∀ (n k : Nat) (m : Mem) (ls : List LRec) (done : List Int), k + n = l.length → done.length = k → walkF l pr b l.length i0 = done ++ walkF l pr b n (i0 + k * b) → J k m ls → m[p]? = some (iBlk (i0 + k * b)) →
      Wx ip i_trim_from_1.nt (.loop (lv [0, 1, 2, 3, 4] 29) trim_from_1_b0) [(0, .yld j), (1, .ptr p 0 0), (2, .pimm [v] 0), (3, .ptr q 0 0), (4, .pimm [.int .i64 b] 0)] m ls
        (blockK 0 (endK i_trim_from_1.res fun _ m' ls' => J ((walkF l pr b l.length i0).map fun i => [MV.int .i64 i]).length m' ls' ∨ S m' ls')) := by
    intro n
    induction n with
    | zero =>
      intro k m ls done hk hd hs hJ hp
      simp only [walkF, List.append_nil] at hs
      have hout : ¬ (0 ≤ i0 + k * b) ∨ ¬ (i0 + k * b < l.length) := by
        rcases hend with ⟨rfl, rfl⟩ | ⟨rfl, rfl⟩ <;> omega
      have hfin : J ((walkF l pr b l.length i0).map fun i => [MV.int .i64 i]).length m ls := by
        rw [List.length_map, hs, hd]; exact hJ
      generalize hii : i0 + k * b = ii at hp hout
      refine wx_roundL rfl ?_
      by_cases ha : 0 ≤ ii
      · have hb : ¬ ii < l.length := by omega
        repeat' (first
          | refine wo_load rfl hp (by rfl) (by rfl) rfl ?_
          | refine z00 ?_ | refine z01 ?_ | refine z02 ?_ | refine z04 ?_ | refine z05 ?_ | refine z08 ?_ | refine zp ?_ | refine z0g ?_ | refine z0h ?_ | refine z0j ?_ | refine z0k ?_
          | refine z0l ?_ | refine z0n ?_ | refine z0o ?_ | refine z0p ?_ | refine z0q ?_ | refine z0r ?_ | refine z0s ?_ | refine z0v ?_ | refine z0z ?_ | refine z12 ?_ | refine z14 ?_
          | refine z15 ?_ | refine z1e ?_ | refine z1f (hk := ?_) | refine z1i ?_ | refine z1j ?_ | refine z1k ?_ | refine z1l ?_ | refine z1m ?_ | refine z1n ?_
          | refine z1o (fun hp => ?_) (fun hp => ?_) | refine z1p (fun hp => ?_) (fun hp => ?_) | refine z1q (fun hp => ?_) (fun hp => ?_) | refine z1r ?_ | refine z1s ?_ | refine z1t ?_
          | refine z1u ?_ | refine z1v ?_ | refine z1w ?_ | refine z1x ?_ | refine z1y ?_ | refine z1z ?_ | refine z20 ?_ | refine z21 ?_ | refine z22 ?_ | refine z23 ?_ | refine z24 ?_
          | refine z25 ?_ | refine z26 ?_ | refine z27 ?_ | refine z28 (fun hp => ?_) (fun hp => ?_) | refine z29 (fun hp => ?_) (fun hp => ?_) | refine z2a ?_ | refine z2b ?_)
        exact .inl hfin
      · repeat' (first
          | refine wo_load rfl hp (by rfl) (by rfl) rfl ?_
          | refine z00 ?_ | refine z01 ?_ | refine z02 ?_ | refine z04 ?_ | refine z05 ?_ | refine z08 ?_ | refine zp ?_ | refine z0g ?_ | refine z0h ?_ | refine z0j ?_ | refine z0k ?_
          | refine z0l ?_ | refine z0n ?_ | refine z0o ?_ | refine z0p ?_ | refine z0q ?_ | refine z0r ?_ | refine z0s ?_ | refine z0v ?_ | refine z0z ?_ | refine z12 ?_ | refine z14 ?_
          | refine z15 ?_ | refine z1e ?_ | refine z1f (hk := ?_) | refine z1i ?_ | refine z1j ?_ | refine z1k ?_ | refine z1l ?_ | refine z1m ?_ | refine z1n ?_
          | refine z1o (fun hp => ?_) (fun hp => ?_) | refine z1p (fun hp => ?_) (fun hp => ?_) | refine z1q (fun hp => ?_) (fun hp => ?_) | refine z1r ?_ | refine z1s ?_ | refine z1t ?_
          | refine z1u ?_ | refine z1v ?_ | refine z1w ?_ | refine z1x ?_ | refine z1y ?_ | refine z1z ?_ | refine z20 ?_ | refine z21 ?_ | refine z22 ?_ | refine z23 ?_ | refine z24 ?_
          | refine z25 ?_ | refine z26 ?_ | refine z27 ?_ | refine z28 (fun hp => ?_) (fun hp => ?_) | refine z29 (fun hp => ?_) (fun hp => ?_) | refine z2a ?_ | refine z2b ?_)
        exact .inl hfin
    | succ n ih =>
      intro k m ls done hk hd hs hJ hp
      obtain ⟨hq, hgis⟩ := hG _ _ _ hJ
      have hin : 0 ≤ i0 + k * b ∧ i0 + k * b < l.length := by
        rcases hend with ⟨rfl, rfl⟩ | ⟨rfl, rfl⟩ <;> omega
      have hnext : i0 + (k + 1 : Nat) * b = i0 + k * b + b := by
        rw [Int.natCast_succ, Int.add_mul]; omega
      have hbb : b = 1 ∨ b = -1 := by rcases hend with ⟨rfl, _⟩ | ⟨rfl, _⟩ <;> simp
      simp only [walkF] at hs
      have hnx : ∀ (m : Mem) (ls : List LRec), pr (l.getD (i0 + k * b).toNat default) = true → J (k + 1) m ls → m[p]? = some (iBlk (i0 + k * b + b)) → Wx ip i_trim_from_1.nt (.loop (lv [0, 1, 2, 3, 4] 29) trim_from_1_b0) [(0, .yld j), (1, .ptr p 0 0), (2, .pimm [v] 0), (3, .ptr q 0 0), (4, .pimm [.int .i64 b] 0)] m ls
          (blockK 0 (endK i_trim_from_1.res fun _ m' ls' => J ((walkF l pr b l.length i0).map fun i => [MV.int .i64 i]).length m' ls' ∨ S m' ls')) := fun m ls hpr hJ hp =>
        ih (k + 1) m ls (done ++ [i0 + k * b]) (by omega) (by simp [hd]) (by rw [hs, if_pos hpr, hnext]; simp) hJ (by rw [hnext]; exact hp)
      have hget : pr (l.getD (i0 + k * b).toNat default) = true → ((walkF l pr b l.length i0).map fun i => [MV.int .i64 i])[k]? = some [.int .i64 (i0 + k * b)] := fun hpr => by
        rw [hs, if_pos hpr, List.getElem?_map, List.getElem?_append_right (by omega), hd]; simp
      have hfin : ¬ pr (l.getD (i0 + k * b).toNat default) = true → ((walkF l pr b l.length i0).map fun i => [MV.int .i64 i]).length = k := fun hpr => by
        rw [List.length_map, hs, if_neg hpr]; simp [hd]
      generalize hii : i0 + k * b = ii at *
      have hlt : ii.toNat < l.length := by omega
      have hgd : l.getD ii.toNat default = l[ii.toNat] := getD_lt hlt
      rw [hgd] at hnx hget hfin
      have hpi := hp
      refine wx_roundL rfl ?_
      by_cases hpr : pr l[ii.toNat] = true
      · repeat' (first
          | refine wo_load rfl hpi (by rfl) (by rfl) rfl ?_
          | refine wo_load rfl hq (by rfl) (by rfl) rfl ?_
          | refine wo_call rfl rfl rfl (his _ _ _ _ hgis ?_)
          | refine wx_if rfl (fun _ => ?_) (fun h => absurd hpr (by simp [h]))
          | refine z00 ?_ | refine z01 ?_ | refine z02 ?_ | refine z04 ?_ | refine z05 ?_ | refine z08 ?_ | refine zp ?_ | refine z0g ?_ | refine z0h ?_ | refine z0j ?_ | refine z0k ?_
          | refine z0l ?_ | refine z0n ?_ | refine z0o ?_ | refine z0p ?_ | refine z0q ?_ | refine z0r ?_ | refine z0s ?_ | refine z0v ?_ | refine z0z ?_ | refine z12 ?_ | refine z14 ?_
          | refine z15 ?_ | refine z1e ?_ | refine z1f (hk := ?_) | refine z1i ?_ | refine z1j ?_ | refine z1k ?_ | refine z1l ?_ | refine z1m ?_ | refine z1n ?_
          | refine z1o (fun hp => ?_) (fun hp => ?_) | refine z1p (fun hp => ?_) (fun hp => ?_) | refine z1q (fun hp => ?_) (fun hp => ?_) | refine z1r ?_ | refine z1s ?_ | refine z1t ?_
          | refine z1u ?_ | refine z1v ?_ | refine z1w ?_ | refine z1x ?_ | refine z1y ?_ | refine z1z ?_ | refine z20 ?_ | refine z21 ?_ | refine z22 ?_ | refine z23 ?_ | refine z24 ?_
          | refine z25 ?_ | refine z26 ?_ | refine z27 ?_ | refine z28 (fun hp => ?_) (fun hp => ?_) | refine z29 (fun hp => ?_) (fun hp => ?_) | refine z2a ?_ | refine z2b ?_)
        refine wo_yld rfl rfl rfl ((hY k _ _ _ (hget hpr) (by simp only [hii]; exact hpi) hJ).mono ?_)
        rintro u m' ls' ⟨hpm, ⟨rfl, hJ'⟩ | ⟨rfl, hS⟩⟩
        · simp only [hii] at hpm
          have hk1 := get_set_self hpm (iBlk (ii + b))
          repeat' (first
            | refine wo_load rfl hpm (by rfl) (by rfl) rfl ?_
            | refine z00 ?_ | refine z01 ?_ | refine z02 ?_ | refine z04 ?_ | refine z05 ?_ | refine z08 ?_ | refine zp ?_ | refine z0g ?_ | refine z0h ?_ | refine z0j ?_ | refine z0k ?_
            | refine z0l ?_ | refine z0n ?_ | refine z0o ?_ | refine z0p ?_ | refine z0q ?_ | refine z0r ?_ | refine z0s ?_ | refine z0v ?_ | refine z0z ?_ | refine z12 ?_ | refine z14 ?_
            | refine z15 ?_ | refine z1e ?_ | refine z1f (hk := ?_) | refine z1i ?_ | refine z1j ?_ | refine z1k ?_ | refine z1l ?_ | refine z1m ?_ | refine z1n ?_
            | refine z1o (fun hp => ?_) (fun hp => ?_) | refine z1p (fun hp => ?_) (fun hp => ?_) | refine z1q (fun hp => ?_) (fun hp => ?_) | refine z1r ?_ | refine z1s ?_ | refine z1t ?_
            | refine z1u ?_ | refine z1v ?_ | refine z1w ?_ | refine z1x ?_ | refine z1y ?_ | refine z1z ?_ | refine z20 ?_ | refine z21 ?_ | refine z22 ?_ | refine z23 ?_ | refine z24 ?_
            | refine z25 ?_ | refine z26 ?_ | refine z27 ?_ | refine z28 (fun hp => ?_) (fun hp => ?_) | refine z29 (fun hp => ?_) (fun hp => ?_) | refine z2a ?_ | refine z2b ?_)
          refine wx_loopL ?_
          exact hnx _ _ hpr (hJs _ _ _ _ hJ') hk1
        · repeat' (first
            | refine z00 ?_ | refine z01 ?_ | refine z02 ?_ | refine z04 ?_ | refine z05 ?_ | refine z08 ?_ | refine zp ?_ | refine z0g ?_ | refine z0h ?_ | refine z0j ?_ | refine z0k ?_
            | refine z0l ?_ | refine z0n ?_ | refine z0o ?_ | refine z0p ?_ | refine z0q ?_ | refine z0r ?_ | refine z0s ?_ | refine z0v ?_ | refine z0z ?_ | refine z12 ?_ | refine z14 ?_
            | refine z15 ?_ | refine z1e ?_ | refine z1f (hk := ?_) | refine z1i ?_ | refine z1j ?_ | refine z1k ?_ | refine z1l ?_ | refine z1m ?_ | refine z1n ?_
            | refine z1o (fun hp => ?_) (fun hp => ?_) | refine z1p (fun hp => ?_) (fun hp => ?_) | refine z1q (fun hp => ?_) (fun hp => ?_) | refine z1r ?_ | refine z1s ?_ | refine z1t ?_
            | refine z1u ?_ | refine z1v ?_ | refine z1w ?_ | refine z1x ?_ | refine z1y ?_ | refine z1z ?_ | refine z20 ?_ | refine z21 ?_ | refine z22 ?_ | refine z23 ?_ | refine z24 ?_
            | refine z25 ?_ | refine z26 ?_ | refine z27 ?_ | refine z28 (fun hp => ?_) (fun hp => ?_) | refine z29 (fun hp => ?_) (fun hp => ?_) | refine z2a ?_ | refine z2b ?_)
          exact .inr hS
      · repeat' (first
          | refine wo_load rfl hpi (by rfl) (by rfl) rfl ?_
          | refine wo_load rfl hq (by rfl) (by rfl) rfl ?_
          | refine wo_call rfl rfl rfl (his _ _ _ _ hgis ?_)
          | refine wx_if rfl (fun h => absurd h hpr) (fun _ => ?_)
          | refine z00 ?_ | refine z01 ?_ | refine z02 ?_ | refine z04 ?_ | refine z05 ?_ | refine z08 ?_ | refine zp ?_ | refine z0g ?_ | refine z0h ?_ | refine z0j ?_ | refine z0k ?_
          | refine z0l ?_ | refine z0n ?_ | refine z0o ?_ | refine z0p ?_ | refine z0q ?_ | refine z0r ?_ | refine z0s ?_ | refine z0v ?_ | refine z0z ?_ | refine z12 ?_ | refine z14 ?_
          | refine z15 ?_ | refine z1e ?_ | refine z1f (hk := ?_) | refine z1i ?_ | refine z1j ?_ | refine z1k ?_ | refine z1l ?_ | refine z1m ?_ | refine z1n ?_
          | refine z1o (fun hp => ?_) (fun hp => ?_) | refine z1p (fun hp => ?_) (fun hp => ?_) | refine z1q (fun hp => ?_) (fun hp => ?_) | refine z1r ?_ | refine z1s ?_ | refine z1t ?_
          | refine z1u ?_ | refine z1v ?_ | refine z1w ?_ | refine z1x ?_ | refine z1y ?_ | refine z1z ?_ | refine z20 ?_ | refine z21 ?_ | refine z22 ?_ | refine z23 ?_ | refine z24 ?_
          | refine z25 ?_ | refine z26 ?_ | refine z27 ?_ | refine z28 (fun hp => ?_) (fun hp => ?_) | refine z29 (fun hp => ?_) (fun hp => ?_) | refine z2a ?_ | refine z2b ?_)
        left
        rw [hfin hpr]
        exact hJ
  repeat' (first
    | refine z00 ?_ | refine z01 ?_ | refine z02 ?_ | refine z04 ?_ | refine z05 ?_ | refine z08 ?_ | refine zp ?_ | refine z0g ?_ | refine z0h ?_ | refine z0j ?_ | refine z0k ?_
    | refine z0l ?_ | refine z0n ?_ | refine z0o ?_ | refine z0p ?_ | refine z0q ?_ | refine z0r ?_ | refine z0s ?_ | refine z0v ?_ | refine z0z ?_ | refine z12 ?_ | refine z14 ?_
    | refine z15 ?_ | refine z1e ?_ | refine z1f (hk := ?_) | refine z1i ?_ | refine z1j ?_ | refine z1k ?_ | refine z1l ?_ | refine z1m ?_ | refine z1n ?_
    | refine z1o (fun hp => ?_) (fun hp => ?_) | refine z1p (fun hp => ?_) (fun hp => ?_) | refine z1q (fun hp => ?_) (fun hp => ?_) | refine z1r ?_ | refine z1s ?_ | refine z1t ?_
    | refine z1u ?_ | refine z1v ?_ | refine z1w ?_ | refine z1x ?_ | refine z1y ?_ | refine z1z ?_ | refine z20 ?_ | refine z21 ?_ | refine z22 ?_ | refine z23 ?_ | refine z24 ?_
    | refine z25 ?_ | refine z26 ?_ | refine z27 ?_ | refine z28 (fun hp => ?_) (fun hp => ?_) | refine z29 (fun hp => ?_) (fun hp => ?_) | refine z2a ?_ | refine z2b ?_)
  refine wx_loopL ?_
  exact key l.length 0 m ls [] (by omega) rfl (by simp) h0 hp0

/-! One pass -/

def markF (l : List Cell) (kind role : Int) (out : List Int) (i : Int) : List Int :=
  if (l.getD i.toNat default).kind = kind then out.set i.toNat role else out

theorem walkIn {l : List Cell} {pr : Cell → Bool} {b : Int} : ∀ {n : Nat} {i : Int}, (b = 1 ∧ i + n = l.length ∧ 0 ≤ i ∨ b = -1 ∧ i + 1 = n ∧ n ≤ l.length) → ∀ j ∈ walkF l pr b n i, 0 ≤ j ∧ j < l.length
  | 0, _, _, j, h => by simp [walkF] at h
  | n + 1, i, hb, j, h => by
    simp only [walkF] at h
    split at h
    · rcases List.mem_cons.1 h with rfl | h
      · rcases hb with ⟨rfl, h1, h2⟩ | ⟨rfl, h1, h2⟩ <;> omega
      · refine walkIn ?_ j h
        rcases hb with ⟨rfl, h1, h2⟩ | ⟨rfl, h1, h2⟩
        · exact .inl ⟨rfl, by omega, by omega⟩
        · exact .inr ⟨rfl, by omega, by omega⟩
    · cases h

theorem mark_len {l : List Cell} {k r : Int} {out : List Int} {i : Int} : (markF l k r out i).length = out.length := by
  unfold markF; split <;> simp
theorem pass_len {l : List Cell} {k r : Int} : ∀ {idx : List Int} {out : List Int}, (idx.foldl (markF l k r) out).length = out.length
  | [], _ => rfl
  | i :: is, out => by simp only [List.foldl_cons]; rw [pass_len, mark_len]

def outBox (n : Nat) : Blk := ⟨[.sl 0 0 0 n 1 (some n)], 0, false⟩
def blankBox : Blk := ⟨[.fn f_trim_Roles_2 [] []], 0, true⟩
def outBlk (o : List Int) : Blk := ⟨flat KU8.E o, 0, true⟩

theorem set_flat {o : List Int} {i : Nat} {r : Int} (h : i < o.length) : setAt (flat KU8.E o) (0 + i * 1) [.int .u8 r] = flat KU8.E (o.set i r) := by
  have : ∀ (o : List Int) (i : Nat), i < o.length → (flat KU8.E o).set i (.int .u8 r) = flat KU8.E (o.set i r) := by
    intro o
    induction o with
    | nil => intro i h; simp at h
    | cons x xs ih =>
      intro i h
      cases i with
      | zero => rfl
      | succ i =>
        simp only [flat, List.set_cons_succ]
        show (MV.int .u8 x :: flat KU8.E xs).set (i + 1) _ = MV.int .u8 x :: flat KU8.E (xs.set i r)
        rw [List.set_cons_succ, ih i (by simpa using h)]
  simp only [setAt, Nat.zero_add, Nat.mul_one]
  exact this o i h

theorem c_give {v : MV} {l : List Cell} {pr : Cell → Bool} {b i0 kind role : Int} {isf : Nat} {iscaps : List MV} {p q : Nat} {d : Bool} {out : List Int} (hv : Sl KCell l v) (hl : l.length ≤ 1000000) (ho : out.length = l.length) (hpq : p ≠ q) (hp3 : 3 ≤ p) (hq3 : 3 ≤ q)
    (his : ∀ (c : Cell) (m : Mem) (ls : List LRec) (Q : MV → Mem → List LRec → Prop), m[2]? = some blankBox → Q (.bool (pr c)) m ls → Wc ip isf (.agg c.mv :: iscaps) m ls Q) (hend : b = 1 ∧ i0 = 0 ∨ b = -1 ∧ i0 = (l.length : Int) - 1)
    (h0 : m[0]? = some (outBlk out)) (h1 : m[1]? = some (outBox l.length)) (h2 : m[2]? = some blankBox) (hp : m[p]? = some (iBlk i0)) (hq : m[q]? = some ⟨[.fn isf [] iscaps], 0, d⟩)
    (hQ : ∀ m' junk, m'[0]? = some (outBlk ((walkF l pr b l.length i0).foldl (markF l kind role) out)) → m'[1]? = some (outBox l.length) → m'[2]? = some blankBox → Q (.tup []) m' (ls ++ junk)) :
    Wc ip f_trim_Roles_1 [.int .u8 kind, .int .u8 role, .fn f_trim_from_1 [] [.ptr p 0 0, .pimm [v] 0, .ptr q 0 0, .pimm [.int .i64 b] 0], .pimm [v] 0, .ptr 1 0 0] m ls Q := by
  have hcv := hv.cells
  refine wc_fn0 rfl fn_trim_Roles_1 rfl rfl ?_
  have hin := walkIn (l := l) (pr := pr) (b := b) (n := l.length) (i := i0) (by rcases hend with ⟨rfl, rfl⟩ | ⟨rfl, rfl⟩ <;> simp)
  repeat' (first
    | refine z00 ?_ | refine z01 ?_ | refine z02 ?_ | refine z04 ?_ | refine z05 ?_ | refine z08 ?_ | refine zp ?_ | refine z0g ?_ | refine z0h ?_ | refine z0j ?_ | refine z0k ?_
    | refine z0l ?_ | refine z0n ?_ | refine z0o ?_ | refine z0p ?_ | refine z0q ?_ | refine z0r ?_ | refine z0s ?_ | refine z0v ?_ | refine z0z ?_ | refine z12 ?_ | refine z14 ?_
    | refine z15 ?_ | refine z1e ?_ | refine z1f (hk := ?_) | refine z1i ?_ | refine z1j ?_ | refine z1k ?_ | refine z1l ?_ | refine z1m ?_ | refine z1n ?_
    | refine z1o (fun hp => ?_) (fun hp => ?_) | refine z1p (fun hp => ?_) (fun hp => ?_) | refine z1q (fun hp => ?_) (fun hp => ?_) | refine z1r ?_ | refine z1s ?_ | refine z1t ?_
    | refine z1u ?_ | refine z1v ?_ | refine z1w ?_ | refine z1x ?_ | refine z1y ?_ | refine z1z ?_ | refine z20 ?_ | refine z21 ?_ | refine z22 ?_ | refine z23 ?_ | refine z24 ?_
    | refine z25 ?_ | refine z26 ?_ | refine z27 ?_ | refine z28 (fun hp => ?_) (fun hp => ?_) | refine z29 (fun hp => ?_) (fun hp => ?_) | refine z2a ?_ | refine z2b ?_)
  refine wx_overAt (K := fun i m' => m'[0]? = some (outBlk (((walkF l pr b l.length i0).take i).foldl (markF l kind role) out)) ∧ m'[1]? = some (outBox l.length) ∧ m'[2]? = some blankBox ∧ m'[q]? = some ⟨[.fn isf [] iscaps], 0, d⟩)
    (E := fun e m' => False) rfl (iter_from (Gis := fun m' => m'[2]? = some blankBox) (pr := pr) (i0 := i0) (d := d) hpq hv hl his hend) rfl ?_ ?_ ?_ ?_ ?_ ?_ ?_ ?_ ?_
  · intro y hy
    obtain ⟨i, _, rfl⟩ := List.mem_map.1 hy
    rfl
  · exact ⟨by simpa using h0, h1, h2, hq⟩
  · simpa using hp
  · rintro i m1 ⟨_, _, a3, a4⟩; exact ⟨a4, a3⟩
  · rintro i m1 k ⟨a1, a2, a3, a4⟩
    exact ⟨get_set a1 (by omega) k, get_set a2 (by omega) k, get_set a3 (by omega) k, get_set a4 hpq k⟩
  · rintro i m1 k ⟨a1, a2, a3, a4⟩
    exact ⟨get_app a1 k, get_app a2 k, get_app a3 k, get_app a4 k⟩
  · rintro i y m1 ls1 hy hc ⟨a1, a2, a3, a4⟩
    obtain ⟨n, hn, rfl⟩ : ∃ n, (walkF l pr b l.length i0)[i]? = some n ∧ y = [.int .i64 n] := by
      rw [List.getElem?_map] at hy
      cases hq' : (walkF l pr b l.length i0)[i]? with
      | none => rw [hq'] at hy; cases hy
      | some p => rw [hq'] at hy; simp at hy; exact ⟨p, rfl, hy.symm⟩
    obtain ⟨hn0, hn1⟩ := hin n (List.mem_of_getElem? hn)
    have hil := (List.getElem?_eq_some_iff.1 hn).1
    have hie := (List.getElem?_eq_some_iff.1 hn).2
    have htk : (walkF l pr b l.length i0).take (i + 1) = (walkF l pr b l.length i0).take i ++ [n] := by rw [List.take_succ_eq_append_getElem hil, hie]
    have hlt : n.toNat < l.length := by omega
    generalize hoo : ((walkF l pr b l.length i0).take i).foldl (markF l kind role) out = oo at a1
    have hol : oo.length = l.length := by rw [← hoo, pass_len, ho]
    repeat' (first
      | refine z00 ?_ | refine z01 ?_ | refine z02 ?_ | refine z04 ?_ | refine z05 ?_ | refine z08 ?_ | refine zp ?_ | refine z0g ?_ | refine z0h ?_ | refine z0j ?_ | refine z0k ?_
      | refine z0l ?_ | refine z0n ?_ | refine z0o ?_ | refine z0p ?_ | refine z0q ?_ | refine z0r ?_ | refine z0s ?_ | refine z0v ?_ | refine z0z ?_ | refine z12 ?_ | refine z14 ?_
      | refine z15 ?_ | refine z1e ?_ | refine z1f (hk := ?_) | refine z1i ?_ | refine z1j ?_ | refine z1k ?_ | refine z1l ?_ | refine z1m ?_ | refine z1n ?_
      | refine z1o (fun hp => ?_) (fun hp => ?_) | refine z1p (fun hp => ?_) (fun hp => ?_) | refine z1q (fun hp => ?_) (fun hp => ?_) | refine z1r ?_ | refine z1s ?_ | refine z1t ?_
      | refine z1u ?_ | refine z1v ?_ | refine z1w ?_ | refine z1x ?_ | refine z1y ?_ | refine z1z ?_ | refine z20 ?_ | refine z21 ?_ | refine z22 ?_ | refine z23 ?_ | refine z24 ?_
      | refine z25 ?_ | refine z26 ?_ | refine z27 ?_ | refine z28 (fun hp => ?_) (fun hp => ?_) | refine z29 (fun hp => ?_) (fun hp => ?_) | refine z2a ?_ | refine z2b ?_)
    refine ⟨rfl, rfl, fun ls2 => ?_⟩
    have hgd : l.getD n.toNat default = l[n.toNat] := getD_lt hlt
    by_cases hk : l[n.toNat].kind = kind
    · have hn2 : n.toNat < oo.length := by omega
      repeat' (first
        | refine wx_ifDT rfl hk ?_
        | refine wo_load rfl a2 (by rfl) (by rfl) rfl ?_
        | refine wo_iaddrs rfl rfl hn0 hlt rfl rfl ?_
        | refine wo_store rfl rfl (by rfl) a1 (by rfl) (by rfl) (by have := flat_len KU8 oo; have e : KU8.sz = 1 := rfl; show _ ≤ (flat KU8.E oo).length; rw [this, e]; omega) rfl ?_
        | refine z00 ?_ | refine z01 ?_ | refine z02 ?_ | refine z04 ?_ | refine z05 ?_ | refine z08 ?_ | refine zp ?_ | refine z0g ?_ | refine z0h ?_ | refine z0j ?_ | refine z0k ?_
        | refine z0l ?_ | refine z0n ?_ | refine z0o ?_ | refine z0p ?_ | refine z0q ?_ | refine z0r ?_ | refine z0s ?_ | refine z0v ?_ | refine z0z ?_ | refine z12 ?_ | refine z14 ?_
        | refine z15 ?_ | refine z1e ?_ | refine z1f (hk := ?_) | refine z1i ?_ | refine z1j ?_ | refine z1k ?_ | refine z1l ?_ | refine z1m ?_ | refine z1n ?_
        | refine z1o (fun hp => ?_) (fun hp => ?_) | refine z1p (fun hp => ?_) (fun hp => ?_) | refine z1q (fun hp => ?_) (fun hp => ?_) | refine z1r ?_ | refine z1s ?_ | refine z1t ?_
        | refine z1u ?_ | refine z1v ?_ | refine z1w ?_ | refine z1x ?_ | refine z1y ?_ | refine z1z ?_ | refine z20 ?_ | refine z21 ?_ | refine z22 ?_ | refine z23 ?_ | refine z24 ?_
        | refine z25 ?_ | refine z26 ?_ | refine z27 ?_ | refine z28 (fun hp => ?_) (fun hp => ?_) | refine z29 (fun hp => ?_) (fun hp => ?_) | refine z2a ?_ | refine z2b ?_)
      refine ⟨⟨[], by simp⟩, get_set hc (by omega) _, ?_, get_set a2 (by decide) _, get_set a3 (by decide) _, get_set a4 (by omega) _⟩
      rw [get_set_self a1, htk, List.foldl_append, hoo]
      simp only [List.foldl_cons, List.foldl_nil, markF, hgd, hk, if_true, outBlk]
      rw [set_flat hn2]
      rfl
    · repeat' (first
        | refine wx_ifDF rfl hk ?_
        | refine z00 ?_ | refine z01 ?_ | refine z02 ?_ | refine z04 ?_ | refine z05 ?_ | refine z08 ?_ | refine zp ?_ | refine z0g ?_ | refine z0h ?_ | refine z0j ?_ | refine z0k ?_
        | refine z0l ?_ | refine z0n ?_ | refine z0o ?_ | refine z0p ?_ | refine z0q ?_ | refine z0r ?_ | refine z0s ?_ | refine z0v ?_ | refine z0z ?_ | refine z12 ?_ | refine z14 ?_
        | refine z15 ?_ | refine z1e ?_ | refine z1f (hk := ?_) | refine z1i ?_ | refine z1j ?_ | refine z1k ?_ | refine z1l ?_ | refine z1m ?_ | refine z1n ?_
        | refine z1o (fun hp => ?_) (fun hp => ?_) | refine z1p (fun hp => ?_) (fun hp => ?_) | refine z1q (fun hp => ?_) (fun hp => ?_) | refine z1r ?_ | refine z1s ?_ | refine z1t ?_
        | refine z1u ?_ | refine z1v ?_ | refine z1w ?_ | refine z1x ?_ | refine z1y ?_ | refine z1z ?_ | refine z20 ?_ | refine z21 ?_ | refine z22 ?_ | refine z23 ?_ | refine z24 ?_
        | refine z25 ?_ | refine z26 ?_ | refine z27 ?_ | refine z28 (fun hp => ?_) (fun hp => ?_) | refine z29 (fun hp => ?_) (fun hp => ?_) | refine z2a ?_ | refine z2b ?_)
      refine ⟨⟨[], by simp⟩, hc, ?_, a2, a3, a4⟩
      rw [a1, htk, List.foldl_append, hoo]
      simp only [List.foldl_cons, List.foldl_nil, markF, hgd, hk, if_false]
  · rintro m1 junk ⟨a1, a2, a3, a4⟩
    rw [List.length_map, List.take_length] at a1
    repeat' (first
      | refine z00 ?_ | refine z01 ?_ | refine z02 ?_ | refine z04 ?_ | refine z05 ?_ | refine z08 ?_ | refine zp ?_ | refine z0g ?_ | refine z0h ?_ | refine z0j ?_ | refine z0k ?_
      | refine z0l ?_ | refine z0n ?_ | refine z0o ?_ | refine z0p ?_ | refine z0q ?_ | refine z0r ?_ | refine z0s ?_ | refine z0v ?_ | refine z0z ?_ | refine z12 ?_ | refine z14 ?_
      | refine z15 ?_ | refine z1e ?_ | refine z1f (hk := ?_) | refine z1i ?_ | refine z1j ?_ | refine z1k ?_ | refine z1l ?_ | refine z1m ?_ | refine z1n ?_
      | refine z1o (fun hp => ?_) (fun hp => ?_) | refine z1p (fun hp => ?_) (fun hp => ?_) | refine z1q (fun hp => ?_) (fun hp => ?_) | refine z1r ?_ | refine z1s ?_ | refine z1t ?_
      | refine z1u ?_ | refine z1v ?_ | refine z1w ?_ | refine z1x ?_ | refine z1y ?_ | refine z1z ?_ | refine z20 ?_ | refine z21 ?_ | refine z22 ?_ | refine z23 ?_ | refine z24 ?_
      | refine z25 ?_ | refine z26 ?_ | refine z27 ?_ | refine z28 (fun hp => ?_) (fun hp => ?_) | refine z29 (fun hp => ?_) (fun hp => ?_) | refine z2a ?_ | refine z2b ?_)
    exact hQ _ _ a1 a2 a3
  · rintro e m1 junk _ h; exact h.elim

/-! All passes -/

def roles0 (l : List Cell) : List Int := (walkF l blankC 1 l.length 0).foldl (markF l 1 1) (List.replicate l.length 0)
def roles1 (l : List Cell) : List Int := (walkF l blankC (-1) l.length ((l.length : Int) - 1)).foldl (markF l 1 1) (roles0 l)
/-- What becomes of cells. -/
def rolesF (l : List Cell) : List Int := (walkF l hangC (-1) l.length ((l.length : Int) - 1)).foldl (markF l 2 2) (roles1 l)

theorem rolesF_len {l : List Cell} : (rolesF l).length = l.length := by
  unfold rolesF roles1 roles0; rw [pass_len, pass_len, pass_len]; simp

theorem flat_zero (n : Nat) : (List.replicate n [MV.int .u8 0]).flatten = flat KU8.E (List.replicate n 0) := by
  induction n with
  | zero => rfl
  | succ n ih => rw [List.replicate_succ, List.replicate_succ, List.flatten_cons, ih]; rfl

/-- The body of trim.Roles, to its end. -/
theorem w_Roles {v : MV} {l : List Cell} (hv : Sl KCell l v) (hl : l.length ≤ 1000000) {R : MV → Mem → List LRec → Prop}
    (hR : ∀ m' ls', m'[0]? = some (outBlk (rolesF l)) → R (.sl 0 0 0 l.length 1 (some l.length)) m' ls') : Wx ip i_trim_Roles.nt i_trim_Roles.body (args0 0 [v]) [] [] (endK i_trim_Roles.res R) := by
  have h1 := hv.cells
  have h3 : deepVs [v] = true := by simp [deepVs, hv.deep]
  have hlen := hv.len
  show Wx ip i_trim_Roles.nt c_trim_Roles (args0 0 [v]) [] [] (endK i_trim_Roles.res R)
  repeat' (first
    | refine wo_mksl rfl rfl (by omega) (by omega) (by omega) (by omega) rfl rfl ?_
    | refine z00 ?_ | refine z01 ?_ | refine z02 ?_ | refine z04 ?_ | refine z05 ?_ | refine z08 ?_ | refine zp ?_ | refine z0g ?_ | refine z0h ?_ | refine z0j ?_ | refine z0k ?_
    | refine z0l ?_ | refine z0n ?_ | refine z0o ?_ | refine z0p ?_ | refine z0q ?_ | refine z0r ?_ | refine z0s ?_ | refine z0v ?_ | refine z0z ?_ | refine z12 ?_ | refine z14 ?_
    | refine z15 ?_ | refine z1e ?_ | refine z1f (hk := ?_) | refine z1i ?_ | refine z1j ?_ | refine z1k ?_ | refine z1l ?_ | refine z1m ?_ | refine z1n ?_
    | refine z1o (fun hp => ?_) (fun hp => ?_) | refine z1p (fun hp => ?_) (fun hp => ?_) | refine z1q (fun hp => ?_) (fun hp => ?_) | refine z1r ?_ | refine z1s ?_ | refine z1t ?_
    | refine z1u ?_ | refine z1v ?_ | refine z1w ?_ | refine z1x ?_ | refine z1y ?_ | refine z1z ?_ | refine z20 ?_ | refine z21 ?_ | refine z22 ?_ | refine z23 ?_ | refine z24 ?_
    | refine z25 ?_ | refine z26 ?_ | refine z27 ?_ | refine z28 (fun hp => ?_) (fun hp => ?_) | refine z29 (fun hp => ?_) (fun hp => ?_) | refine z2a ?_ | refine z2b ?_)
  refine wo_call rfl rfl rfl (c_from hv rfl ?_)
  have hb : ∀ (c : Cell) (m : Mem) (ls : List LRec) (Q : MV → Mem → List LRec → Prop), m[2]? = some blankBox → Q (.bool (blankC c)) m ls → Wc ip f_trim_Roles_2 (.agg c.mv :: []) m ls Q := fun c m ls Q _ h => c_blank h
  have hh : ∀ (c : Cell) (m : Mem) (ls : List LRec) (Q : MV → Mem → List LRec → Prop), m[2]? = some blankBox → Q (.bool (hangC c)) m ls → Wc ip f_trim_Roles_3 (.agg c.mv :: [.ptr 2 0 0]) m ls Q := fun c m ls Q h2 h => c_hang h2 h
  refine wo_call rfl rfl rfl (c_give (p := 3) (q := 4) (d := true) (out := List.replicate l.length 0) hv hl (by simp) (by omega) (by omega) (by omega) hb (.inl ⟨rfl, rfl⟩) ?_ rfl rfl rfl rfl ?_)
  · show some _ = some _
    rw [outBlk, ← flat_zero]
    rfl
  intro m1 j1 a0 a1 a2
  have hm1 := get_lt a2
  repeat' (first
    | refine wo_call rfl rfl rfl (c_from hv rfl ?_)
    | refine z00 ?_ | refine z01 ?_ | refine z02 ?_ | refine z04 ?_ | refine z05 ?_ | refine z08 ?_ | refine zp ?_ | refine z0g ?_ | refine z0h ?_ | refine z0j ?_ | refine z0k ?_
    | refine z0l ?_ | refine z0n ?_ | refine z0o ?_ | refine z0p ?_ | refine z0q ?_ | refine z0r ?_ | refine z0s ?_ | refine z0v ?_ | refine z0z ?_ | refine z12 ?_ | refine z14 ?_
    | refine z15 ?_ | refine z1e ?_ | refine z1f (hk := ?_) | refine z1i ?_ | refine z1j ?_ | refine z1k ?_ | refine z1l ?_ | refine z1m ?_ | refine z1n ?_
    | refine z1o (fun hp => ?_) (fun hp => ?_) | refine z1p (fun hp => ?_) (fun hp => ?_) | refine z1q (fun hp => ?_) (fun hp => ?_) | refine z1r ?_ | refine z1s ?_ | refine z1t ?_
    | refine z1u ?_ | refine z1v ?_ | refine z1w ?_ | refine z1x ?_ | refine z1y ?_ | refine z1z ?_ | refine z20 ?_ | refine z21 ?_ | refine z22 ?_ | refine z23 ?_ | refine z24 ?_
    | refine z25 ?_ | refine z26 ?_ | refine z27 ?_ | refine z28 (fun hp => ?_) (fun hp => ?_) | refine z29 (fun hp => ?_) (fun hp => ?_) | refine z2a ?_ | refine z2b ?_)
  refine wo_call rfl rfl rfl (c_give (p := m1.length) (q := m1.length + 1) (d := true) (out := roles0 l) hv hl (by unfold roles0; rw [pass_len]; simp) (by omega) (by omega) (by omega) hb (.inr ⟨rfl, rfl⟩) (get_app (get_app a0 _) _) (get_app (get_app a1 _) _) (get_app (get_app a2 _) _) (get_app (get_last _ _) _) (by rw [show m1.length + 1 = (m1 ++ [(⟨[.int .i64 ((l.length : Int) - 1)], 0, true⟩ : Blk)]).length from by simp]; exact get_last _ _) ?_)
  intro m2 j2 b0 b1 b2
  have hm2 := get_lt b2
  repeat' (first
    | refine wo_call rfl rfl rfl (c_from hv rfl ?_)
    | refine z00 ?_ | refine z01 ?_ | refine z02 ?_ | refine z04 ?_ | refine z05 ?_ | refine z08 ?_ | refine zp ?_ | refine z0g ?_ | refine z0h ?_ | refine z0j ?_ | refine z0k ?_
    | refine z0l ?_ | refine z0n ?_ | refine z0o ?_ | refine z0p ?_ | refine z0q ?_ | refine z0r ?_ | refine z0s ?_ | refine z0v ?_ | refine z0z ?_ | refine z12 ?_ | refine z14 ?_
    | refine z15 ?_ | refine z1e ?_ | refine z1f (hk := ?_) | refine z1i ?_ | refine z1j ?_ | refine z1k ?_ | refine z1l ?_ | refine z1m ?_ | refine z1n ?_
    | refine z1o (fun hp => ?_) (fun hp => ?_) | refine z1p (fun hp => ?_) (fun hp => ?_) | refine z1q (fun hp => ?_) (fun hp => ?_) | refine z1r ?_ | refine z1s ?_ | refine z1t ?_
    | refine z1u ?_ | refine z1v ?_ | refine z1w ?_ | refine z1x ?_ | refine z1y ?_ | refine z1z ?_ | refine z20 ?_ | refine z21 ?_ | refine z22 ?_ | refine z23 ?_ | refine z24 ?_
    | refine z25 ?_ | refine z26 ?_ | refine z27 ?_ | refine z28 (fun hp => ?_) (fun hp => ?_) | refine z29 (fun hp => ?_) (fun hp => ?_) | refine z2a ?_ | refine z2b ?_)
  refine wo_call rfl rfl rfl (c_give (p := m2.length) (q := m2.length + 1) (d := false) (out := roles1 l) hv hl (by unfold roles1 roles0; rw [pass_len, pass_len]; simp) (by omega) (by omega) (by omega) hh (.inr ⟨rfl, rfl⟩) (get_app (get_app b0 _) _) (get_app (get_app b1 _) _) (get_app (get_app b2 _) _) (get_app (get_last _ _) _) (by rw [show m2.length + 1 = (m2 ++ [(⟨[.int .i64 ((l.length : Int) - 1)], 0, true⟩ : Blk)]).length from by simp]; exact get_last _ _) ?_)
  intro m3 j3 c0 c1 c2
  repeat' (first
    | refine wo_load rfl c1 (by rfl) (by rfl) rfl ?_
    | refine z00 ?_ | refine z01 ?_ | refine z02 ?_ | refine z04 ?_ | refine z05 ?_ | refine z08 ?_ | refine zp ?_ | refine z0g ?_ | refine z0h ?_ | refine z0j ?_ | refine z0k ?_
    | refine z0l ?_ | refine z0n ?_ | refine z0o ?_ | refine z0p ?_ | refine z0q ?_ | refine z0r ?_ | refine z0s ?_ | refine z0v ?_ | refine z0z ?_ | refine z12 ?_ | refine z14 ?_
    | refine z15 ?_ | refine z1e ?_ | refine z1f (hk := ?_) | refine z1i ?_ | refine z1j ?_ | refine z1k ?_ | refine z1l ?_ | refine z1m ?_ | refine z1n ?_
    | refine z1o (fun hp => ?_) (fun hp => ?_) | refine z1p (fun hp => ?_) (fun hp => ?_) | refine z1q (fun hp => ?_) (fun hp => ?_) | refine z1r ?_ | refine z1s ?_ | refine z1t ?_
    | refine z1u ?_ | refine z1v ?_ | refine z1w ?_ | refine z1x ?_ | refine z1y ?_ | refine z1z ?_ | refine z20 ?_ | refine z21 ?_ | refine z22 ?_ | refine z23 ?_ | refine z24 ?_
    | refine z25 ?_ | refine z26 ?_ | refine z27 ?_ | refine z28 (fun hp => ?_) (fun hp => ?_) | refine z29 (fun hp => ?_) (fun hp => ?_) | refine z2a ?_ | refine z2b ?_)
  exact hR _ _ c0

theorem c_Roles {v : MV} {l : List Cell} (hv : Sl KCell l v) (hl : l.length ≤ 1000000) (hQ : ∀ u, Sl KU8 (rolesF l) u → Q u m ls) : Wc ip f_trim_Roles [v] m ls Q := by
  refine wc_fn3d rfl fn_trim_Roles rfl (by simp [deepVs, hv.deep]) rfl (w_Roles hv hl fun m' ls' h0 => ?_)
  refine fin_own (K := KU8) (xs := rolesF l) (.inr ⟨0, 0, some l.length, ?_, h0⟩) hQ
  rw [rolesF_len]; rfl

end
end Go.Proofs.Ytnekgoanadbmmaa
