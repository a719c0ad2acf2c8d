/-
The statement EllipsisPlain, of the program's text in Mini.
-/
import Derived.Test.YtnekgoanadbmmaaCf
namespace Go.Proofs.Ytnekgoanadbmmaa
open Go.Mini
set_option linter.unusedSimpArgs false
set_option linter.unusedVariables false
set_option maxHeartbeats 4000000

section
variable {m : Mem} {ls : List LRec} {Q : MV → Mem → List LRec → Prop}

def Head26 : Prop := ∀ (m : Mem) (ls : List LRec) (Q : MV → Mem → List LRec → Prop), Q (.bool true) m ls → Wc ip f_law26_head [] m ls Q

theorem back_all {n : Nat} {to : Int} : ∀ {k : Nat} {p : Int}, p + 1 = k → p < n → backF (List.replicate n true) to k p = (List.range k).reverse.map fun i : Nat => (i : Int)
  | 0, p, h, _ => by simp [backF]
  | k + 1, p, h, hn => by
    have hp : p.toNat < n := by omega
    have hc : p = to ∨ (List.replicate n true).getD p.toNat false = true := .inr (by simp [List.getD, hp])
    simp only [backF, if_pos hc]
    rw [back_all (by omega) (by omega), List.range_succ, List.reverse_append]
    simp
    omega

theorem flat_bools (n : Nat) (b : Bool) : (List.replicate n [MV.bool b]).flatten = flat KBool.E (List.replicate n b) := by
  induction n with
  | zero => rfl
  | succ n ih => rw [List.replicate_succ, List.replicate_succ, List.flatten_cons, ih]; rfl

theorem set_bool {o : List Bool} {i : Nat} {r : Bool} (h : i < o.length) : setAt (flat KBool.E o) (0 + i * 1) [.bool r] = flat KBool.E (o.set i r) := by
  have : ∀ (o : List Bool) (i : Nat), i < o.length → (flat KBool.E o).set i (.bool r) = flat KBool.E (o.set i r) := by
    intro o
    induction o with
    | nil => intro i h; simp at h
    | cons x xs ih =>
      intro i h
      cases i with
      | zero => rfl
      | succ i =>
        simp only [flat, List.set_cons_succ]
        show (MV.bool x :: flat KBool.E xs).set (i + 1) _ = MV.bool x :: flat KBool.E (xs.set i r)
        rw [List.set_cons_succ, ih i (by simpa using h)]
  simp only [setAt, Nat.zero_add, Nat.mul_one]
  exact this o i h

theorem find_rev {p : Int → Bool} {k : Nat} {q : Int} (h : ((List.range k).reverse.map fun i : Nat => (i : Int)).find? p = some q) : p q = true ∧ ∀ i : Nat, i < k → q < i → p i = false := by
  induction k with
  | zero => simp at h
  | succ k ih =>
    rw [List.range_succ, List.reverse_append] at h
    simp only [List.reverse_cons, List.reverse_nil, List.nil_append, List.singleton_append, List.map_cons, List.find?_cons] at h
    cases hk : p (k : Int) with
    | true =>
      rw [hk] at h
      simp only [Option.some.injEq] at h
      subst h
      exact ⟨hk, fun i hi hq => by omega⟩
    | false =>
      rw [hk] at h
      obtain ⟨h1, h2⟩ := ih h
      refine ⟨h1, fun i hi hq => ?_⟩
      by_cases e : i = k
      · subst e; exact hk
      · exact h2 i (by omega) hq

theorem find_rev_none {p : Int → Bool} {k : Nat} (h : ((List.range k).reverse.map fun i : Nat => (i : Int)).find? p = none) : ∀ i : Nat, i < k → p i = false := by
  intro i hi
  rw [List.find?_eq_none] at h
  have := h i (by simp; exact ⟨i, hi, rfl⟩)
  simpa using this

/-- What the statement asks of a cut. -/
theorem plain_cut {l : List Cell} {r : Room} (he : (cutF l (List.replicate l.length true) ⟨0, l.length, false⟩ r 0).err = 0) :
    ∃ ps, pensL l (rolesF l) r.start = (ps, 0) ∧ ps.length = l.length + 1 ∧ ∃ to : Nat, to ≤ l.length ∧ (cutF l (List.replicate l.length true) ⟨0, l.length, false⟩ r 0).to = to ∧ (cutF l (List.replicate l.length true) ⟨0, l.length, false⟩ r 0).at' = ps.getD to 0 ∧
      ((cutF l (List.replicate l.length true) ⟨0, l.length, false⟩ r 0).cut = false → to = l.length) ∧
      ((cutF l (List.replicate l.length true) ⟨0, l.length, false⟩ r 0).cut = true → (ps.getD to 0 ≤ r.width ∨ to = 0) ∧ ∀ i : Nat, to < i → i ≤ l.length → ¬ ps.getD i 0 ≤ r.width) := by
  have hown : ownF l ⟨0, l.length, false⟩ = l := by simp [ownF]
  generalize hc : cutF l (List.replicate l.length true) ⟨0, l.length, false⟩ r 0 = c at he ⊢
  unfold cutF at hc
  rw [hown] at hc
  split at hc
  · rw [← hc] at he; simp at he
  · split at hc
    · rename_i h; rw [← hc] at he; exact absurd he h
    · split at hc
      · rename_i h; rw [← hc] at he; exact absurd he h
      · rename_i hb h1 h2
        have h2' : (pensL l (rolesF l) r.start).2 = 0 := Decidable.byContradiction h2
        obtain ⟨hl, hbd⟩ := pensL_ok h2'
        refine ⟨(pensL l (rolesF l) r.start).1, by rw [← h2'], hl, ?_⟩
        have hct := cutTo_in (l := l) (whole := List.replicate l.length true) (x := ⟨0, l.length, false⟩) (r := r) (dots := 0) (by simp)
        simp only at hct
        refine ⟨(cutTo l (List.replicate l.length true) ⟨0, l.length, false⟩ r 0).toNat, by omega, by rw [← hc]; simp only; omega, by rw [← hc]; simp only [Int.sub_zero], ?_, ?_⟩
        · intro hcut
          rw [← hc] at hcut
          simp only [decide_eq_false_iff_not] at hcut
          unfold cutTo
          rw [hown, if_neg hcut]
          simp
        · intro hcut
          rw [← hc] at hcut
          simp only [decide_eq_true_eq] at hcut
          have e : cutTo l (List.replicate l.length true) ⟨0, l.length, false⟩ r 0 = (((List.range (l.length + 1)).reverse.map fun i : Nat => (i : Int)).find? fun p => decide ((pensL l (rolesF l) r.start).1.getD p.toNat 0 ≤ r.width)).getD 0 := by
            unfold cutTo
            rw [hown, if_pos hcut]
            have e1 : ((l.length : Int) - 0 + 1).toNat = l.length + 1 := by omega
            simp only [e1]
            have e2 : backF (List.replicate l.length true) (l.length : Int) (l.length + 1) (l.length : Int) = (List.range (l.length + 1)).reverse.map fun i : Nat => (i : Int) := by
              rw [List.range_succ, List.reverse_append]
              simp only [backF, true_or, if_true, List.reverse_cons, List.reverse_nil, List.nil_append, List.singleton_append, List.map_cons]
              rw [back_all (by omega) (by omega)]
            rw [e2]
            simp only [Int.sub_zero, Int.add_zero]
          rw [e]
          cases hf : ((List.range (l.length + 1)).reverse.map fun i : Nat => (i : Int)).find? fun p => decide ((pensL l (rolesF l) r.start).1.getD p.toNat 0 ≤ r.width) with
          | some q =>
            obtain ⟨g1, g2⟩ := find_rev hf
            have hq0 : 0 ≤ q := by
              have := List.mem_of_find?_eq_some hf
              simp at this
              obtain ⟨a, _, rfl⟩ := this
              omega
            refine ⟨.inl (by simpa using g1), fun i hi hle => ?_⟩
            have := g2 i (by omega) (by simp at hi; omega)
            simpa using this
          | none =>
            have g := find_rev_none hf
            refine ⟨.inr (by simp), fun i hi hle => ?_⟩
            have := g i (by omega)
            simpa using this

theorem law_EllipsisPlain (hh : Head26) {l : List Cell} {v : MV} {r : Room} (hv : Sl KCell l v) (hl : l.length ≤ 9223372036854775807) (hc : ∀ c ∈ l, c.ok) (hs : I64 r.start) (hQ : Q (.bool true) m ls) : Wc ip f_law26_EllipsisPlain [v, .agg r.mv] m ls Q := by
  refine wc_fn3d rfl fn_law26_EllipsisPlain rfl (by simp [deepVs, hv.deep, deepV, Room.mv]) rfl ?_
  by_cases hbig : l.length > 100
  · repeat' (first
      | refine wo_call rfl rfl rfl (hh _ _ _ ?_)
      | refine z00 ?_ | refine z01 ?_ | refine z02 ?_ | refine z03 ?_ | refine z04 ?_ | refine z05 ?_ | refine z06 ?_ | refine z07 ?_ | refine z08 ?_ | refine z09 ?_ | refine z0a ?_
      | refine z0b ?_ | refine z0c ?_ | refine z0d ?_ | refine z0e ?_ | refine z0f ?_ | refine z0g ?_ | refine z0h ?_ | refine z0i ?_ | refine z0j ?_ | refine z0k ?_ | refine z0l ?_
      | refine z0m ?_ | refine z0n ?_ | refine z0o ?_ | refine z0p ?_ | refine z0q ?_ | refine z0r ?_ | refine z0s ?_ | refine z0t ?_ | refine z0u ?_ | refine z0v ?_ | refine z0w ?_
      | refine z0x ?_ | refine z0y ?_ | refine z0z ?_ | refine z10 ?_ | refine z11 ?_ | refine z12 ?_ | refine z13 ?_ | refine z14 ?_ | refine z15 ?_ | refine z16 ?_ | refine z17 ?_
      | refine z18 ?_ | refine z19 ?_ | refine z1a ?_ | refine z1b ?_ | refine z1c ?_ | refine z1d ?_ | refine z1e ?_ | refine z1f (hk := ?_) | refine z1g ?_ | refine z1h ?_ | refine z1i ?_
      | refine z1j ?_ | refine z1k ?_ | refine z1l ?_ | refine z1m ?_ | refine z1n ?_ | refine z1o (fun hp => ?_) (fun hp => ?_) | refine z1p (fun hp => ?_) (fun hp => ?_)
      | refine z1q (fun hp => ?_) (fun hp => ?_) | refine z1r ?_ | refine z1s ?_ | refine z1t ?_ | refine z1u ?_ | refine z1v ?_ | refine z1w ?_ | refine z1x ?_ | refine z1y ?_ | refine z1z ?_
      | refine z20 ?_ | refine z21 ?_ | refine z22 ?_ | refine z23 ?_ | refine z24 ?_ | refine z25 ?_ | refine z26 ?_ | refine z27 ?_ | refine z28 (fun hp => ?_) (fun hp => ?_)
      | refine z29 (fun hp => ?_) (fun hp => ?_) | refine z2a ?_ | refine z2b ?_)
    exact fin_cln rfl hQ
  · have hlen : l.length ≤ 100 := by omega
    repeat' (first
      | refine wo_mksl rfl rfl (by omega) (by omega) (by omega) (by omega) rfl rfl ?_
      | refine z00 ?_ | refine z01 ?_ | refine z02 ?_ | refine z03 ?_ | refine z04 ?_ | refine z05 ?_ | refine z06 ?_ | refine z07 ?_ | refine z08 ?_ | refine z09 ?_ | refine z0a ?_
      | refine z0b ?_ | refine z0c ?_ | refine z0d ?_ | refine z0e ?_ | refine z0f ?_ | refine z0g ?_ | refine z0h ?_ | refine z0i ?_ | refine z0j ?_ | refine z0k ?_ | refine z0l ?_
      | refine z0m ?_ | refine z0n ?_ | refine z0o ?_ | refine z0p ?_ | refine z0q ?_ | refine z0r ?_ | refine z0s ?_ | refine z0t ?_ | refine z0u ?_ | refine z0v ?_ | refine z0w ?_
      | refine z0x ?_ | refine z0y ?_ | refine z0z ?_ | refine z10 ?_ | refine z11 ?_ | refine z12 ?_ | refine z13 ?_ | refine z14 ?_ | refine z15 ?_ | refine z16 ?_ | refine z17 ?_
      | refine z18 ?_ | refine z19 ?_ | refine z1a ?_ | refine z1b ?_ | refine z1c ?_ | refine z1d ?_ | refine z1e ?_ | refine z1f (hk := ?_) | refine z1g ?_ | refine z1h ?_ | refine z1i ?_
      | refine z1j ?_ | refine z1k ?_ | refine z1l ?_ | refine z1m ?_ | refine z1n ?_ | refine z1o (fun hp => ?_) (fun hp => ?_) | refine z1p (fun hp => ?_) (fun hp => ?_)
      | refine z1q (fun hp => ?_) (fun hp => ?_) | refine z1r ?_ | refine z1s ?_ | refine z1t ?_ | refine z1u ?_ | refine z1v ?_ | refine z1w ?_ | refine z1x ?_ | refine z1y ?_ | refine z1z ?_
      | refine z20 ?_ | refine z21 ?_ | refine z22 ?_ | refine z23 ?_ | refine z24 ?_ | refine z25 ?_ | refine z26 ?_ | refine z27 ?_ | refine z28 (fun hp => ?_) (fun hp => ?_)
      | refine z29 (fun hp => ?_) (fun hp => ?_) | refine z2a ?_ | refine z2b ?_)
    refine wx_loopL ?_
    have key : ∀ (k i : Nat), i + k = l.length → ∀ (o : List Bool), o = List.replicate i true ++ List.replicate k false → ∀ {R : Ex → As → Mem → List LRec → Prop},
        (R (.exit 0) [(0, v), (3, .pimm r.mv 0), (5, .sl 0 0 0 l.length 1 (some l.length))] [⟨flat KBool.E (List.replicate l.length true), 0, true⟩] []) →
        Wx ip i_law26_EllipsisPlain.nt (.loop (lv [0, 3, 5, 6] 128) law26_EllipsisPlain_b0) [(0, v), (3, .pimm r.mv 0), (5, .sl 0 0 0 l.length 1 (some l.length)), (6, .int .i64 i)] [⟨flat KBool.E o, 0, true⟩] [] R := by
      intro k
      induction k with
      | zero =>
        intro i hk o ho R hR
        have e : o = List.replicate l.length true := by rw [ho, show l.length = i from by omega]; simp
        subst e
        refine wx_roundL rfl ?_
        repeat' (first
          | refine wx_exitL [0, 3, 5] ?_
          | refine z00 ?_ | refine z01 ?_ | refine z02 ?_ | refine z03 ?_ | refine z04 ?_ | refine z05 ?_ | refine z06 ?_ | refine z07 ?_ | refine z08 ?_ | refine z09 ?_ | refine z0a ?_
          | refine z0b ?_ | refine z0c ?_ | refine z0d ?_ | refine z0e ?_ | refine z0f ?_ | refine z0g ?_ | refine z0h ?_ | refine z0i ?_ | refine z0j ?_ | refine z0k ?_ | refine z0l ?_
          | refine z0m ?_ | refine z0n ?_ | refine z0o ?_ | refine z0p ?_ | refine z0q ?_ | refine z0r ?_ | refine z0s ?_ | refine z0t ?_ | refine z0u ?_ | refine z0v ?_ | refine z0w ?_
          | refine z0x ?_ | refine z0y ?_ | refine z0z ?_ | refine z10 ?_ | refine z11 ?_ | refine z12 ?_ | refine z13 ?_ | refine z14 ?_ | refine z15 ?_ | refine z16 ?_ | refine z17 ?_
          | refine z18 ?_ | refine z19 ?_ | refine z1a ?_ | refine z1b ?_ | refine z1c ?_ | refine z1d ?_ | refine z1e ?_ | refine z1f (hk := ?_) | refine z1g ?_ | refine z1h ?_
          | refine z1i ?_ | refine z1j ?_ | refine z1k ?_ | refine z1l ?_ | refine z1m ?_ | refine z1n ?_ | refine z1o (fun hp => ?_) (fun hp => ?_) | refine z1p (fun hp => ?_) (fun hp => ?_)
          | refine z1q (fun hp => ?_) (fun hp => ?_) | refine z1r ?_ | refine z1s ?_ | refine z1t ?_ | refine z1u ?_ | refine z1v ?_ | refine z1w ?_ | refine z1x ?_ | refine z1y ?_
          | refine z1z ?_ | refine z20 ?_ | refine z21 ?_ | refine z22 ?_ | refine z23 ?_ | refine z24 ?_ | refine z25 ?_ | refine z26 ?_ | refine z27 ?_
          | refine z28 (fun hp => ?_) (fun hp => ?_) | refine z29 (fun hp => ?_) (fun hp => ?_) | refine z2a ?_ | refine z2b ?_)
        exact hR
      | succ k ih =>
        intro i hk o ho R hR
        have hol : o.length = l.length := by rw [ho]; simp; omega
        have hnx : o.set i true = List.replicate (i + 1) true ++ List.replicate k false := by
          rw [ho, List.set_append_right _ _ (by simp), List.replicate_succ]
          simp [List.replicate_succ']
        have hlt : i < l.length := by omega
        refine wx_roundL rfl ?_
        repeat' (first
          | refine wo_iaddrs rfl rfl (by omega) hlt rfl rfl ?_
          | refine wo_store rfl rfl rfl rfl rfl rfl (by have := flat_len KBool o; have e : KBool.sz = 1 := rfl; show _ ≤ (flat KBool.E o).length; rw [this, e]; simp; omega) rfl ?_
          | refine z00 ?_ | refine z01 ?_ | refine z02 ?_ | refine z03 ?_ | refine z04 ?_ | refine z05 ?_ | refine z06 ?_ | refine z07 ?_ | refine z08 ?_ | refine z09 ?_ | refine z0a ?_
          | refine z0b ?_ | refine z0c ?_ | refine z0d ?_ | refine z0e ?_ | refine z0f ?_ | refine z0g ?_ | refine z0h ?_ | refine z0i ?_ | refine z0j ?_ | refine z0k ?_ | refine z0l ?_
          | refine z0m ?_ | refine z0n ?_ | refine z0o ?_ | refine z0p ?_ | refine z0q ?_ | refine z0r ?_ | refine z0s ?_ | refine z0t ?_ | refine z0u ?_ | refine z0v ?_ | refine z0w ?_
          | refine z0x ?_ | refine z0y ?_ | refine z0z ?_ | refine z10 ?_ | refine z11 ?_ | refine z12 ?_ | refine z13 ?_ | refine z14 ?_ | refine z15 ?_ | refine z16 ?_ | refine z17 ?_
          | refine z18 ?_ | refine z19 ?_ | refine z1a ?_ | refine z1b ?_ | refine z1c ?_ | refine z1d ?_ | refine z1e ?_ | refine z1f (hk := ?_) | refine z1g ?_ | refine z1h ?_
          | refine z1i ?_ | refine z1j ?_ | refine z1k ?_ | refine z1l ?_ | refine z1m ?_ | refine z1n ?_ | refine z1o (fun hp => ?_) (fun hp => ?_) | refine z1p (fun hp => ?_) (fun hp => ?_)
          | refine z1q (fun hp => ?_) (fun hp => ?_) | refine z1r ?_ | refine z1s ?_ | refine z1t ?_ | refine z1u ?_ | refine z1v ?_ | refine z1w ?_ | refine z1x ?_ | refine z1y ?_
          | refine z1z ?_ | refine z20 ?_ | refine z21 ?_ | refine z22 ?_ | refine z23 ?_ | refine z24 ?_ | refine z25 ?_ | refine z26 ?_ | refine z27 ?_
          | refine z28 (fun hp => ?_) (fun hp => ?_) | refine z29 (fun hp => ?_) (fun hp => ?_) | refine z2a ?_ | refine z2b ?_)
        refine wx_loopL ?_
        have := ih (i + 1) (by omega) _ hnx hR
        have e2 : setAt (flat KBool.E o) (0 + i * 1) [.bool true] = flat KBool.E (o.set i true) := set_bool (by omega)
        rw [← e2] at this
        exact this
    have h0 : ∀ {R : Ex → As → Mem → List LRec → Prop}, (R (.exit 0) [(0, v), (3, .pimm r.mv 0), (5, .sl 0 0 0 l.length 1 (some l.length))] [⟨flat KBool.E (List.replicate l.length true), 0, true⟩] []) →
        Wx ip i_law26_EllipsisPlain.nt (.loop (lv [0, 3, 5, 6] 128) law26_EllipsisPlain_b0) [(0, v), (3, .pimm r.mv 0), (5, .sl 0 0 0 l.length 1 (some l.length)), (6, .int .i64 0)] [⟨(List.replicate l.length [MV.bool false]).flatten, 0, true⟩] [] R := by
      intro R hR
      rw [flat_bools]
      exact key l.length 0 (by omega) (List.replicate l.length false) (by simp) hR
    refine h0 ?_
    clear h0 key
    have hz : frzs [⟨flat KBool.E (List.replicate l.length true), 0, true⟩] frzFuel [v, .sl 0 0 0 l.length 1 (some l.length), .agg [.int .i64 0, .int .i64 l.length, .bool false], .agg r.mv, .int .i64 0] =
        some [v, .lit (flat KBool.E (List.replicate l.length true)) l.length (some l.length), .agg (Line.mv ⟨0, l.length, false⟩), .agg r.mv, .int .i64 0] := by
      obtain ⟨n, hn⟩ := fuel 19 (by omega)
      rw [hn]
      have ht : takeAt (flat KBool.E (List.replicate l.length true)) 0 l.length = some (flat KBool.E (List.replicate l.length true)) := take_all (by rw [flat_len]; simp [KBool])
      simp [frzs, frz, deepVs, deepV, hv.deep, blk?, ht, Room.mv, Line.mv]
    have hsw : Sl KBool (List.replicate l.length true) (.lit (flat KBool.E (List.replicate l.length true)) l.length (some l.length)) := by
      have := Sl.lit (K := KBool) (xs := List.replicate l.length true) (kc := some l.length)
      rw [List.length_replicate] at this
      exact this
    repeat' (first
      | refine wo_call rfl rfl rfl (c_Cut hz hv hsw (by omega) hc hs ?_)
      | refine wo_call rfl rfl rfl (c_Roles hv (by omega) ?_)
      | refine z00 ?_ | refine z01 ?_ | refine z02 ?_ | refine z03 ?_ | refine z04 ?_ | refine z05 ?_ | refine z06 ?_ | refine z07 ?_ | refine z08 ?_ | refine z09 ?_ | refine z0a ?_
      | refine z0b ?_ | refine z0c ?_ | refine z0d ?_ | refine z0e ?_ | refine z0f ?_ | refine z0g ?_ | refine z0h ?_ | refine z0i ?_ | refine z0j ?_ | refine z0k ?_ | refine z0l ?_
      | refine z0m ?_ | refine z0n ?_ | refine z0o ?_ | refine z0p ?_ | refine z0q ?_ | refine z0r ?_ | refine z0s ?_ | refine z0t ?_ | refine z0u ?_ | refine z0v ?_ | refine z0w ?_
      | refine z0x ?_ | refine z0y ?_ | refine z0z ?_ | refine z10 ?_ | refine z11 ?_ | refine z12 ?_ | refine z13 ?_ | refine z14 ?_ | refine z15 ?_ | refine z16 ?_ | refine z17 ?_
      | refine z18 ?_ | refine z19 ?_ | refine z1a ?_ | refine z1b ?_ | refine z1c ?_ | refine z1d ?_ | refine z1e ?_ | refine z1f (hk := ?_) | refine z1g ?_ | refine z1h ?_ | refine z1i ?_
      | refine z1j ?_ | refine z1k ?_ | refine z1l ?_ | refine z1m ?_ | refine z1n ?_ | refine z1o (fun hp => ?_) (fun hp => ?_) | refine z1p (fun hp => ?_) (fun hp => ?_)
      | refine z1q (fun hp => ?_) (fun hp => ?_) | refine z1r ?_ | refine z1s ?_ | refine z1t ?_ | refine z1u ?_ | refine z1v ?_ | refine z1w ?_ | refine z1x ?_ | refine z1y ?_ | refine z1z ?_
      | refine z20 ?_ | refine z21 ?_ | refine z22 ?_ | refine z23 ?_ | refine z24 ?_ | refine z25 ?_ | refine z26 ?_ | refine z27 ?_ | refine z28 (fun hp => ?_) (fun hp => ?_)
      | refine z29 (fun hp => ?_) (fun hp => ?_) | refine z2a ?_ | refine z2b ?_)
    intro u hu
    repeat' (first
      | refine wo_call rfl rfl rfl (c_Pens hv hu (by omega) hc hs ?_)
      | refine z00 ?_ | refine z01 ?_ | refine z02 ?_ | refine z03 ?_ | refine z04 ?_ | refine z05 ?_ | refine z06 ?_ | refine z07 ?_ | refine z08 ?_ | refine z09 ?_ | refine z0a ?_
      | refine z0b ?_ | refine z0c ?_ | refine z0d ?_ | refine z0e ?_ | refine z0f ?_ | refine z0g ?_ | refine z0h ?_ | refine z0i ?_ | refine z0j ?_ | refine z0k ?_ | refine z0l ?_
      | refine z0m ?_ | refine z0n ?_ | refine z0o ?_ | refine z0p ?_ | refine z0q ?_ | refine z0r ?_ | refine z0s ?_ | refine z0t ?_ | refine z0u ?_ | refine z0v ?_ | refine z0w ?_
      | refine z0x ?_ | refine z0y ?_ | refine z0z ?_ | refine z10 ?_ | refine z11 ?_ | refine z12 ?_ | refine z13 ?_ | refine z14 ?_ | refine z15 ?_ | refine z16 ?_ | refine z17 ?_
      | refine z18 ?_ | refine z19 ?_ | refine z1a ?_ | refine z1b ?_ | refine z1c ?_ | refine z1d ?_ | refine z1e ?_ | refine z1f (hk := ?_) | refine z1g ?_ | refine z1h ?_ | refine z1i ?_
      | refine z1j ?_ | refine z1k ?_ | refine z1l ?_ | refine z1m ?_ | refine z1n ?_ | refine z1o (fun hp => ?_) (fun hp => ?_) | refine z1p (fun hp => ?_) (fun hp => ?_)
      | refine z1q (fun hp => ?_) (fun hp => ?_) | refine z1r ?_ | refine z1s ?_ | refine z1t ?_ | refine z1u ?_ | refine z1v ?_ | refine z1w ?_ | refine z1x ?_ | refine z1y ?_ | refine z1z ?_
      | refine z20 ?_ | refine z21 ?_ | refine z22 ?_ | refine z23 ?_ | refine z24 ?_ | refine z25 ?_ | refine z26 ?_ | refine z27 ?_ | refine z28 (fun hp => ?_) (fun hp => ?_)
      | refine z29 (fun hp => ?_) (fun hp => ?_) | refine z2a ?_ | refine z2b ?_)
    intro z hz2
    generalize hcc : cutF l (List.replicate l.length true) ⟨0, l.length, false⟩ r 0 = c
    by_cases he : c.err ≠ 0
    · repeat' (first
        | refine wo_guardET rfl he rfl ?_
        | refine wo_guardDT rfl he rfl ?_
        | refine wo_call rfl rfl rfl (hh _ _ _ ?_)
        | refine z00 ?_ | refine z01 ?_ | refine z02 ?_ | refine z03 ?_ | refine z04 ?_ | refine z05 ?_ | refine z06 ?_ | refine z07 ?_ | refine z08 ?_ | refine z09 ?_ | refine z0a ?_
        | refine z0b ?_ | refine z0c ?_ | refine z0d ?_ | refine z0e ?_ | refine z0f ?_ | refine z0g ?_ | refine z0h ?_ | refine z0i ?_ | refine z0j ?_ | refine z0k ?_ | refine z0l ?_
        | refine z0m ?_ | refine z0n ?_ | refine z0o ?_ | refine z0p ?_ | refine z0q ?_ | refine z0r ?_ | refine z0s ?_ | refine z0t ?_ | refine z0u ?_ | refine z0v ?_ | refine z0w ?_
        | refine z0x ?_ | refine z0y ?_ | refine z0z ?_ | refine z10 ?_ | refine z11 ?_ | refine z12 ?_ | refine z13 ?_ | refine z14 ?_ | refine z15 ?_ | refine z16 ?_ | refine z17 ?_
        | refine z18 ?_ | refine z19 ?_ | refine z1a ?_ | refine z1b ?_ | refine z1c ?_ | refine z1d ?_ | refine z1e ?_ | refine z1f (hk := ?_) | refine z1g ?_ | refine z1h ?_ | refine z1i ?_
        | refine z1j ?_ | refine z1k ?_ | refine z1l ?_ | refine z1m ?_ | refine z1n ?_ | refine z1o (fun hp => ?_) (fun hp => ?_) | refine z1p (fun hp => ?_) (fun hp => ?_)
        | refine z1q (fun hp => ?_) (fun hp => ?_) | refine z1r ?_ | refine z1s ?_ | refine z1t ?_ | refine z1u ?_ | refine z1v ?_ | refine z1w ?_ | refine z1x ?_ | refine z1y ?_
        | refine z1z ?_ | refine z20 ?_ | refine z21 ?_ | refine z22 ?_ | refine z23 ?_ | refine z24 ?_ | refine z25 ?_ | refine z26 ?_ | refine z27 ?_
        | refine z28 (fun hp => ?_) (fun hp => ?_) | refine z29 (fun hp => ?_) (fun hp => ?_) | refine z2a ?_ | refine z2b ?_)
      exact fin_cln rfl hQ
    · have he0 : (cutF l (List.replicate l.length true) ⟨0, l.length, false⟩ r 0).err = 0 := by rw [hcc]; exact Decidable.byContradiction he
      obtain ⟨ps, e1, e2, to, e3, e4, e5, e6, e7⟩ := plain_cut he0
      rw [hcc] at e4 e5 e6 e7
      rw [e1] at hz2
      obtain ⟨cto, cat, ccut, cerr⟩ := c
      simp only at he e4 e5 e6 e7
      subst e4
      have htl : to < ps.length := by omega
      rw [getD_lt htl] at e5 e7
      have hz3 : Sl KI64 ps z := hz2
      rw [e1]
      dsimp only
      have hne : ¬ cat ≠ ps[(to : Int).toNat] := fun h => h e5
      cases ccut with
      | false =>
        have e8 := e6 rfl
        repeat' (first
          | refine wo_iaddrS rfl hz3 rfl ⟨by omega, by omega⟩ rfl rfl ?_
          | refine wo_lenS rfl hz3 rfl ?_
          | refine wx_ifDF rfl hne ?_
          | refine z00 ?_ | refine z01 ?_ | refine z02 ?_ | refine z03 ?_ | refine z04 ?_ | refine z05 ?_ | refine z06 ?_ | refine z07 ?_ | refine z08 ?_ | refine z09 ?_ | refine z0a ?_
          | refine z0b ?_ | refine z0c ?_ | refine z0d ?_ | refine z0e ?_ | refine z0f ?_ | refine z0g ?_ | refine z0h ?_ | refine z0i ?_ | refine z0j ?_ | refine z0k ?_ | refine z0l ?_
          | refine z0m ?_ | refine z0n ?_ | refine z0o ?_ | refine z0p ?_ | refine z0q ?_ | refine z0r ?_ | refine z0s ?_ | refine z0t ?_ | refine z0u ?_ | refine z0v ?_ | refine z0w ?_
          | refine z0x ?_ | refine z0y ?_ | refine z0z ?_ | refine z10 ?_ | refine z11 ?_ | refine z12 ?_ | refine z13 ?_ | refine z14 ?_ | refine z15 ?_ | refine z16 ?_ | refine z17 ?_
          | refine z18 ?_ | refine z19 ?_ | refine z1a ?_ | refine z1b ?_ | refine z1c ?_ | refine z1d ?_ | refine z1e ?_ | refine z1f (hk := ?_) | refine z1g ?_ | refine z1h ?_
          | refine z1i ?_ | refine z1j ?_ | refine z1k ?_ | refine z1l ?_ | refine z1m ?_ | refine z1n ?_ | refine z1o (fun hp => ?_) (fun hp => ?_) | refine z1p (fun hp => ?_) (fun hp => ?_)
          | refine z1q (fun hp => ?_) (fun hp => ?_) | refine z1r ?_ | refine z1s ?_ | refine z1t ?_ | refine z1u ?_ | refine z1v ?_ | refine z1w ?_ | refine z1x ?_ | refine z1y ?_
          | refine z1z ?_ | refine z20 ?_ | refine z21 ?_ | refine z22 ?_ | refine z23 ?_ | refine z24 ?_ | refine z25 ?_ | refine z26 ?_ | refine z27 ?_
          | refine z28 (fun hp => ?_) (fun hp => ?_) | refine z29 (fun hp => ?_) (fun hp => ?_) | refine z2a ?_ | refine z2b ?_)
        refine wx_roundL rfl ?_
        repeat' (first
          | refine wo_call rfl rfl rfl (hh _ _ _ ?_)
          | refine z00 ?_ | refine z01 ?_ | refine z02 ?_ | refine z03 ?_ | refine z04 ?_ | refine z05 ?_ | refine z06 ?_ | refine z07 ?_ | refine z08 ?_ | refine z09 ?_ | refine z0a ?_
          | refine z0b ?_ | refine z0c ?_ | refine z0d ?_ | refine z0e ?_ | refine z0f ?_ | refine z0g ?_ | refine z0h ?_ | refine z0i ?_ | refine z0j ?_ | refine z0k ?_ | refine z0l ?_
          | refine z0m ?_ | refine z0n ?_ | refine z0o ?_ | refine z0p ?_ | refine z0q ?_ | refine z0r ?_ | refine z0s ?_ | refine z0t ?_ | refine z0u ?_ | refine z0v ?_ | refine z0w ?_
          | refine z0x ?_ | refine z0y ?_ | refine z0z ?_ | refine z10 ?_ | refine z11 ?_ | refine z12 ?_ | refine z13 ?_ | refine z14 ?_ | refine z15 ?_ | refine z16 ?_ | refine z17 ?_
          | refine z18 ?_ | refine z19 ?_ | refine z1a ?_ | refine z1b ?_ | refine z1c ?_ | refine z1d ?_ | refine z1e ?_ | refine z1f (hk := ?_) | refine z1g ?_ | refine z1h ?_
          | refine z1i ?_ | refine z1j ?_ | refine z1k ?_ | refine z1l ?_ | refine z1m ?_ | refine z1n ?_ | refine z1o (fun hp => ?_) (fun hp => ?_) | refine z1p (fun hp => ?_) (fun hp => ?_)
          | refine z1q (fun hp => ?_) (fun hp => ?_) | refine z1r ?_ | refine z1s ?_ | refine z1t ?_ | refine z1u ?_ | refine z1v ?_ | refine z1w ?_ | refine z1x ?_ | refine z1y ?_
          | refine z1z ?_ | refine z20 ?_ | refine z21 ?_ | refine z22 ?_ | refine z23 ?_ | refine z24 ?_ | refine z25 ?_ | refine z26 ?_ | refine z27 ?_
          | refine z28 (fun hp => ?_) (fun hp => ?_) | refine z29 (fun hp => ?_) (fun hp => ?_) | refine z2a ?_ | refine z2b ?_)
        exact fin_cln rfl hQ
      | true =>
        obtain ⟨e9, e10⟩ := e7 rfl
        have e9' : cat ≤ r.width ∨ to = 0 := by rw [e5]; exact e9
        have key2 : ∀ (k p : Nat), p + k = l.length + 1 → to < p → ∀ {R : Ex → As → Mem → List LRec → Prop} (m : Mem),
            (R (.exit 2) [(0, v), (3, .pimm r.mv 0), (7, .int .i64 to), (8, .int .i64 cat), (9, .bool true)] m []) →
            Wx ip i_law26_EllipsisPlain.nt (.loop (lv [0, 3, 7, 8, 9, 11, 13] 128) law26_EllipsisPlain_b1) [(0, v), (3, .pimm r.mv 0), (7, .int .i64 to), (8, .int .i64 cat), (9, .bool true), (11, z), (13, .int .i64 p)] m [] R := by
          intro k
          induction k with
          | zero =>
            intro p hk hp R m hR
            refine wx_roundL rfl ?_
            repeat' (first
              | refine wx_exitL [0, 3, 7, 8, 9] ?_
              | refine z00 ?_ | refine z01 ?_ | refine z02 ?_ | refine z03 ?_ | refine z04 ?_ | refine z05 ?_ | refine z06 ?_ | refine z07 ?_ | refine z08 ?_ | refine z09 ?_ | refine z0a ?_
              | refine z0b ?_ | refine z0c ?_ | refine z0d ?_ | refine z0e ?_ | refine z0f ?_ | refine z0g ?_ | refine z0h ?_ | refine z0i ?_ | refine z0j ?_ | refine z0k ?_ | refine z0l ?_
              | refine z0m ?_ | refine z0n ?_ | refine z0o ?_ | refine z0p ?_ | refine z0q ?_ | refine z0r ?_ | refine z0s ?_ | refine z0t ?_ | refine z0u ?_ | refine z0v ?_ | refine z0w ?_
              | refine z0x ?_ | refine z0y ?_ | refine z0z ?_ | refine z10 ?_ | refine z11 ?_ | refine z12 ?_ | refine z13 ?_ | refine z14 ?_ | refine z15 ?_ | refine z16 ?_ | refine z17 ?_
              | refine z18 ?_ | refine z19 ?_ | refine z1a ?_ | refine z1b ?_ | refine z1c ?_ | refine z1d ?_ | refine z1e ?_ | refine z1f (hk := ?_) | refine z1g ?_ | refine z1h ?_
              | refine z1i ?_ | refine z1j ?_ | refine z1k ?_ | refine z1l ?_ | refine z1m ?_ | refine z1n ?_ | refine z1o (fun hp => ?_) (fun hp => ?_)
              | refine z1p (fun hp => ?_) (fun hp => ?_) | refine z1q (fun hp => ?_) (fun hp => ?_) | refine z1r ?_ | refine z1s ?_ | refine z1t ?_ | refine z1u ?_ | refine z1v ?_
              | refine z1w ?_ | refine z1x ?_ | refine z1y ?_ | refine z1z ?_ | refine z20 ?_ | refine z21 ?_ | refine z22 ?_ | refine z23 ?_ | refine z24 ?_ | refine z25 ?_ | refine z26 ?_
              | refine z27 ?_ | refine z28 (fun hp => ?_) (fun hp => ?_) | refine z29 (fun hp => ?_) (fun hp => ?_) | refine z2a ?_ | refine z2b ?_)
            exact hR
          | succ k ih =>
            intro p hk hp R m hR
            have hpl : p < ps.length := by omega
            have hno : ¬ ps[(p : Int).toNat] ≤ r.width := by
              have := e10 p hp (by omega)
              rw [getD_lt hpl] at this
              exact this
            refine wx_roundL rfl ?_
            repeat' (first
              | refine wo_iaddrS rfl hz3 rfl ⟨by omega, by omega⟩ rfl rfl ?_
              | refine wx_ifDF rfl hno ?_
              | refine z00 ?_ | refine z01 ?_ | refine z02 ?_ | refine z03 ?_ | refine z04 ?_ | refine z05 ?_ | refine z06 ?_ | refine z07 ?_ | refine z08 ?_ | refine z09 ?_ | refine z0a ?_
              | refine z0b ?_ | refine z0c ?_ | refine z0d ?_ | refine z0e ?_ | refine z0f ?_ | refine z0g ?_ | refine z0h ?_ | refine z0i ?_ | refine z0j ?_ | refine z0k ?_ | refine z0l ?_
              | refine z0m ?_ | refine z0n ?_ | refine z0o ?_ | refine z0p ?_ | refine z0q ?_ | refine z0r ?_ | refine z0s ?_ | refine z0t ?_ | refine z0u ?_ | refine z0v ?_ | refine z0w ?_
              | refine z0x ?_ | refine z0y ?_ | refine z0z ?_ | refine z10 ?_ | refine z11 ?_ | refine z12 ?_ | refine z13 ?_ | refine z14 ?_ | refine z15 ?_ | refine z16 ?_ | refine z17 ?_
              | refine z18 ?_ | refine z19 ?_ | refine z1a ?_ | refine z1b ?_ | refine z1c ?_ | refine z1d ?_ | refine z1e ?_ | refine z1f (hk := ?_) | refine z1g ?_ | refine z1h ?_
              | refine z1i ?_ | refine z1j ?_ | refine z1k ?_ | refine z1l ?_ | refine z1m ?_ | refine z1n ?_ | refine z1o (fun hp => ?_) (fun hp => ?_)
              | refine z1p (fun hp => ?_) (fun hp => ?_) | refine z1q (fun hp => ?_) (fun hp => ?_) | refine z1r ?_ | refine z1s ?_ | refine z1t ?_ | refine z1u ?_ | refine z1v ?_
              | refine z1w ?_ | refine z1x ?_ | refine z1y ?_ | refine z1z ?_ | refine z20 ?_ | refine z21 ?_ | refine z22 ?_ | refine z23 ?_ | refine z24 ?_ | refine z25 ?_ | refine z26 ?_
              | refine z27 ?_ | refine z28 (fun hp => ?_) (fun hp => ?_) | refine z29 (fun hp => ?_) (fun hp => ?_) | refine z2a ?_ | refine z2b ?_)
            exact wx_loopL (ih (p + 1) (by omega) (by omega) m hR)
        repeat' (first
          | refine wo_iaddrS rfl hz3 rfl ⟨by omega, by omega⟩ rfl rfl ?_
          | refine wo_lenS rfl hz3 rfl ?_
          | refine wx_ifDF rfl hne ?_
          | refine z00 ?_ | refine z01 ?_ | refine z02 ?_ | refine z03 ?_ | refine z04 ?_ | refine z05 ?_ | refine z06 ?_ | refine z07 ?_ | refine z08 ?_ | refine z09 ?_ | refine z0a ?_
          | refine z0b ?_ | refine z0c ?_ | refine z0d ?_ | refine z0e ?_ | refine z0f ?_ | refine z0g ?_ | refine z0h ?_ | refine z0i ?_ | refine z0j ?_ | refine z0k ?_ | refine z0l ?_
          | refine z0m ?_ | refine z0n ?_ | refine z0o ?_ | refine z0p ?_ | refine z0q ?_ | refine z0r ?_ | refine z0s ?_ | refine z0t ?_ | refine z0u ?_ | refine z0v ?_ | refine z0w ?_
          | refine z0x ?_ | refine z0y ?_ | refine z0z ?_ | refine z10 ?_ | refine z11 ?_ | refine z12 ?_ | refine z13 ?_ | refine z14 ?_ | refine z15 ?_ | refine z16 ?_ | refine z17 ?_
          | refine z18 ?_ | refine z19 ?_ | refine z1a ?_ | refine z1b ?_ | refine z1c ?_ | refine z1d ?_ | refine z1e ?_ | refine z1f (hk := ?_) | refine z1g ?_ | refine z1h ?_
          | refine z1i ?_ | refine z1j ?_ | refine z1k ?_ | refine z1l ?_ | refine z1m ?_ | refine z1n ?_ | refine z1o (fun hp => ?_) (fun hp => ?_) | refine z1p (fun hp => ?_) (fun hp => ?_)
          | refine z1q (fun hp => ?_) (fun hp => ?_) | refine z1r ?_ | refine z1s ?_ | refine z1t ?_ | refine z1u ?_ | refine z1v ?_ | refine z1w ?_ | refine z1x ?_ | refine z1y ?_
          | refine z1z ?_ | refine z20 ?_ | refine z21 ?_ | refine z22 ?_ | refine z23 ?_ | refine z24 ?_ | refine z25 ?_ | refine z26 ?_ | refine z27 ?_
          | refine z28 (fun hp => ?_) (fun hp => ?_) | refine z29 (fun hp => ?_) (fun hp => ?_) | refine z2a ?_ | refine z2b ?_)
        refine wx_loopL ?_
        refine key2 (l.length - to) (to + 1) (by omega) (by omega) _ ?_
        repeat' (first
          | refine wo_call rfl rfl rfl (hh _ _ _ ?_)
          | refine z00 ?_ | refine z01 ?_ | refine z02 ?_ | refine z03 ?_ | refine z04 ?_ | refine z05 ?_ | refine z06 ?_ | refine z07 ?_ | refine z08 ?_ | refine z09 ?_ | refine z0a ?_
          | refine z0b ?_ | refine z0c ?_ | refine z0d ?_ | refine z0e ?_ | refine z0f ?_ | refine z0g ?_ | refine z0h ?_ | refine z0i ?_ | refine z0j ?_ | refine z0k ?_ | refine z0l ?_
          | refine z0m ?_ | refine z0n ?_ | refine z0o ?_ | refine z0p ?_ | refine z0q ?_ | refine z0r ?_ | refine z0s ?_ | refine z0t ?_ | refine z0u ?_ | refine z0v ?_ | refine z0w ?_
          | refine z0x ?_ | refine z0y ?_ | refine z0z ?_ | refine z10 ?_ | refine z11 ?_ | refine z12 ?_ | refine z13 ?_ | refine z14 ?_ | refine z15 ?_ | refine z16 ?_ | refine z17 ?_
          | refine z18 ?_ | refine z19 ?_ | refine z1a ?_ | refine z1b ?_ | refine z1c ?_ | refine z1d ?_ | refine z1e ?_ | refine z1f (hk := ?_) | refine z1g ?_ | refine z1h ?_
          | refine z1i ?_ | refine z1j ?_ | refine z1k ?_ | refine z1l ?_ | refine z1m ?_ | refine z1n ?_ | refine z1o (fun hp => ?_) (fun hp => ?_) | refine z1p (fun hp => ?_) (fun hp => ?_)
          | refine z1q (fun hp => ?_) (fun hp => ?_) | refine z1r ?_ | refine z1s ?_ | refine z1t ?_ | refine z1u ?_ | refine z1v ?_ | refine z1w ?_ | refine z1x ?_ | refine z1y ?_
          | refine z1z ?_ | refine z20 ?_ | refine z21 ?_ | refine z22 ?_ | refine z23 ?_ | refine z24 ?_ | refine z25 ?_ | refine z26 ?_ | refine z27 ?_
          | refine z28 (fun hp => ?_) (fun hp => ?_) | refine z29 (fun hp => ?_) (fun hp => ?_) | refine z2a ?_ | refine z2b ?_)
        all_goals first | exact fin_cln rfl hQ | (exfalso; omega)

end
end Go.Proofs.Ytnekgoanadbmmaa
