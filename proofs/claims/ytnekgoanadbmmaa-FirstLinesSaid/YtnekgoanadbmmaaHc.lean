/-
The document's roles are the program's; ref13.
-/
import Derived.Test.YtnekgoanadbmmaaHb
namespace Go.Proofs.Ytnekgoanadbmmaa
open Go.Mini
set_option linter.unusedSimpArgs false
set_option linter.unusedVariables false
set_option maxHeartbeats 4000000

section
variable {m : Mem} {ls : List LRec} {Q : MV → Mem → List LRec → Prop}

/-! ### Plainly -/

theorem walk_up {l : List Cell} {pr : Cell → Bool} : ∀ (n i : Nat), i + n = l.length → ∀ j : Nat, ((j : Int) ∈ walkF l pr 1 n (i : Int) ↔ i ≤ j ∧ j < l.length ∧ ∀ t, i ≤ t → t ≤ j → pr (l.getD t default) = true)
  | 0, i, h, j => by
    simp only [walkF, List.not_mem_nil, false_iff]
    omega
  | n + 1, i, h, j => by
    simp only [walkF, Int.toNat_natCast]
    by_cases hp : pr (l.getD i default) = true
    · rw [if_pos hp, List.mem_cons]
      have ih := walk_up (l := l) n (i + 1) (by omega) (pr := pr) j
      rw [show ((i + 1 : Nat) : Int) = (i : Int) + 1 by omega] at ih
      rw [ih]
      constructor
      · rintro (h1 | ⟨h1, h2, h3⟩)
        · have : j = i := by omega
          subst this
          exact ⟨by omega, by omega, fun t h4 h5 => by rw [show t = j by omega]; exact hp⟩
        · refine ⟨by omega, h2, fun t h4 h5 => ?_⟩
          by_cases e : t = i
          · subst e; exact hp
          · exact h3 t (by omega) h5
      · rintro ⟨h1, h2, h3⟩
        by_cases e : j = i
        · left; omega
        · right
          exact ⟨by omega, h2, fun t h4 h5 => h3 t (by omega) h5⟩
    · rw [if_neg hp]
      simp only [List.not_mem_nil, false_iff]
      rintro ⟨h1, h2, h3⟩
      exact hp (h3 i (by omega) h1)

theorem walk_dn {l : List Cell} {pr : Cell → Bool} : ∀ (n : Nat), n ≤ l.length → ∀ j : Nat, ((j : Int) ∈ walkF l pr (-1) n ((n : Int) - 1) ↔ j < n ∧ ∀ t, j ≤ t → t < n → pr (l.getD t default) = true)
  | 0, h, j => by simp [walkF]
  | n + 1, h, j => by
    have e0 : ((n + 1 : Nat) : Int) - 1 = n := by omega
    simp only [walkF, e0, Int.toNat_natCast]
    by_cases hp : pr (l.getD n default) = true
    · rw [if_pos hp, List.mem_cons]
      have ih := walk_dn (l := l) n (by omega) (pr := pr) j
      rw [show (n : Int) + -1 = (n : Int) - 1 by omega, ih]
      constructor
      · rintro (h1 | ⟨h1, h3⟩)
        · have : j = n := by omega
          subst this
          exact ⟨by omega, fun t h4 h5 => by rw [show t = j by omega]; exact hp⟩
        · refine ⟨by omega, fun t h4 h5 => ?_⟩
          by_cases e : t = n
          · subst e; exact hp
          · exact h3 t h4 (by omega)
      · rintro ⟨h1, h3⟩
        by_cases e : j = n
        · left; omega
        · right
          exact ⟨by omega, fun t h4 h5 => h3 t h4 (by omega)⟩
    · rw [if_neg hp]
      simp only [List.not_mem_nil, false_iff]
      rintro ⟨h1, h3⟩
      exact hp (h3 n (by omega) (by omega))

theorem mark_get {l : List Cell} {k r i : Int} {out : List Int} {j : Nat} (h0 : 0 ≤ i) (h1 : i < l.length) (ho : out.length = l.length) (hj : j < l.length) :
    (markF l k r out i).getD j 0 = if (j : Int) = i ∧ (l.getD j default).kind = k then r else out.getD j 0 := by
  unfold markF
  by_cases hk : (l.getD i.toNat default).kind = k
  · rw [if_pos hk]
    by_cases e : (j : Int) = i
    · subst e
      rw [if_pos ⟨rfl, by simpa using hk⟩]
      rw [getD_lt (by simp; omega)]
      simp
    · rw [if_neg (fun c => e c.1), getD_lt (by simp; omega), getD_lt (by omega), List.getElem_set_ne (by omega)]
  · rw [if_neg hk, if_neg]
    rintro ⟨e, c⟩
    subst e
    exact hk (by simpa using c)

theorem pass_get {l : List Cell} {k r : Int} : ∀ {idx : List Int} {out : List Int} {j : Nat}, (∀ i ∈ idx, 0 ≤ i ∧ i < l.length) → out.length = l.length → j < l.length →
    (idx.foldl (markF l k r) out).getD j 0 = if (j : Int) ∈ idx ∧ (l.getD j default).kind = k then r else out.getD j 0
  | [], out, j, _, _, _ => by simp
  | i :: is, out, j, hi, ho, hj => by
    have h := hi i (by simp)
    rw [List.foldl_cons, pass_get (fun i h => hi i (by simp [h])) (by rw [mark_len]; exact ho) hj, mark_get h.1 h.2 ho hj]
    by_cases hk : (l.getD j default).kind = k
    · by_cases e1 : (j : Int) ∈ is
      · rw [if_pos ⟨e1, hk⟩, if_pos ⟨by simp [e1], hk⟩]
      · rw [if_neg (fun c => e1 c.1)]
        by_cases e2 : (j : Int) = i
        · rw [if_pos ⟨e2, hk⟩, if_pos ⟨by simp [e2], hk⟩]
        · rw [if_neg (fun c => e2 c.1), if_neg (fun c => by rcases List.mem_cons.1 c.1 with h | h; exact e2 h; exact e1 h)]
    · rw [if_neg (fun c => hk c.2), if_neg (fun c => hk c.2), if_neg (fun c => hk c.2)]

theorem just_take {l : List Cell} {a b : Int} {j : Nat} (hj : j ≤ l.length) : justF (l.take j) a b = true ↔ ∀ t, t < j → (edgeC (l.getD t default) || decide ((l.getD t default).kind = a) || decide ((l.getD t default).kind = b)) = true := by
  unfold justF
  rw [List.all_eq_true]
  constructor
  · intro h t ht
    rw [getD_lt (by omega)]
    exact h _ (by rw [List.mem_take_iff_getElem]; exact ⟨t, by omega, rfl⟩)
  · intro h c hc
    obtain ⟨t, ht, rfl⟩ := List.mem_take_iff_getElem.1 hc
    have := h t (by omega)
    rw [getD_lt (by omega)] at this
    exact this
theorem just_drop {l : List Cell} {a b : Int} {j : Nat} : justF (l.drop j) a b = true ↔ ∀ t, j ≤ t → t < l.length → (edgeC (l.getD t default) || decide ((l.getD t default).kind = a) || decide ((l.getD t default).kind = b)) = true := by
  unfold justF
  rw [List.all_eq_true]
  constructor
  · intro h t h1 h2
    rw [getD_lt h2]
    refine h _ ?_
    rw [List.mem_iff_getElem]
    exact ⟨t - j, by simp; omega, by simp; congr 1; omega⟩
  · intro h c hc
    obtain ⟨t, ht, rfl⟩ := List.mem_iff_getElem.1 hc
    simp at ht
    have := h (j + t) (by omega) (by omega)
    rw [getD_lt (by omega)] at this
    simpa using this

theorem roles0_get {l : List Cell} {j : Nat} (hj : j < l.length) : (roles0 l).getD j 0 = if (l.getD j default).kind = 1 ∧ justF (l.take j) 1 1 = true then 1 else 0 := by
  unfold roles0
  rw [pass_get (fun i hi => walkIn (.inl ⟨rfl, by omega, by omega⟩) i hi) (by simp) hj]
  have hw : (j : Int) ∈ walkF l blankC 1 l.length 0 ↔ _ := walk_up (l := l) (pr := blankC) l.length 0 (by omega) j
  have hjt := just_take (l := l) (a := 1) (b := 1) (j := j) (by omega)
  rw [getD_lt (l := List.replicate l.length 0) (by simpa using hj), List.getElem_replicate]
  by_cases hk : (l.getD j default).kind = 1
  · by_cases hall : justF (l.take j) 1 1 = true
    · have hm := hw.2 ⟨by omega, hj, fun t _ h => by
        by_cases e : t = j
        · subst e; unfold blankC; rw [decide_eq_true hk, Bool.or_true]
        · have := hjt.1 hall t (by omega); simp only [Bool.or_self, Bool.or_assoc] at this; exact this⟩
      rw [if_pos ⟨hm, hk⟩, if_pos ⟨hk, hall⟩]
    · rw [if_neg (fun c => hall (hjt.2 fun t ht => by have := (hw.1 c.1).2.2 t (by omega) (by omega); simp only [Bool.or_self, Bool.or_assoc]; exact this)), if_neg (fun c => hall c.2)]
  · rw [if_neg (fun c => hk c.2), if_neg (fun c => hk c.1)]

theorem roles1_get {l : List Cell} {j : Nat} (hj : j < l.length) : (roles1 l).getD j 0 = if (l.getD j default).kind = 1 ∧ (justF (l.take j) 1 1 = true ∨ justF (l.drop (j + 1)) 1 1 = true) then 1 else 0 := by
  unfold roles1
  rw [pass_get (fun i hi => walkIn (.inr ⟨rfl, by omega, by omega⟩) i hi) (by unfold roles0; rw [pass_len]; simp) hj, roles0_get hj]
  have hw := walk_dn (l := l) (pr := blankC) l.length (by omega) j
  have hjd := just_drop (l := l) (a := 1) (b := 1) (j := j + 1)
  by_cases hk : (l.getD j default).kind = 1
  · by_cases hall : justF (l.drop (j + 1)) 1 1 = true
    · have hm := hw.2 ⟨hj, fun t h1 h2 => by
        by_cases e : t = j
        · subst e; unfold blankC; rw [decide_eq_true hk, Bool.or_true]
        · have := hjd.1 hall t (by omega) h2; simp only [Bool.or_self, Bool.or_assoc] at this; exact this⟩
      rw [if_pos ⟨hm, hk⟩, if_pos ⟨hk, .inr hall⟩]
    · rw [if_neg (fun c => hall (hjd.2 fun t h1 h2 => by have := (hw.1 c.1).2 t (by omega) h2; simp only [Bool.or_self, Bool.or_assoc]; exact this))]
      by_cases h2 : justF (l.take j) 1 1 = true
      · rw [if_pos ⟨hk, h2⟩, if_pos ⟨hk, .inl h2⟩]
      · rw [if_neg (fun c => h2 c.2), if_neg (fun c => by rcases c.2 with h | h; exact h2 h; exact hall h)]
  · rw [if_neg (fun c => hk c.2), if_neg (fun c => hk c.1), if_neg (fun c => hk c.1)]

theorem rolesF_get {l : List Cell} {j : Nat} (hj : j < l.length) : (rolesF l).getD j 0 = roleF l j := by
  unfold rolesF roleF
  rw [pass_get (fun i hi => walkIn (.inr ⟨rfl, by omega, by omega⟩) i hi) (by unfold roles1 roles0; rw [pass_len, pass_len]; simp) hj, roles1_get hj]
  have hw := walk_dn (l := l) (pr := hangC) l.length (by omega) j
  have hjd := just_drop (l := l) (a := 1) (b := 2) (j := j + 1)
  by_cases hk : (l.getD j default).kind = 2
  · have hk1 : ¬ (l.getD j default).kind = 1 := by omega
    by_cases hall : justF (l.drop (j + 1)) 1 2 = true
    · have hm := hw.2 ⟨hj, fun t h1 h2 => by
        by_cases e : t = j
        · subst e; unfold hangC; rw [decide_eq_true hk, Bool.or_true]
        · exact hjd.1 hall t (by omega) h2⟩
      rw [if_pos ⟨hm, hk⟩, if_neg (fun c => hk1 c.1), if_pos ⟨hk, hall⟩]
    · rw [if_neg (fun c => hall (hjd.2 fun t h1 h2 => (hw.1 c.1).2 t (by omega) h2)), if_neg (fun c => hk1 c.1), if_neg (fun c => hk1 c.1), if_neg (fun c => hall c.2)]
  · rw [if_neg (fun c => hk c.2)]
    by_cases hc : (l.getD j default).kind = 1 ∧ (justF (l.take j) 1 1 = true ∨ justF (l.drop (j + 1)) 1 1 = true)
    · rw [if_pos hc, if_pos hc]
    · rw [if_neg hc, if_neg hc, if_neg (fun c => hk c.1)]

def rolesR (l : List Cell) : List Int := (List.range l.length).map (roleF l)
theorem rolesR_eq (l : List Cell) : rolesR l = rolesF l := by
  have hl := rolesF_len (l := l)
  unfold rolesR
  apply List.ext_getElem (by simp [hl])
  intro i h1 h2
  rw [hl] at h2
  have := rolesF_get h2
  rw [getD_lt (by omega)] at this
  simp [this]

/-! ### ref13 -/

theorem w_Roles13 {v : MV} {l : List Cell} (hv : Sl KCell l v) (hl : l.length ≤ 1000000) {R : MV → Mem → List LRec → Prop}
    (hR : ∀ u m', Hold KU8 0 (rolesF l) m' u → R u m' []) : Wx ip i_ref13_Roles.nt i_ref13_Roles.body (args0 0 [v]) [] [] (endK i_ref13_Roles.res R) := by
  show Wx ip i_ref13_Roles.nt c_ref13_Roles (args0 0 [v]) [] [] (endK i_ref13_Roles.res R)
  have key : ∀ (k i : Nat), i + k = l.length → ∀ (m : Mem) (u : MV), Hold KU8 0 ((rolesR l).take i) m u → ∀ {R : Ex → As → Mem → List LRec → Prop}, (∀ m' u', Hold KU8 0 (rolesR l) m' u' → R (.exit 0) [(3, u')] m' []) →
      Wx ip i_ref13_Roles.nt (.loop (lv [0, 3, 4] 18) ref13_Roles_b0) [(0, v), (3, u), (4, .int .i64 i)] m [] R := by
    intro k
    induction k with
    | zero =>
      intro i hk m u hu R hR
      rw [List.take_of_length_le (by simp [rolesR]; omega)] at hu
      refine wx_roundL rfl ?_
      repeat' (first
        | refine wx_exitL [3] ?_
        | refine z00 ?_ | refine z01 ?_ | refine z02 ?_ | refine z04 ?_ | refine z05 ?_ | refine z08 ?_ | refine zp ?_ | refine z0g ?_ | refine z0h ?_ | refine z0j ?_ | refine z0k ?_
        | refine z0l ?_ | refine z0n ?_ | refine z0o ?_ | refine z0p ?_ | refine z0q ?_ | refine z0r ?_ | refine z0s ?_ | refine z0v ?_ | refine z0z ?_ | refine z12 ?_ | refine z14 ?_
        | refine z15 ?_ | refine z1e ?_ | refine z1f (hk := ?_) | refine z1i ?_ | refine z1j ?_ | refine z1k ?_ | refine z1l ?_ | refine z1m ?_ | refine z1n ?_
        | refine z1o (fun hp => ?_) (fun hp => ?_) | refine z1p (fun hp => ?_) (fun hp => ?_) | refine z1q (fun hp => ?_) (fun hp => ?_) | refine z1r ?_ | refine z1s ?_ | refine z1t ?_
        | refine z1u ?_ | refine z1v ?_ | refine z1w ?_ | refine z1x ?_ | refine z1y ?_ | refine z1z ?_ | refine z20 ?_ | refine z21 ?_ | refine z22 ?_ | refine z23 ?_ | refine z24 ?_
        | refine z25 ?_ | refine z26 ?_ | refine z27 ?_ | refine z28 (fun hp => ?_) (fun hp => ?_) | refine z29 (fun hp => ?_) (fun hp => ?_) | refine z2a ?_ | refine z2b ?_)
      exact hR _ _ hu
    | succ k ih =>
      intro i hk m u hu R hR
      have hlt : i < l.length := by omega
      have htk : (rolesR l).take (i + 1) = (rolesR l).take i ++ [roleF l i] := by
        rw [List.take_succ_eq_append_getElem (by simp [rolesR]; omega)]
        simp [rolesR]
      have hul : ((rolesR l).take i).length ≤ 1000000 := by simp [rolesR]; omega
      obtain ⟨v2, m2, a1, a2, _, _⟩ := hu.add1 (bytes := 1) (sz := 1) (y := roleF l i) (cs := [.int .u8 (roleF l i)]) (kc := some 1) (by omega) (by omega) rfl rfl
      refine wx_roundL rfl ?_
      repeat' (first
        | refine wo_call rfl rfl rfl (c_Role13 rfl hv hl hlt ?_)
        | refine wo_app rfl rfl a1 rfl ?_
        | refine z00 ?_ | refine z01 ?_ | refine z02 ?_ | refine z04 ?_ | refine z05 ?_ | refine z08 ?_ | refine zp ?_ | refine z0g ?_ | refine z0h ?_ | refine z0j ?_ | refine z0k ?_
        | refine z0l ?_ | refine z0n ?_ | refine z0o ?_ | refine z0p ?_ | refine z0q ?_ | refine z0r ?_ | refine z0s ?_ | refine z0v ?_ | refine z0z ?_ | refine z12 ?_ | refine z14 ?_
        | refine z15 ?_ | refine z1e ?_ | refine z1f (hk := ?_) | refine z1i ?_ | refine z1j ?_ | refine z1k ?_ | refine z1l ?_ | refine z1m ?_ | refine z1n ?_
        | refine z1o (fun hp => ?_) (fun hp => ?_) | refine z1p (fun hp => ?_) (fun hp => ?_) | refine z1q (fun hp => ?_) (fun hp => ?_) | refine z1r ?_ | refine z1s ?_ | refine z1t ?_
        | refine z1u ?_ | refine z1v ?_ | refine z1w ?_ | refine z1x ?_ | refine z1y ?_ | refine z1z ?_ | refine z20 ?_ | refine z21 ?_ | refine z22 ?_ | refine z23 ?_ | refine z24 ?_
        | refine z25 ?_ | refine z26 ?_ | refine z27 ?_ | refine z28 (fun hp => ?_) (fun hp => ?_) | refine z29 (fun hp => ?_) (fun hp => ?_) | refine z2a ?_ | refine z2b ?_)
      refine wx_loopL ?_
      exact ih (i + 1) (by omega) m2 v2 (by rw [htk]; exact a2) hR
  repeat' (first
    | refine z00 ?_ | refine z01 ?_ | refine z02 ?_ | refine z04 ?_ | refine z05 ?_ | refine z08 ?_ | refine zp ?_ | refine z0g ?_ | refine z0h ?_ | refine z0j ?_ | refine z0k ?_
    | refine z0l ?_ | refine z0n ?_ | refine z0o ?_ | refine z0p ?_ | refine z0q ?_ | refine z0r ?_ | refine z0s ?_ | refine z0v ?_ | refine z0z ?_ | refine z12 ?_ | refine z14 ?_
    | refine z15 ?_ | refine z1e ?_ | refine z1f (hk := ?_) | refine z1i ?_ | refine z1j ?_ | refine z1k ?_ | refine z1l ?_ | refine z1m ?_ | refine z1n ?_
    | refine z1o (fun hp => ?_) (fun hp => ?_) | refine z1p (fun hp => ?_) (fun hp => ?_) | refine z1q (fun hp => ?_) (fun hp => ?_) | refine z1r ?_ | refine z1s ?_ | refine z1t ?_
    | refine z1u ?_ | refine z1v ?_ | refine z1w ?_ | refine z1x ?_ | refine z1y ?_ | refine z1z ?_ | refine z20 ?_ | refine z21 ?_ | refine z22 ?_ | refine z23 ?_ | refine z24 ?_
    | refine z25 ?_ | refine z26 ?_ | refine z27 ?_ | refine z28 (fun hp => ?_) (fun hp => ?_) | refine z29 (fun hp => ?_) (fun hp => ?_) | refine z2a ?_ | refine z2b ?_)
  refine wx_loopL ?_
  refine key l.length 0 (by omega) [] .nils .nil ?_
  intro m' u' hu'
  rw [rolesR_eq] at hu'
  repeat' (first
    | refine z00 ?_ | refine z01 ?_ | refine z02 ?_ | refine z04 ?_ | refine z05 ?_ | refine z08 ?_ | refine zp ?_ | refine z0g ?_ | refine z0h ?_ | refine z0j ?_ | refine z0k ?_
    | refine z0l ?_ | refine z0n ?_ | refine z0o ?_ | refine z0p ?_ | refine z0q ?_ | refine z0r ?_ | refine z0s ?_ | refine z0v ?_ | refine z0z ?_ | refine z12 ?_ | refine z14 ?_
    | refine z15 ?_ | refine z1e ?_ | refine z1f (hk := ?_) | refine z1i ?_ | refine z1j ?_ | refine z1k ?_ | refine z1l ?_ | refine z1m ?_ | refine z1n ?_
    | refine z1o (fun hp => ?_) (fun hp => ?_) | refine z1p (fun hp => ?_) (fun hp => ?_) | refine z1q (fun hp => ?_) (fun hp => ?_) | refine z1r ?_ | refine z1s ?_ | refine z1t ?_
    | refine z1u ?_ | refine z1v ?_ | refine z1w ?_ | refine z1x ?_ | refine z1y ?_ | refine z1z ?_ | refine z20 ?_ | refine z21 ?_ | refine z22 ?_ | refine z23 ?_ | refine z24 ?_
    | refine z25 ?_ | refine z26 ?_ | refine z27 ?_ | refine z28 (fun hp => ?_) (fun hp => ?_) | refine z29 (fun hp => ?_) (fun hp => ?_) | refine z2a ?_ | refine z2b ?_)
  exact hR _ _ hu'

theorem c_Blank13 {l : List Cell} {v : MV} {b : Bool} (hb : blankF l = b) (hv : Sl KCell l v) (hl : l.length ≤ 1000000) (hQ : Q (.bool b) m ls) : Wc ip f_ref13_Blank [v] m ls Q := by
  subst hb
  refine wc_fn3d rfl fn_ref13_Blank rfl (by simp [deepVs, hv.deep]) rfl ?_
  have key : ∀ (k i : Nat), i + k = l.length → (∀ j, j < i → (decide ((rolesF l).getD j 0 = 1) || edgeC (l.getD j default)) = true) → ∀ {R : Ex → As → Mem → List LRec → Prop}, (blankF l = true → R (.exit 0) [] [] []) → (blankF l = false → R .ret [(2, .bool false)] [] []) →
      Wx ip i_ref13_Blank.nt (.loop (lv [0, 3] 22) ref13_Blank_b0) [(0, v), (3, .int .i64 i)] [] [] R := by
    intro k
    induction k with
    | zero =>
      intro i hk hd R h1 h2
      have e : blankF l = true := by
        unfold blankF
        rw [List.all_eq_true]
        intro j hj
        exact hd j (by rw [List.mem_range] at hj; omega)
      refine wx_roundL rfl ?_
      repeat' (first
        | refine wx_exitL [] ?_
        | refine z00 ?_ | refine z01 ?_ | refine z02 ?_ | refine z04 ?_ | refine z05 ?_ | refine z08 ?_ | refine zp ?_ | refine z0g ?_ | refine z0h ?_ | refine z0j ?_ | refine z0k ?_
        | refine z0l ?_ | refine z0n ?_ | refine z0o ?_ | refine z0p ?_ | refine z0q ?_ | refine z0r ?_ | refine z0s ?_ | refine z0v ?_ | refine z0z ?_ | refine z12 ?_ | refine z14 ?_
        | refine z15 ?_ | refine z1e ?_ | refine z1f (hk := ?_) | refine z1i ?_ | refine z1j ?_ | refine z1k ?_ | refine z1l ?_ | refine z1m ?_ | refine z1n ?_
        | refine z1o (fun hp => ?_) (fun hp => ?_) | refine z1p (fun hp => ?_) (fun hp => ?_) | refine z1q (fun hp => ?_) (fun hp => ?_) | refine z1r ?_ | refine z1s ?_ | refine z1t ?_
        | refine z1u ?_ | refine z1v ?_ | refine z1w ?_ | refine z1x ?_ | refine z1y ?_ | refine z1z ?_ | refine z20 ?_ | refine z21 ?_ | refine z22 ?_ | refine z23 ?_ | refine z24 ?_
        | refine z25 ?_ | refine z26 ?_ | refine z27 ?_ | refine z28 (fun hp => ?_) (fun hp => ?_) | refine z29 (fun hp => ?_) (fun hp => ?_) | refine z2a ?_ | refine z2b ?_)
      exact h1 e
    | succ k ih =>
      intro i hk hd R h1 h2
      have hlt : i < l.length := by omega
      have hrg := rolesF_get hlt
      have nx : (decide (roleF l i = 1) || edgeC l[i]) = true → Wx ip i_ref13_Blank.nt (.loop (lv [0, 3] 22) ref13_Blank_b0) [(0, v), (3, .int .i64 ((i : Int) + 1))] [] [] R := fun h =>
        ih (i + 1) (by omega) (fun j hj => by
          by_cases e : j = i
          · subst e; rw [hrg, getD_lt hlt]; exact h
          · exact hd j (by omega)) h1 h2
      refine wx_roundL rfl ?_
      cases he : edgeC l[i] with
      | true =>
        repeat' (first
          | refine wo_call rfl rfl rfl (c_edge13 he ?_)
          | refine z00 ?_ | refine z01 ?_ | refine z02 ?_ | refine z04 ?_ | refine z05 ?_ | refine z08 ?_ | refine zp ?_ | refine z0g ?_ | refine z0h ?_ | refine z0j ?_ | refine z0k ?_
          | refine z0l ?_ | refine z0n ?_ | refine z0o ?_ | refine z0p ?_ | refine z0q ?_ | refine z0r ?_ | refine z0s ?_ | refine z0v ?_ | refine z0z ?_ | refine z12 ?_ | refine z14 ?_
          | refine z15 ?_ | refine z1e ?_ | refine z1f (hk := ?_) | refine z1i ?_ | refine z1j ?_ | refine z1k ?_ | refine z1l ?_ | refine z1m ?_ | refine z1n ?_
          | refine z1o (fun hp => ?_) (fun hp => ?_) | refine z1p (fun hp => ?_) (fun hp => ?_) | refine z1q (fun hp => ?_) (fun hp => ?_) | refine z1r ?_ | refine z1s ?_ | refine z1t ?_
          | refine z1u ?_ | refine z1v ?_ | refine z1w ?_ | refine z1x ?_ | refine z1y ?_ | refine z1z ?_ | refine z20 ?_ | refine z21 ?_ | refine z22 ?_ | refine z23 ?_ | refine z24 ?_
          | refine z25 ?_ | refine z26 ?_ | refine z27 ?_ | refine z28 (fun hp => ?_) (fun hp => ?_) | refine z29 (fun hp => ?_) (fun hp => ?_) | refine z2a ?_ | refine z2b ?_)
        exact wx_loopL (nx (by rw [he]; simp))
      | false =>
        by_cases hr : roleF l i ≠ 1
        · have e : blankF l = false := by
            unfold blankF
            rw [List.all_eq_false]
            refine ⟨i, by rw [List.mem_range]; exact hlt, ?_⟩
            rw [hrg, getD_lt hlt, he]
            simpa using hr
          repeat' (first
            | refine wx_retL [2] ?_
            | refine wo_call rfl rfl rfl (c_edge13 he ?_)
            | refine wo_call rfl rfl rfl (c_Role13 rfl hv hl hlt ?_)
            | refine wx_ifDT rfl hr ?_
            | refine z00 ?_ | refine z01 ?_ | refine z02 ?_ | refine z04 ?_ | refine z05 ?_ | refine z08 ?_ | refine zp ?_ | refine z0g ?_ | refine z0h ?_ | refine z0j ?_ | refine z0k ?_
            | refine z0l ?_ | refine z0n ?_ | refine z0o ?_ | refine z0p ?_ | refine z0q ?_ | refine z0r ?_ | refine z0s ?_ | refine z0v ?_ | refine z0z ?_ | refine z12 ?_ | refine z14 ?_
            | refine z15 ?_ | refine z1e ?_ | refine z1f (hk := ?_) | refine z1i ?_ | refine z1j ?_ | refine z1k ?_ | refine z1l ?_ | refine z1m ?_ | refine z1n ?_
            | refine z1o (fun hp => ?_) (fun hp => ?_) | refine z1p (fun hp => ?_) (fun hp => ?_) | refine z1q (fun hp => ?_) (fun hp => ?_) | refine z1r ?_ | refine z1s ?_ | refine z1t ?_
            | refine z1u ?_ | refine z1v ?_ | refine z1w ?_ | refine z1x ?_ | refine z1y ?_ | refine z1z ?_ | refine z20 ?_ | refine z21 ?_ | refine z22 ?_ | refine z23 ?_ | refine z24 ?_
            | refine z25 ?_ | refine z26 ?_ | refine z27 ?_ | refine z28 (fun hp => ?_) (fun hp => ?_) | refine z29 (fun hp => ?_) (fun hp => ?_) | refine z2a ?_ | refine z2b ?_)
          exact h2 e
        · repeat' (first
            | refine wo_call rfl rfl rfl (c_edge13 he ?_)
            | refine wo_call rfl rfl rfl (c_Role13 rfl hv hl hlt ?_)
            | refine wx_ifDF rfl hr ?_
            | refine z00 ?_ | refine z01 ?_ | refine z02 ?_ | refine z04 ?_ | refine z05 ?_ | refine z08 ?_ | refine zp ?_ | refine z0g ?_ | refine z0h ?_ | refine z0j ?_ | refine z0k ?_
            | refine z0l ?_ | refine z0n ?_ | refine z0o ?_ | refine z0p ?_ | refine z0q ?_ | refine z0r ?_ | refine z0s ?_ | refine z0v ?_ | refine z0z ?_ | refine z12 ?_ | refine z14 ?_
            | refine z15 ?_ | refine z1e ?_ | refine z1f (hk := ?_) | refine z1i ?_ | refine z1j ?_ | refine z1k ?_ | refine z1l ?_ | refine z1m ?_ | refine z1n ?_
            | refine z1o (fun hp => ?_) (fun hp => ?_) | refine z1p (fun hp => ?_) (fun hp => ?_) | refine z1q (fun hp => ?_) (fun hp => ?_) | refine z1r ?_ | refine z1s ?_ | refine z1t ?_
            | refine z1u ?_ | refine z1v ?_ | refine z1w ?_ | refine z1x ?_ | refine z1y ?_ | refine z1z ?_ | refine z20 ?_ | refine z21 ?_ | refine z22 ?_ | refine z23 ?_ | refine z24 ?_
            | refine z25 ?_ | refine z26 ?_ | refine z27 ?_ | refine z28 (fun hp => ?_) (fun hp => ?_) | refine z29 (fun hp => ?_) (fun hp => ?_) | refine z2a ?_ | refine z2b ?_)
          exact wx_loopL (nx (by simp at hr; simp [hr]))
  repeat' (first
    | refine z00 ?_ | refine z01 ?_ | refine z02 ?_ | refine z04 ?_ | refine z05 ?_ | refine z08 ?_ | refine zp ?_ | refine z0g ?_ | refine z0h ?_ | refine z0j ?_ | refine z0k ?_
    | refine z0l ?_ | refine z0n ?_ | refine z0o ?_ | refine z0p ?_ | refine z0q ?_ | refine z0r ?_ | refine z0s ?_ | refine z0v ?_ | refine z0z ?_ | refine z12 ?_ | refine z14 ?_
    | refine z15 ?_ | refine z1e ?_ | refine z1f (hk := ?_) | refine z1i ?_ | refine z1j ?_ | refine z1k ?_ | refine z1l ?_ | refine z1m ?_ | refine z1n ?_
    | refine z1o (fun hp => ?_) (fun hp => ?_) | refine z1p (fun hp => ?_) (fun hp => ?_) | refine z1q (fun hp => ?_) (fun hp => ?_) | refine z1r ?_ | refine z1s ?_ | refine z1t ?_
    | refine z1u ?_ | refine z1v ?_ | refine z1w ?_ | refine z1x ?_ | refine z1y ?_ | refine z1z ?_ | refine z20 ?_ | refine z21 ?_ | refine z22 ?_ | refine z23 ?_ | refine z24 ?_
    | refine z25 ?_ | refine z26 ?_ | refine z27 ?_ | refine z28 (fun hp => ?_) (fun hp => ?_) | refine z29 (fun hp => ?_) (fun hp => ?_) | refine z2a ?_ | refine z2b ?_)
  refine wx_loopL ?_
  refine key l.length 0 (by omega) (by omega) ?_ ?_
  · intro h
    rw [h] at hQ
    repeat' (first
      | refine z00 ?_ | refine z01 ?_ | refine z02 ?_ | refine z04 ?_ | refine z05 ?_ | refine z08 ?_ | refine zp ?_ | refine z0g ?_ | refine z0h ?_ | refine z0j ?_ | refine z0k ?_
      | refine z0l ?_ | refine z0n ?_ | refine z0o ?_ | refine z0p ?_ | refine z0q ?_ | refine z0r ?_ | refine z0s ?_ | refine z0v ?_ | refine z0z ?_ | refine z12 ?_ | refine z14 ?_
      | refine z15 ?_ | refine z1e ?_ | refine z1f (hk := ?_) | refine z1i ?_ | refine z1j ?_ | refine z1k ?_ | refine z1l ?_ | refine z1m ?_ | refine z1n ?_
      | refine z1o (fun hp => ?_) (fun hp => ?_) | refine z1p (fun hp => ?_) (fun hp => ?_) | refine z1q (fun hp => ?_) (fun hp => ?_) | refine z1r ?_ | refine z1s ?_ | refine z1t ?_
      | refine z1u ?_ | refine z1v ?_ | refine z1w ?_ | refine z1x ?_ | refine z1y ?_ | refine z1z ?_ | refine z20 ?_ | refine z21 ?_ | refine z22 ?_ | refine z23 ?_ | refine z24 ?_
      | refine z25 ?_ | refine z26 ?_ | refine z27 ?_ | refine z28 (fun hp => ?_) (fun hp => ?_) | refine z29 (fun hp => ?_) (fun hp => ?_) | refine z2a ?_ | refine z2b ?_)
    exact fin_cln rfl hQ
  · intro h
    rw [h] at hQ
    repeat' (first | refine then_r ?_ | refine block_r ?_)
    refine end_r rfl ?_
    exact fin_cln rfl hQ

theorem c_Fits13 {l : List Cell} {v : MV} {x : Int} (hv : Sl KCell l v) (hl : l.length ≤ 1000000) (hc : ∀ c ∈ l, c.ok) (hx : I64 x) (hQ : Q (two (fitL l x)) m ls) : Wc ip f_ref13_Fits [v, .int .i64 x] m ls Q := by
  refine wc_fn3d rfl fn_ref13_Fits rfl (by simp [deepVs, hv.deep, deepV]) rfl ?_
  have hlen := rolesF_len (l := l)
  repeat' (first
    | refine wo_calltW rfl rfl rfl fn_ref13_Roles (by simp [deepVs, hv.deep]) rfl (w_Roles13 hv hl ?_)
    | refine z00 ?_ | refine z01 ?_ | refine z02 ?_ | refine z04 ?_ | refine z05 ?_ | refine z08 ?_ | refine zp ?_ | refine z0g ?_ | refine z0h ?_ | refine z0j ?_ | refine z0k ?_
    | refine z0l ?_ | refine z0n ?_ | refine z0o ?_ | refine z0p ?_ | refine z0q ?_ | refine z0r ?_ | refine z0s ?_ | refine z0v ?_ | refine z0z ?_ | refine z12 ?_ | refine z14 ?_
    | refine z15 ?_ | refine z1e ?_ | refine z1f (hk := ?_) | refine z1i ?_ | refine z1j ?_ | refine z1k ?_ | refine z1l ?_ | refine z1m ?_ | refine z1n ?_
    | refine z1o (fun hp => ?_) (fun hp => ?_) | refine z1p (fun hp => ?_) (fun hp => ?_) | refine z1q (fun hp => ?_) (fun hp => ?_) | refine z1r ?_ | refine z1s ?_ | refine z1t ?_
    | refine z1u ?_ | refine z1v ?_ | refine z1w ?_ | refine z1x ?_ | refine z1y ?_ | refine z1z ?_ | refine z20 ?_ | refine z21 ?_ | refine z22 ?_ | refine z23 ?_ | refine z24 ?_
    | refine z25 ?_ | refine z26 ?_ | refine z27 ?_ | refine z28 (fun hp => ?_) (fun hp => ?_) | refine z29 (fun hp => ?_) (fun hp => ?_) | refine z2a ?_ | refine z2b ?_)
  intro u m' hu
  rcases hu with ⟨rfl, h0⟩ | ⟨b, g, _, rfl, hb⟩
  · have hl0 : l = [] := by
      rw [← List.length_eq_zero_iff, ← hlen, h0]; rfl
    subst hl0
    refine ⟨by simp only [thaw, cln]; rfl, ?_⟩
    repeat' (first
      | refine z00 ?_ | refine z01 ?_ | refine z02 ?_ | refine z04 ?_ | refine z05 ?_ | refine z08 ?_ | refine zp ?_ | refine z0g ?_ | refine z0h ?_ | refine z0j ?_ | refine z0k ?_
      | refine z0l ?_ | refine z0n ?_ | refine z0o ?_ | refine z0p ?_ | refine z0q ?_ | refine z0r ?_ | refine z0s ?_ | refine z0v ?_ | refine z0z ?_ | refine z12 ?_ | refine z14 ?_
      | refine z15 ?_ | refine z1e ?_ | refine z1f (hk := ?_) | refine z1i ?_ | refine z1j ?_ | refine z1k ?_ | refine z1l ?_ | refine z1m ?_ | refine z1n ?_
      | refine z1o (fun hp => ?_) (fun hp => ?_) | refine z1p (fun hp => ?_) (fun hp => ?_) | refine z1q (fun hp => ?_) (fun hp => ?_) | refine z1r ?_ | refine z1s ?_ | refine z1t ?_
      | refine z1u ?_ | refine z1v ?_ | refine z1w ?_ | refine z1x ?_ | refine z1y ?_ | refine z1z ?_ | refine z20 ?_ | refine z21 ?_ | refine z22 ?_ | refine z23 ?_ | refine z24 ?_
      | refine z25 ?_ | refine z26 ?_ | refine z27 ?_ | refine z28 (fun hp => ?_) (fun hp => ?_) | refine z29 (fun hp => ?_) (fun hp => ?_) | refine z2a ?_ | refine z2b ?_)
    refine wx_loopL ?_
    refine wx_roundL rfl ?_
    have hz : frzs [] frzFuel [v, .nils, .int .i64 x] = some [v, .nils, .int .i64 x] := frzs_fuel (by simp [deepVs, hv.deep, deepV])
    repeat' (first
      | refine wo_call rfl rfl rfl (c_end12 (roles := []) hz hv .nil (by simp) (by simp) hc hx ?_)
      | refine z00 ?_ | refine z01 ?_ | refine z02 ?_ | refine z04 ?_ | refine z05 ?_ | refine z08 ?_ | refine zp ?_ | refine z0g ?_ | refine z0h ?_ | refine z0j ?_ | refine z0k ?_
      | refine z0l ?_ | refine z0n ?_ | refine z0o ?_ | refine z0p ?_ | refine z0q ?_ | refine z0r ?_ | refine z0s ?_ | refine z0v ?_ | refine z0z ?_ | refine z12 ?_ | refine z14 ?_
      | refine z15 ?_ | refine z1e ?_ | refine z1f (hk := ?_) | refine z1i ?_ | refine z1j ?_ | refine z1k ?_ | refine z1l ?_ | refine z1m ?_ | refine z1n ?_
      | refine z1o (fun hp => ?_) (fun hp => ?_) | refine z1p (fun hp => ?_) (fun hp => ?_) | refine z1q (fun hp => ?_) (fun hp => ?_) | refine z1r ?_ | refine z1s ?_ | refine z1t ?_
      | refine z1u ?_ | refine z1v ?_ | refine z1w ?_ | refine z1x ?_ | refine z1y ?_ | refine z1z ?_ | refine z20 ?_ | refine z21 ?_ | refine z22 ?_ | refine z23 ?_ | refine z24 ?_
      | refine z25 ?_ | refine z26 ?_ | refine z27 ?_ | refine z28 (fun hp => ?_) (fun hp => ?_) | refine z29 (fun hp => ?_) (fun hp => ?_) | refine z2a ?_ | refine z2b ?_)
    refine fin_cln rfl ?_
    have e : fitL [] x = endL [] [] x := by unfold fitL; rw [h0, List.map_nil]
    rw [e] at hQ
    exact hQ
  · refine ⟨thaw_own hb (by rw [flat_len]), ?_⟩
    have key : ∀ (k i : Nat), i + k = l.length → ∀ (o : List Int), o = ((rolesF l).take i).map unhang ++ (rolesF l).drop i → ∀ {R : Ex → As → Mem → List LRec → Prop},
        (R (.exit 0) [(0, v), (1, .int .i64 x), (6, .sl 0 (rolesF l).length 0 (rolesF l).length 1 none)] [⟨flat KU8.E ((rolesF l).map unhang), (rolesF l).length, true⟩] []) →
        Wx ip i_ref13_Fits.nt (.loop (lv [0, 1, 6, 7] 30) ref13_Fits_b0) [(0, v), (1, .int .i64 x), (6, .sl 0 (rolesF l).length 0 (rolesF l).length 1 none), (7, .int .i64 i)] [⟨flat KU8.E o, (rolesF l).length, true⟩] [] R := by
      intro k
      induction k with
      | zero =>
        intro i hk o ho R hR
        have e : o = (rolesF l).map unhang := by rw [ho, List.take_of_length_le (by omega), List.drop_eq_nil_of_le (by omega)]; simp
        subst e
        refine wx_roundL rfl ?_
        repeat' (first
          | refine wx_exitL [0, 1, 6] ?_
          | refine z00 ?_ | refine z01 ?_ | refine z02 ?_ | refine z04 ?_ | refine z05 ?_ | refine z08 ?_ | refine zp ?_ | refine z0g ?_ | refine z0h ?_ | refine z0j ?_ | refine z0k ?_
          | refine z0l ?_ | refine z0n ?_ | refine z0o ?_ | refine z0p ?_ | refine z0q ?_ | refine z0r ?_ | refine z0s ?_ | refine z0v ?_ | refine z0z ?_ | refine z12 ?_ | refine z14 ?_
          | refine z15 ?_ | refine z1e ?_ | refine z1f (hk := ?_) | refine z1i ?_ | refine z1j ?_ | refine z1k ?_ | refine z1l ?_ | refine z1m ?_ | refine z1n ?_
          | refine z1o (fun hp => ?_) (fun hp => ?_) | refine z1p (fun hp => ?_) (fun hp => ?_) | refine z1q (fun hp => ?_) (fun hp => ?_) | refine z1r ?_ | refine z1s ?_ | refine z1t ?_
          | refine z1u ?_ | refine z1v ?_ | refine z1w ?_ | refine z1x ?_ | refine z1y ?_ | refine z1z ?_ | refine z20 ?_ | refine z21 ?_ | refine z22 ?_ | refine z23 ?_ | refine z24 ?_
          | refine z25 ?_ | refine z26 ?_ | refine z27 ?_ | refine z28 (fun hp => ?_) (fun hp => ?_) | refine z29 (fun hp => ?_) (fun hp => ?_) | refine z2a ?_ | refine z2b ?_)
        exact hR
      | succ k ih =>
        intro i hk o ho R hR
        have hi : i < (rolesF l).length := by omega
        have hol : o.length = l.length := by rw [ho]; simp; omega
        have hoi : o[i]'(by omega) = (rolesF l)[i] := by
          simp only [ho]
          rw [List.getElem_append_right (by simp; omega)]
          simp
          congr 1; omega
        have hnx : o.set i (unhang (rolesF l)[i]) = ((rolesF l).take (i + 1)).map unhang ++ (rolesF l).drop (i + 1) := by
          rw [ho, List.set_append_right _ _ (by simp; omega), List.take_succ_eq_append_getElem hi, List.drop_eq_getElem_cons hi]
          have : i - (((rolesF l).take i).map unhang).length = 0 := by simp; omega
          rw [this]
          simp only [List.set_cons_zero, List.map_append, List.map_cons, List.map_nil, List.append_assoc, List.cons_append, List.nil_append]
        have hld : loadFrom (flat KU8.E o) (0 + i * 1) none = some (.int .u8 (rolesF l)[i]) := by
          have := load_cell KU8 o (i := i) (o := 0) (by omega) (by decide)
          simp only [KU8, Nat.mul_one, Nat.add_zero, Nat.zero_add] at this ⊢
          rw [this, hoi]; rfl
        refine wx_roundL rfl ?_
        by_cases h2 : (rolesF l)[i] = 2
        · have e : unhang (rolesF l)[i] = 1 := by unfold unhang; rw [if_pos h2]
          rw [e] at hnx
          repeat' (first
            | refine wo_iaddrs rfl rfl (by omega) hi rfl rfl ?_
            | refine wo_load rfl rfl rfl hld rfl ?_
            | refine wx_ifDT rfl h2 ?_
            | refine wo_store rfl rfl rfl rfl rfl rfl (by have := flat_len KU8 o; have e : KU8.sz = 1 := rfl; show _ ≤ (flat KU8.E o).length; rw [this, e]; simp; omega) rfl ?_
            | refine z00 ?_ | refine z01 ?_ | refine z02 ?_ | refine z04 ?_ | refine z05 ?_ | refine z08 ?_ | refine zp ?_ | refine z0g ?_ | refine z0h ?_ | refine z0j ?_ | refine z0k ?_
            | refine z0l ?_ | refine z0n ?_ | refine z0o ?_ | refine z0p ?_ | refine z0q ?_ | refine z0r ?_ | refine z0s ?_ | refine z0v ?_ | refine z0z ?_ | refine z12 ?_ | refine z14 ?_
            | refine z15 ?_ | refine z1e ?_ | refine z1f (hk := ?_) | refine z1i ?_ | refine z1j ?_ | refine z1k ?_ | refine z1l ?_ | refine z1m ?_ | refine z1n ?_
            | refine z1o (fun hp => ?_) (fun hp => ?_) | refine z1p (fun hp => ?_) (fun hp => ?_) | refine z1q (fun hp => ?_) (fun hp => ?_) | refine z1r ?_ | refine z1s ?_ | refine z1t ?_
            | refine z1u ?_ | refine z1v ?_ | refine z1w ?_ | refine z1x ?_ | refine z1y ?_ | refine z1z ?_ | refine z20 ?_ | refine z21 ?_ | refine z22 ?_ | refine z23 ?_ | refine z24 ?_
            | refine z25 ?_ | refine z26 ?_ | refine z27 ?_ | refine z28 (fun hp => ?_) (fun hp => ?_) | refine z29 (fun hp => ?_) (fun hp => ?_) | refine z2a ?_ | refine z2b ?_)
          refine wx_loopL ?_
          have := ih (i + 1) (by omega) _ hnx hR
          have e2 : setAt (flat KU8.E o) (0 + i * 1) [.int .u8 1] = flat KU8.E (o.set i 1) := set_flat (by omega)
          rw [← e2] at this
          exact this
        · have e : unhang (rolesF l)[i] = o[i]'(by omega) := by unfold unhang; rw [if_neg h2, hoi]
          rw [e, List.set_getElem_self] at hnx
          repeat' (first
            | refine wo_iaddrs rfl rfl (by omega) hi rfl rfl ?_
            | refine wo_load rfl rfl rfl hld rfl ?_
            | refine wx_ifDF rfl h2 ?_
            | refine z00 ?_ | refine z01 ?_ | refine z02 ?_ | refine z04 ?_ | refine z05 ?_ | refine z08 ?_ | refine zp ?_ | refine z0g ?_ | refine z0h ?_ | refine z0j ?_ | refine z0k ?_
            | refine z0l ?_ | refine z0n ?_ | refine z0o ?_ | refine z0p ?_ | refine z0q ?_ | refine z0r ?_ | refine z0s ?_ | refine z0v ?_ | refine z0z ?_ | refine z12 ?_ | refine z14 ?_
            | refine z15 ?_ | refine z1e ?_ | refine z1f (hk := ?_) | refine z1i ?_ | refine z1j ?_ | refine z1k ?_ | refine z1l ?_ | refine z1m ?_ | refine z1n ?_
            | refine z1o (fun hp => ?_) (fun hp => ?_) | refine z1p (fun hp => ?_) (fun hp => ?_) | refine z1q (fun hp => ?_) (fun hp => ?_) | refine z1r ?_ | refine z1s ?_ | refine z1t ?_
            | refine z1u ?_ | refine z1v ?_ | refine z1w ?_ | refine z1x ?_ | refine z1y ?_ | refine z1z ?_ | refine z20 ?_ | refine z21 ?_ | refine z22 ?_ | refine z23 ?_ | refine z24 ?_
            | refine z25 ?_ | refine z26 ?_ | refine z27 ?_ | refine z28 (fun hp => ?_) (fun hp => ?_) | refine z29 (fun hp => ?_) (fun hp => ?_) | refine z2a ?_ | refine z2b ?_)
          refine wx_loopL ?_
          exact ih (i + 1) (by omega) _ hnx hR
    repeat' (first
      | refine z00 ?_ | refine z01 ?_ | refine z02 ?_ | refine z04 ?_ | refine z05 ?_ | refine z08 ?_ | refine zp ?_ | refine z0g ?_ | refine z0h ?_ | refine z0j ?_ | refine z0k ?_
      | refine z0l ?_ | refine z0n ?_ | refine z0o ?_ | refine z0p ?_ | refine z0q ?_ | refine z0r ?_ | refine z0s ?_ | refine z0v ?_ | refine z0z ?_ | refine z12 ?_ | refine z14 ?_
      | refine z15 ?_ | refine z1e ?_ | refine z1f (hk := ?_) | refine z1i ?_ | refine z1j ?_ | refine z1k ?_ | refine z1l ?_ | refine z1m ?_ | refine z1n ?_
      | refine z1o (fun hp => ?_) (fun hp => ?_) | refine z1p (fun hp => ?_) (fun hp => ?_) | refine z1q (fun hp => ?_) (fun hp => ?_) | refine z1r ?_ | refine z1s ?_ | refine z1t ?_
      | refine z1u ?_ | refine z1v ?_ | refine z1w ?_ | refine z1x ?_ | refine z1y ?_ | refine z1z ?_ | refine z20 ?_ | refine z21 ?_ | refine z22 ?_ | refine z23 ?_ | refine z24 ?_
      | refine z25 ?_ | refine z26 ?_ | refine z27 ?_ | refine z28 (fun hp => ?_) (fun hp => ?_) | refine z29 (fun hp => ?_) (fun hp => ?_) | refine z2a ?_ | refine z2b ?_)
    refine wx_loopL ?_
    refine key l.length 0 (by omega) (rolesF l) (by simp) ?_
    have hz : frzs [⟨flat KU8.E ((rolesF l).map unhang), (rolesF l).length, true⟩] frzFuel [v, .sl 0 (rolesF l).length 0 (rolesF l).length 1 none, .int .i64 x] = some [v, .lit (flat KU8.E ((rolesF l).map unhang)) (rolesF l).length none, .int .i64 x] := by
      obtain ⟨n, hn⟩ := fuel 9 (by omega)
      rw [hn]
      have ht : takeAt (flat KU8.E ((rolesF l).map unhang)) 0 (rolesF l).length = some (flat KU8.E ((rolesF l).map unhang)) := take_all (by rw [flat_len]; simp [KU8])
      simp [frzs, frz, deepVs, deepV, hv.deep, blk?, ht]
    have hs : Sl KU8 ((rolesF l).map unhang) (.lit (flat KU8.E ((rolesF l).map unhang)) (rolesF l).length none) := by
      have := Sl.lit (K := KU8) (xs := (rolesF l).map unhang) (kc := none)
      rw [List.length_map] at this
      exact this
    repeat' (first
      | refine wo_call rfl rfl rfl (c_end12 hz hv hs hl (by simp; omega) hc hx ?_)
      | refine z00 ?_ | refine z01 ?_ | refine z02 ?_ | refine z04 ?_ | refine z05 ?_ | refine z08 ?_ | refine zp ?_ | refine z0g ?_ | refine z0h ?_ | refine z0j ?_ | refine z0k ?_
      | refine z0l ?_ | refine z0n ?_ | refine z0o ?_ | refine z0p ?_ | refine z0q ?_ | refine z0r ?_ | refine z0s ?_ | refine z0v ?_ | refine z0z ?_ | refine z12 ?_ | refine z14 ?_
      | refine z15 ?_ | refine z1e ?_ | refine z1f (hk := ?_) | refine z1i ?_ | refine z1j ?_ | refine z1k ?_ | refine z1l ?_ | refine z1m ?_ | refine z1n ?_
      | refine z1o (fun hp => ?_) (fun hp => ?_) | refine z1p (fun hp => ?_) (fun hp => ?_) | refine z1q (fun hp => ?_) (fun hp => ?_) | refine z1r ?_ | refine z1s ?_ | refine z1t ?_
      | refine z1u ?_ | refine z1v ?_ | refine z1w ?_ | refine z1x ?_ | refine z1y ?_ | refine z1z ?_ | refine z20 ?_ | refine z21 ?_ | refine z22 ?_ | refine z23 ?_ | refine z24 ?_
      | refine z25 ?_ | refine z26 ?_ | refine z27 ?_ | refine z28 (fun hp => ?_) (fun hp => ?_) | refine z29 (fun hp => ?_) (fun hp => ?_) | refine z2a ?_ | refine z2b ?_)
    exact fin_cln rfl hQ

end
end Go.Proofs.Ytnekgoanadbmmaa
