/-
Operations of a region that draws its order: what does not conflict commutes.
-/
import Derived.Test.YtnekgoanadbmmaaMiB
namespace Go.Mini
set_option linter.unusedSimpArgs false

section congr
variable {T T' : List MV}

theorem getO_congr {y : Opd} (h : ∀ i ∈ rdO y, T.getD i (.tup []) = T'.getD i (.tup [])) : getO T y = getO T' y := by
  cases y with
  | t i => simpa [getO] using h i (by simp [rdO])
  | c v => rfl

theorem getOs_congr : ∀ {ys : List Opd}, (∀ i ∈ rdOs ys, T.getD i (.tup []) = T'.getD i (.tup [])) → ys.map (getO T) = ys.map (getO T')
  | [], _ => rfl
  | y :: ys, h => by
    simp only [rdOs, List.mem_append] at h
    simp only [List.map_cons]
    rw [getO_congr (fun i hi => h i (.inl hi)), getOs_congr (fun i hi => h i (.inr hi))]

theorem fill_congr : ∀ {ps : List (Nat × Nat × Opd)} {z : List MV}, (∀ i ∈ rdP ps, T.getD i (.tup []) = T'.getD i (.tup [])) → fillM T z ps = fillM T' z ps
  | [], _, _ => rfl
  | (o, n, y) :: ps, z, h => by
    simp only [rdP, List.mem_append] at h
    simp only [fillM]
    rw [getO_congr (fun i hi => h i (.inl hi))]
    cases cellsOf (getO T' y) with
    | none => rfl
    | some cs => simp only []; rw [fill_congr (fun i hi => h i (.inr hi))]

theorem bnd_congr {lo hi mx : Option Opd} {n : Nat} (h : ∀ i ∈ rdM lo ++ rdM hi ++ rdM mx, T.getD i (.tup []) = T'.getD i (.tup [])) : bndM T lo hi mx n = bndM T' lo hi mx n := by
  simp only [List.mem_append] at h
  have h1 : ∀ y, lo = some y → getO T y = getO T' y := fun y e => getO_congr fun i hi => h i (.inl (.inl (by rw [e]; exact hi)))
  have h2 : ∀ y, hi = some y → getO T y = getO T' y := fun y e => getO_congr fun i hi' => h i (.inl (.inr (by rw [e]; exact hi')))
  have h3 : ∀ y, mx = some y → getO T y = getO T' y := fun y e => getO_congr fun i hi' => h i (.inr (by rw [e]; exact hi'))
  unfold bndM
  cases lo <;> cases hi <;> cases mx <;> simp only [] <;> (try rw [h1 _ rfl]) <;> (try rw [h2 _ rfl]) <;> (try rw [h3 _ rfl])

theorem evOp0_congr {op : IOp} {m : Mem} (h : ∀ i ∈ rdOp op, T.getD i (.tup []) = T'.getD i (.tup [])) : evOp0 T m op = evOp0 T' m op := by
  cases op <;> simp only [rdOp, List.mem_append] at h <;> simp only [evOp0]
  case mv x => rw [getO_congr h]
  case pick c a b =>
    rw [getO_congr (y := c) (fun i hi => h i (.inl (.inl hi))), getO_congr (y := a) (fun i hi => h i (.inl (.inr hi))), getO_congr (y := b) (fun i hi => h i (.inr hi))]
  case box x => rw [getO_congr h]
  case boxi x => rw [getO_congr h]
  case build z ps => rw [fill_congr h]
  case blit n z ps => rw [fill_congr h]
  case blitm n k z ps => rw [fill_congr h]
  case load n a => rw [getO_congr h]
  case loadi n a => rw [getO_congr h]
  case loado o n a => rw [getO_congr h]
  case nchk x => rw [getO_congr h]
  case un op x => rw [getO_congr h]
  case conv k x => rw [getO_congr h]
  case convs x => rw [getO_congr h]
  case faddr n x => rw [getO_congr h]
  case fld o n x => rw [getO_congr h]
  case extr i x => rw [getO_congr h]
  case len x => rw [getO_congr h]
  case lens x => rw [getO_congr h]
  case mkfn f a b => rw [getOs_congr (ys := a) (fun i hi => h i (.inl hi)), getOs_congr (ys := b) (fun i hi => h i (.inr hi))]
  case slice sz x lo hi mx =>
    rw [getO_congr (y := x) (fun i hi => h i (.inl (.inl (.inl hi))))]
    cases lenM (getO T' x) with
    | none => rfl
    | some n =>
      simp only []
      rw [bnd_congr (T := T) (T' := T') (fun i hi => h i (by simp only [List.mem_append] at hi; rcases hi with (h1 | h1) | h1 <;> simp [h1]))]
  case slstr x lo hi =>
    have hh : ∀ i ∈ rdM lo ++ rdM hi ++ rdM none, T.getD i (.tup []) = T'.getD i (.tup []) := by
      intro i hm
      simp only [List.mem_append, rdM, List.not_mem_nil, or_false] at hm
      rcases hm with h1 | h1
      · exact h i (.inl (.inr h1))
      · exact h i (.inr h1)
    rw [getO_congr (y := x) (fun i hi => h i (.inl (.inl hi)))]
    cases getO T' x <;> first | rfl | skip
    simp only []
    rw [bnd_congr (T := T) (T' := T') (lo := lo) (hi := hi) (mx := none) hh]
  case slarr n sz x lo hi =>
    have hh : ∀ i ∈ rdM lo ++ rdM hi ++ rdM none, T.getD i (.tup []) = T'.getD i (.tup []) := by
      intro i hm
      simp only [List.mem_append, rdM, List.not_mem_nil, or_false] at hm
      rcases hm with h1 | h1
      · exact h i (.inl (.inr h1))
      · exact h i (.inr h1)
    rw [getO_congr (y := x) (fun i hi => h i (.inl (.inl hi))), bnd_congr (T := T) (T' := T') (lo := lo) (hi := hi) (mx := none) hh]
  all_goals first
    | rfl
    | (rename_i x y; rw [getO_congr (y := x) (fun i hi => h i (.inl hi)), getO_congr (y := y) (fun i hi => h i (.inr hi))])

theorem evOp_congr {cb : Cb} {op : IOp} {m : Mem} {ls : List LRec} (h : ∀ i ∈ rdOp op, T.getD i (.tup []) = T'.getD i (.tup [])) : evOp cb ⟨T, m, ls⟩ op = evOp cb ⟨T', m, ls⟩ op := by
  cases op
  case call f args =>
    simp only [rdOp, List.mem_append] at h
    simp only [evOp]
    rw [getO_congr (y := f) (fun i hi => h i (.inl hi)), getOs_congr (ys := args) (fun i hi => h i (.inr hi))]
  case callt f args =>
    simp only [rdOp] at h
    simp only [evOp]
    rw [getOs_congr (ys := args) h]
  all_goals (simp only [evOp]; rw [evOp0_congr h])
end congr

/-! ### What an operation does to memory, by its class -/

/-- A function of trees alone does not look at its caller's memory. -/
structure PureCb (pm : Nat → Bool) (cb : Cb) : Prop where
  pur : ∀ f, pm f = true → ∀ args m ls v m' ls', cb.call f args m ls = some (v, m', ls') → m' = m ∧ ls' = ls ∧ ∀ m2 ls2, cb.call f args m2 ls2 = some (v, m2, ls2)
  rdr : ∀ f, pm (f + 1048576) = true → ∀ args m ls v m' ls', cb.call f args m ls = some (v, m', ls') → (∃ xs, m' = m ++ xs) ∧ ls' = ls
  rd1 : ∀ f, pm (f + 2097152) = true → ∀ args m ls v m' ls', cb.call f args m ls = some (v, m', ls') → m' = m ∧ ls' = ls ∧ ∀ x, cb.call f args (m ++ [x]) ls = some (v, m ++ [x], ls)

theorem op0_pure {pm : Nat → Bool} {T : List MV} {m m' : Mem} {op : IOp} {v : MV} (hc : cls pm op = 0) (h : evOp0 T m op = some (v, m')) : m' = m ∧ ∀ m2, evOp0 T m2 op = some (v, m2) := by
  cases op <;> try (simp [cls] at hc; done)
  all_goals simp only [evOp0] at h ⊢
  all_goals first
    | (simp at h; done)
    | (simp only [Option.some.injEq, Prod.mk.injEq] at h
       obtain ⟨rfl, rfl⟩ := h
       exact ⟨rfl, fun _ => rfl⟩)
    | (revert h
       repeat' split
       all_goals first
         | (intro h; simp at h; done)
         | (intro h
            simp only [Option.some.injEq, Prod.mk.injEq] at h
            obtain ⟨rfl, rfl⟩ := h
            exact ⟨rfl, fun _ => rfl⟩)
         | (intro h
            simp only [Option.map_eq_some_iff, Prod.mk.injEq] at h
            obtain ⟨a, h1, rfl, rfl⟩ := h
            exact ⟨rfl, fun _ => by simp [h1]⟩))
    | (simp only [Option.map_eq_some_iff, Prod.mk.injEq] at h
       obtain ⟨a, h1, rfl, rfl⟩ := h
       exact ⟨rfl, fun _ => by simp [h1]⟩)

theorem blk_app {m : Mem} {b g : Nat} {k : Blk} (h : blk? m b g = some k) (x : Blk) : blk? (m ++ [x]) b g = some k := by
  unfold blk? at *
  cases hm : m[b]? with
  | none => simp [hm] at h
  | some k' =>
    rw [List.getElem?_append_left (List.getElem?_eq_some_iff.1 hm).1, hm]
    simpa [hm] using h

theorem op0_read {pm : Nat → Bool} {T : List MV} {m m' : Mem} {op : IOp} {v : MV} (hc : cls pm op = 1) (h : evOp0 T m op = some (v, m')) : m' = m ∧ ∀ x, evOp0 T (m ++ [x]) op = some (v, m ++ [x]) := by
  cases op <;> try (simp [cls] at hc; done)
  case load n a =>
    simp only [evOp0, Option.map_eq_some_iff, Prod.mk.injEq] at h
    obtain ⟨u, h1, rfl, rfl⟩ := h
    refine ⟨rfl, fun x => ?_⟩
    simp only [evOp0]
    unfold loadV at *
    split at h1
    · rename_i b g off hp
      cases hk : blk? m b g with
      | none => simp [hk] at h1
      | some k =>
        simp only [hk] at h1
        simp [hp, blk_app hk x, h1]
    · rename_i cs off hp
      simp [hp, h1]
    · simp at h1
  case loado o n a =>
    simp only [evOp0] at h ⊢
    split at h
    case h_2 => simp at h
    rename_i b g off hp
    split at h
    case isFalse => simp at h
    rename_i ho
    simp only [Option.map_eq_some_iff, Prod.mk.injEq] at h
    obtain ⟨u, h1, rfl, rfl⟩ := h
    refine ⟨rfl, fun x => ?_⟩
    rw [if_pos ho]
    unfold loadV at *
    simp only at h1 ⊢
    cases hk : blk? m b g with
    | none => simp [hk] at h1
    | some k =>
      simp only [hk] at h1
      simp [blk_app hk x, h1]
  case slarr n sz x lo hi =>
    simp only [evOp0] at h ⊢
    split at h
    case h_2 => simp at h
    rename_i l hh mm hb
    split at h
    · rename_i b g off hp
      cases hk : blk? m b g with
      | none => simp [hk] at h
      | some k =>
        simp only [hk] at h
        split at h
        · rename_i hcond
          simp only [Option.some.injEq, Prod.mk.injEq] at h
          obtain ⟨rfl, rfl⟩ := h
          exact ⟨rfl, fun x => by simp [hp, blk_app hk x, hcond]⟩
        · simp at h
    · rename_i cs off hp
      split at h
      · rename_i c hta
        simp only [Option.some.injEq, Prod.mk.injEq] at h
        obtain ⟨rfl, rfl⟩ := h
        exact ⟨rfl, fun x => by simp [hp, hta]⟩
      · simp at h
    · simp at h
  case call f args => simp [evOp0] at h

theorem op0_new {pm : Nat → Bool} {T : List MV} {m m' : Mem} {op : IOp} {v : MV} (hc : cls pm op = 3) (h : evOp0 T m op = some (v, m')) : ∃ x, m' = m ++ [x] := by
  cases op <;> try (simp [cls] at hc; done)
  case alloc z =>
    simp only [evOp0, Option.some.injEq, Prod.mk.injEq] at h
    exact ⟨_, h.2.symm⟩
  case box x =>
    simp only [evOp0] at h
    split at h
    · simp only [Option.some.injEq, Prod.mk.injEq] at h
      exact ⟨_, h.2.symm⟩
    · simp at h
  case blitm n k z ps =>
    simp only [evOp0] at h
    split at h
    · split at h
      · simp only [Option.some.injEq, Prod.mk.injEq] at h
        exact ⟨_, h.2.symm⟩
      · simp at h
    · simp at h
  case mksl z sz b l c =>
    simp only [evOp0] at h
    split at h
    · split at h
      · simp only [Option.some.injEq, Prod.mk.injEq] at h
        exact ⟨_, h.2.symm⟩
      · simp at h
    · simp at h
  case call f args => simp [evOp0] at h

/-! ### One operation of a region, with its guard -/

def evRes (cb : Cb) (o : IOper) (s : St) : Option (MV × Mem × List LRec) :=
  match wants s.T o.guard with
  | none => none
  | some false => some (.tup [], s.m, s.ls)
  | some true => evOp cb s o.op

theorem evOper_eq (cb : Cb) (o : IOper) (s : St) : evOper cb o s = (evRes cb o s).map fun r => ⟨put s.T o.dst r.1, r.2.1, r.2.2⟩ := by
  unfold evOper evRes
  cases wants s.T o.guard with
  | none => rfl
  | some b =>
    cases b with
    | false => rfl
    | true =>
      simp only []
      cases evOp cb s o.op with
      | none => rfl
      | some r => rfl

theorem wants_congr {T T' : List MV} {g : Option (Nat × Bool)} (h : ∀ i ∈ rdG g, T.getD i (.tup []) = T'.getD i (.tup [])) : wants T g = wants T' g := by
  cases g with
  | none => rfl
  | some p =>
    obtain ⟨t, b⟩ := p
    simp only [wants]
    rw [h t (by simp [rdG])]

theorem evRes_congr {cb : Cb} {o : IOper} {T T' : List MV} {m : Mem} {ls : List LRec} (h : ∀ i ∈ rdI o, T.getD i (.tup []) = T'.getD i (.tup [])) : evRes cb o ⟨T, m, ls⟩ = evRes cb o ⟨T', m, ls⟩ := by
  simp only [rdI, List.mem_append] at h
  have hw : wants T o.guard = wants T' o.guard := wants_congr fun i hi => h i (.inr hi)
  unfold evRes
  simp only [hw]
  cases wants T' o.guard with
  | none => rfl
  | some b =>
    cases b with
    | false => rfl
    | true => simp only []; exact evOp_congr fun i hi => h i (.inl hi)

theorem evOp_of0 {cb : Cb} {s : St} {op : IOp} (hne : ∀ f a, op ≠ .call f a) (hnt : ∀ f a, op ≠ .callt f a) : evOp cb s op = (match evOp0 s.T s.m op with | some (v, m) => some (v, m, s.ls) | none => none) := by
  cases op <;> first | rfl | exact absurd rfl (hne _ _) | exact absurd rfl (hnt _ _)

theorem evRes_pure {pm : Nat → Bool} {cb : Cb} (hp : PureCb pm cb) {o : IOper} {T : List MV} {m m' : Mem} {ls ls' : List LRec} {v : MV} (hc : cls pm o.op = 0) (h : evRes cb o ⟨T, m, ls⟩ = some (v, m', ls')) :
    m' = m ∧ ls' = ls ∧ ∀ m2 ls2, evRes cb o ⟨T, m2, ls2⟩ = some (v, m2, ls2) := by
  unfold evRes at *
  simp only at *
  cases hw : wants T o.guard with
  | none => simp [hw] at h
  | some b =>
    cases b with
    | false =>
      simp only [hw, Option.some.injEq, Prod.mk.injEq] at h
      obtain ⟨rfl, rfl, rfl⟩ := h
      exact ⟨rfl, rfl, fun _ _ => rfl⟩
    | true =>
      simp only [hw] at h ⊢
      by_cases hcall : ∃ f a, o.op = .call f a
      · obtain ⟨f, a, e⟩ := hcall
        rw [e] at h hc ⊢
        simp only [evOp] at h ⊢
        have hf : ∃ g, f = .c (.fn g [] []) ∧ pm g = true := by
          cases f with
          | t i => simp [cls] at hc
          | c v =>
            cases v <;> try (simp [cls] at hc; done)
            rename_i g x y
            cases x with
            | cons _ _ => simp [cls] at hc
            | nil =>
              cases y with
              | cons _ _ => simp [cls] at hc
              | nil =>
                refine ⟨g, rfl, ?_⟩
                simp only [cls] at hc
                cases hpg : pm g with
                | true => rfl
                | false =>
                  simp only [hpg, Bool.false_eq_true, if_false] at hc
                  split at hc
                  · cases hc
                  · split at hc <;> cases hc
        obtain ⟨g, rfl, hg⟩ := hf
        simp only [getO] at h ⊢
        exact hp.pur g hg _ _ _ _ _ _ h
      · have hne : ∀ f a, o.op ≠ .call f a := fun f a e => hcall ⟨f, a, e⟩
        rw [evOp_of0 hne (fun f a e => by rw [e] at hc; simp [cls] at hc)] at h
        simp only at h
        cases h0 : evOp0 T m o.op with
        | none => simp [h0] at h
        | some r =>
          obtain ⟨v1, m1⟩ := r
          simp only [h0, Option.some.injEq, Prod.mk.injEq] at h
          obtain ⟨rfl, rfl, rfl⟩ := h
          obtain ⟨rfl, h2⟩ := op0_pure hc h0
          exact ⟨rfl, rfl, fun m2 ls2 => by rw [evOp_of0 hne (fun f a e => by rw [e] at hc; simp [cls] at hc)]; simp [h2 m2]⟩

theorem cls_call {pm : Nat → Bool} {f : Opd} {a : List Opd} : cls pm (.call f a) = 0 ∨ (cls pm (.call f a) = 3 ∧ ∃ g, f = .c (.fn g [] []) ∧ pm (g + 1048576) = true) ∨ (cls pm (.call f a) = 1 ∧ ∃ g, f = .c (.fn g [] []) ∧ pm (g + 2097152) = true) ∨ cls pm (.call f a) = 2 := by
  cases f with
  | t i => exact .inr (.inr (.inr rfl))
  | c v =>
    cases v <;> try (exact .inr (.inr (.inr rfl)))
    rename_i g x y
    cases x with
    | cons _ _ => exact .inr (.inr (.inr rfl))
    | nil =>
      cases y with
      | cons _ _ => exact .inr (.inr (.inr rfl))
      | nil =>
        simp only [cls]
        cases pm g with
        | true => exact .inl rfl
        | false => cases hg : pm (g + 1048576) with
          | true => exact .inr (.inl ⟨rfl, g, rfl, hg⟩)
          | false => cases hg2 : pm (g + 2097152) with
            | true => exact .inr (.inr (.inl ⟨rfl, g, rfl, hg2⟩))
            | false => exact .inr (.inr (.inr rfl))

theorem evRes_read {pm : Nat → Bool} {cb : Cb} (hp : PureCb pm cb) {o : IOper} {T : List MV} {m m' : Mem} {ls ls' : List LRec} {v : MV} (hc : cls pm o.op = 1) (h : evRes cb o ⟨T, m, ls⟩ = some (v, m', ls')) :
    m' = m ∧ ls' = ls ∧ ∀ x, evRes cb o ⟨T, m ++ [x], ls⟩ = some (v, m ++ [x], ls) := by
  by_cases hcall : ∃ f a, o.op = .call f a
  · obtain ⟨f, a, e⟩ := hcall
    unfold evRes at *
    simp only at *
    cases hw : wants T o.guard with
    | none => simp [hw] at h
    | some b =>
      cases b with
      | false =>
        simp only [hw, Option.some.injEq, Prod.mk.injEq] at h
        obtain ⟨rfl, rfl, rfl⟩ := h
        exact ⟨rfl, rfl, fun _ => rfl⟩
      | true =>
        simp only [hw] at h ⊢
        rw [e] at h hc ⊢
        rcases cls_call (pm := pm) (f := f) (a := a) with h1 | ⟨h1, _⟩ | ⟨_, g, rfl, hg⟩ | h1
        · rw [h1] at hc; cases hc
        · rw [h1] at hc; cases hc
        · simp only [evOp, getO] at h ⊢
          exact hp.rd1 g hg _ _ _ _ _ _ h
        · rw [h1] at hc; cases hc
  have hne : ∀ f a, o.op ≠ .call f a := fun f a e => hcall ⟨f, a, e⟩
  unfold evRes at *
  simp only at *
  cases hw : wants T o.guard with
  | none => simp [hw] at h
  | some b =>
    cases b with
    | false =>
      simp only [hw, Option.some.injEq, Prod.mk.injEq] at h
      obtain ⟨rfl, rfl, rfl⟩ := h
      exact ⟨rfl, rfl, fun _ => rfl⟩
    | true =>
      simp only [hw] at h ⊢
      rw [evOp_of0 hne (fun f a e => by rw [e] at hc; simp [cls] at hc)] at h
      simp only at h
      cases h0 : evOp0 T m o.op with
      | none => simp [h0] at h
      | some r =>
        obtain ⟨v1, m1⟩ := r
        simp only [h0, Option.some.injEq, Prod.mk.injEq] at h
        obtain ⟨rfl, rfl, rfl⟩ := h
        obtain ⟨rfl, h2⟩ := op0_read hc h0
        exact ⟨rfl, rfl, fun x => by rw [evOp_of0 hne (fun f a e => by rw [e] at hc; simp [cls] at hc)]; simp [h2 x]⟩

theorem evRes_reads {pm : Nat → Bool} {cb : Cb} (hp : PureCb pm cb) {o : IOper} {T : List MV} {ls : List LRec} {v : MV} (hc : cls pm o.op = 1) : ∀ (xs : Mem) {m : Mem}, evRes cb o ⟨T, m, ls⟩ = some (v, m, ls) → evRes cb o ⟨T, m ++ xs, ls⟩ = some (v, m ++ xs, ls)
  | [], m, h => by simpa using h
  | x :: xs, m, h => by
    have := evRes_reads hp hc xs ((evRes_read hp hc h).2.2 x)
    simpa using this

theorem evRes_new {pm : Nat → Bool} {cb : Cb} (hp : PureCb pm cb) {o : IOper} {T : List MV} {m m' : Mem} {ls ls' : List LRec} {v : MV} (hc : cls pm o.op = 3) (h : evRes cb o ⟨T, m, ls⟩ = some (v, m', ls')) :
    (∃ xs, m' = m ++ xs) ∧ ls' = ls := by
  unfold evRes at *
  simp only at *
  cases hw : wants T o.guard with
  | none => simp [hw] at h
  | some b =>
    cases b with
    | false =>
      simp only [hw, Option.some.injEq, Prod.mk.injEq] at h
      obtain ⟨rfl, rfl, rfl⟩ := h
      exact ⟨⟨[], by simp⟩, rfl⟩
    | true =>
      simp only [hw] at h
      by_cases hcall : ∃ f a, o.op = .call f a
      · obtain ⟨f, a, e⟩ := hcall
        rw [e] at h hc
        rcases cls_call (pm := pm) (f := f) (a := a) with h1 | ⟨_, g, rfl, hg⟩ | ⟨h1, _⟩ | h1
        · rw [h1] at hc; cases hc
        · simp only [evOp, getO] at h
          exact hp.rdr g hg _ _ _ _ _ _ h
        · rw [h1] at hc; cases hc
        · rw [h1] at hc; cases hc
      · have hne : ∀ f a, o.op ≠ .call f a := fun f a e => hcall ⟨f, a, e⟩
        rw [evOp_of0 hne (fun f a e => by rw [e] at hc; simp [cls] at hc)] at h
        simp only at h
        cases h0 : evOp0 T m o.op with
        | none => simp [h0] at h
        | some r =>
          obtain ⟨v1, m1⟩ := r
          simp only [h0, Option.some.injEq, Prod.mk.injEq] at h
          obtain ⟨rfl, rfl, rfl⟩ := h
          obtain ⟨x, hx⟩ := op0_new hc h0
          exact ⟨⟨[x], hx⟩, rfl⟩

theorem cls_le {pm : Nat → Bool} (op : IOp) : cls pm op = 0 ∨ cls pm op = 1 ∨ cls pm op = 2 ∨ cls pm op = 3 := by
  cases op
  case call f a => rcases cls_call (pm := pm) (f := f) (a := a) with h | ⟨h, _⟩ | ⟨h, _⟩ | h <;> simp [h]
  all_goals simp [cls]

/-! ### Two that don't conflict change places -/

theorem put_getD {T : List MV} {d : Option Nat} {v : MV} {l : List Nat} (h : hits d l = false) : ∀ i ∈ l, (put T d v).getD i (.tup []) = T.getD i (.tup []) := by
  intro i hi
  cases d with
  | none => rfl
  | some d =>
    have hne : d ≠ i := fun e => by subst e; simp [hits] at h; exact h hi
    simp [put, List.getD, List.getElem?_set_ne hne]

theorem put_comm {T : List MV} {d e : Option Nat} {v u : MV} (h : (match d, e with | some a, some b => a == b | _, _ => false) = false) : put (put T d v) e u = put (put T e u) d v := by
  cases d with
  | none => cases e <;> rfl
  | some d =>
    cases e with
    | none => rfl
    | some e =>
      have hne : d ≠ e := by simpa using h
      simp only [put]
      exact List.set_comm _ _ hne

/-! Places apart -/

theorem setAt_len : ∀ (vs cs : List MV) (o : Nat), (setAt cs o vs).length = cs.length
  | [], _, _ => rfl
  | v :: vs, cs, o => by simp [setAt, setAt_len vs]

theorem setAt_get : ∀ (vs cs : List MV) (o i : Nat), i < o ∨ o + vs.length ≤ i → (setAt cs o vs)[i]? = cs[i]?
  | [], _, _, _, _ => rfl
  | v :: vs, cs, o, i, h => by
    simp only [setAt]
    rw [setAt_get vs _ (o + 1) i (by simp at h; omega)]
    simp at h
    rw [List.getElem?_set_ne (by omega)]

theorem setAt_set : ∀ (vs cs : List MV) (o p : Nat) (u : MV), p < o ∨ o + vs.length ≤ p → (setAt cs o vs).set p u = setAt (cs.set p u) o vs
  | [], _, _, _, _, _ => rfl
  | v :: vs, cs, o, p, u, h => by
    simp at h
    simp only [setAt]
    rw [setAt_set vs _ (o + 1) p u (by omega), List.set_comm v u (by omega)]

theorem setAt_comm : ∀ (us vs cs : List MV) (o p : Nat), o + vs.length ≤ p ∨ p + us.length ≤ o → setAt (setAt cs o vs) p us = setAt (setAt cs p us) o vs
  | [], _, _, _, _, _ => rfl
  | u :: us, vs, cs, o, p, h => by
    simp at h
    simp only [setAt]
    rw [setAt_set vs cs o p u (by omega), setAt_comm us vs _ o (p + 1) (by omega)]

theorem drop_take_get {cs ds : List MV} (hl : ds.length = cs.length) {o n : Nat} (h : ∀ i, o ≤ i → i < o + n → ds[i]? = cs[i]?) : (ds.drop o).take n = (cs.drop o).take n := by
  apply List.ext_getElem?
  intro i
  by_cases hi : i < n
  · rw [List.getElem?_take_of_lt hi, List.getElem?_take_of_lt hi, List.getElem?_drop, List.getElem?_drop, h _ (by omega) (by omega)]
  · rw [List.getElem?_take, List.getElem?_take, if_neg hi, if_neg hi]

def spanLen : Option Nat → Nat
  | none => 1
  | some n => n

theorem loadFrom_setAt {cs vs : List MV} {o p : Nat} {n : Option Nat} (h : o + vs.length ≤ p ∨ p + spanLen n ≤ o) : loadFrom (setAt cs o vs) p n = loadFrom cs p n := by
  cases n with
  | none =>
    simp only [spanLen] at h
    exact setAt_get _ _ _ _ (by omega)
  | some n =>
    simp only [spanLen] at h
    simp only [loadFrom, takeAt, setAt_len]
    rw [drop_take_get (cs := cs) (setAt_len _ _ _) (fun i h1 h2 => setAt_get _ _ _ _ (by omega))]

theorem blk_set {m : Mem} {b g : Nat} {k k' : Blk} (hk : blk? m b g = some k) (hg : k'.gen = k.gen) (b2 g2 : Nat) : blk? (m.set b k') b2 g2 = if b2 = b then (if g2 = g then some k' else none) else blk? m b2 g2 := by
  unfold blk? at hk ⊢
  split at hk
  case h_2 => cases hk
  rename_i k0 hm
  split at hk
  case isFalse => cases hk
  rename_i hg0
  simp only [Option.some.injEq] at hk
  subst hk
  have hlt := (List.getElem?_eq_some_iff.1 hm).1
  by_cases e : b2 = b
  · subst e
    rw [if_pos rfl, List.getElem?_set_self hlt]
    simp only
    by_cases e2 : g2 = g
    · rw [if_pos e2, if_pos (by omega)]
    · rw [if_neg e2, if_neg (by omega)]
  · rw [if_neg e, List.getElem?_set_ne (by omega)]

theorem blk_same {m : Mem} {b g g2 : Nat} {k : Blk} (hk : blk? m b g = some k) (h : g2 ≠ g) : blk? m b g2 = none := by
  unfold blk? at *
  split at hk
  case h_2 => cases hk
  split at hk
  case isFalse => cases hk
  rw [if_neg (by omega)]

theorem storeV_eq {m m' : Mem} {n b g off : Nat} {x : MV} (h : storeV m n (.ptr b g off) x = some m') : ∃ k cs, blk? m b g = some k ∧ cellsOf x = some cs ∧ cs.length = n ∧ off + n ≤ k.cells.length ∧ m' = m.set b ⟨setAt k.cells off cs, k.gen, k.deep && deepVs cs⟩ := by
  simp only [storeV] at h
  split at h
  case h_2 => cases h
  rename_i k cs hk hcs
  split at h
  case isFalse => cases h
  rename_i hc
  simp only [Option.some.injEq] at h
  exact ⟨k, cs, hk, hcs, hc.1, hc.2, h.symm⟩

theorem storeV_of {m : Mem} {n b g off : Nat} {x : MV} {k : Blk} {cs : List MV} (hk : blk? m b g = some k) (hc : cellsOf x = some cs) (hn : cs.length = n) (hle : off + n ≤ k.cells.length) : storeV m n (.ptr b g off) x = some (m.set b ⟨setAt k.cells off cs, k.gen, k.deep && deepVs cs⟩) := by
  simp only [storeV, hk, hc]
  rw [if_pos ⟨hn, hle⟩]

/-- A load behind a store elsewhere. -/
theorem loadV_store {m m' : Mem} {n b g off b2 g2 p : Nat} {n2 : Option Nat} {x : MV} (h : storeV m n (.ptr b g off) x = some m') (hd : off + n ≤ p ∨ p + spanLen n2 ≤ off) : loadV m' n2 (.ptr b2 g2 p) = loadV m n2 (.ptr b2 g2 p) := by
  obtain ⟨k, cs, hk, hc, hn, hle, rfl⟩ := storeV_eq h
  simp only [loadV, blk_set hk (k' := ⟨setAt k.cells off cs, k.gen, k.deep && deepVs cs⟩) rfl]
  by_cases e : b2 = b
  · subst e
    rw [if_pos rfl]
    by_cases e2 : g2 = g
    · subst e2
      rw [if_pos rfl, hk]
      exact loadFrom_setAt (by omega)
    · rw [if_neg e2, blk_same hk e2]
  · rw [if_neg e]

/-- Two stores at places apart. -/
theorem storeV_comm {m m1 m2 : Mem} {n b g off n2 b2 g2 p : Nat} {x y : MV} (h1 : storeV m n (.ptr b g off) x = some m1) (h2 : storeV m1 n2 (.ptr b2 g2 p) y = some m2) (hd : off + n ≤ p ∨ p + n2 ≤ off) :
    ∃ m3, storeV m n2 (.ptr b2 g2 p) y = some m3 ∧ storeV m3 n (.ptr b g off) x = some m2 := by
  obtain ⟨k, cs, hk, hc, hn, hle, rfl⟩ := storeV_eq h1
  obtain ⟨k2, cs2, hk2, hc2, hn2, hle2, rfl⟩ := storeV_eq h2
  rw [blk_set hk (k' := ⟨setAt k.cells off cs, k.gen, k.deep && deepVs cs⟩) rfl] at hk2
  by_cases e : b2 = b
  · subst e
    rw [if_pos rfl] at hk2
    by_cases e2 : g2 = g
    · subst e2
      rw [if_pos rfl] at hk2
      simp only [Option.some.injEq] at hk2
      subst hk2
      simp only [setAt_len] at hle2
      refine ⟨_, storeV_of hk hc2 hn2 hle2, ?_⟩
      have hk' : blk? (m.set b2 ⟨setAt k.cells p cs2, k.gen, k.deep && deepVs cs2⟩) b2 g2 = some ⟨setAt k.cells p cs2, k.gen, k.deep && deepVs cs2⟩ := by
        rw [blk_set hk (k' := ⟨setAt k.cells p cs2, k.gen, k.deep && deepVs cs2⟩) rfl]; simp
      rw [storeV_of hk' hc hn (by simp only [setAt_len]; exact hle)]
      simp only [List.set_set]
      congr 2
      rw [setAt_comm cs cs2 k.cells p off (by omega)]
      rw [Bool.and_assoc, Bool.and_assoc, Bool.and_comm (deepVs cs)]
    · rw [if_neg e2] at hk2; cases hk2
  · rw [if_neg e] at hk2
    refine ⟨_, storeV_of hk2 hc2 hn2 hle2, ?_⟩
    have hk' : blk? (m.set b2 ⟨setAt k2.cells p cs2, k2.gen, k2.deep && deepVs cs2⟩) b g = some k := by
      rw [blk_set hk2 (k' := ⟨setAt k2.cells p cs2, k2.gen, k2.deep && deepVs cs2⟩) rfl, if_neg (by omega)]; exact hk
    rw [storeV_of hk' hc hn hle, List.set_comm _ _ (by omega)]

theorem evOp_loado {cb : Cb} {T : List MV} {m m' : Mem} {ls ls' : List LRec} {o : Nat} {n : Option Nat} {a : Opd} {v : MV} (h : evOp cb ⟨T, m, ls⟩ (.loado o n a) = some (v, m', ls')) :
    m' = m ∧ ls' = ls ∧ ∃ b g, getO T a = .ptr b g o ∧ loadV m n (.ptr b g o) = some v := by
  simp only [evOp, evOp0] at h
  split at h
  case h_2 => cases h
  rename_i h0
  split at h0
  case h_2 => cases h0
  rename_i b g off hp
  split at h0
  case isFalse => cases h0
  rename_i ho
  subst ho
  simp only [Option.map_eq_some_iff, Prod.mk.injEq, Option.some.injEq] at h0 h
  obtain ⟨u, h1, rfl, rfl⟩ := h0
  obtain ⟨rfl, rfl, rfl⟩ := h
  exact ⟨rfl, rfl, b, g, hp, h1⟩

theorem evOp_loado_of {cb : Cb} {T : List MV} {m : Mem} {ls : List LRec} {o b g : Nat} {n : Option Nat} {a : Opd} {v : MV} (hp : getO T a = .ptr b g o) (h : loadV m n (.ptr b g o) = some v) : evOp cb ⟨T, m, ls⟩ (.loado o n a) = some (v, m, ls) := by
  simp [evOp, evOp0, hp, h]

theorem evOp_storeo {cb : Cb} {T : List MV} {m m' : Mem} {ls ls' : List LRec} {o n : Nat} {a x : Opd} {v : MV} (h : evOp cb ⟨T, m, ls⟩ (.storeo o n a x) = some (v, m', ls')) :
    v = .tup [] ∧ ls' = ls ∧ ∃ b g, getO T a = .ptr b g o ∧ storeV m n (.ptr b g o) (getO T x) = some m' := by
  simp only [evOp, evOp0] at h
  split at h
  case h_2 => cases h
  rename_i h0
  split at h0
  case h_2 => cases h0
  rename_i b g off hp
  split at h0
  case isFalse => cases h0
  rename_i ho
  subst ho
  simp only [Option.map_eq_some_iff, Prod.mk.injEq, Option.some.injEq] at h0 h
  obtain ⟨u, h1, rfl, rfl⟩ := h0
  obtain ⟨rfl, rfl, rfl⟩ := h
  exact ⟨rfl, rfl, b, g, hp, h1⟩

theorem evOp_storeo_of {cb : Cb} {T : List MV} {m m' : Mem} {ls : List LRec} {o n b g : Nat} {a x : Opd} (hp : getO T a = .ptr b g o) (h : storeV m n (.ptr b g o) (getO T x) = some m') : evOp cb ⟨T, m, ls⟩ (.storeo o n a x) = some (.tup [], m', ls) := by
  simp [evOp, evOp0, hp, h]

theorem off_cases {x : IOp} {o n : Nat} (h : spanOf x = some (o, n)) : (∃ k a, x = .loado o k a ∧ n = spanLen k) ∨ (∃ a y, x = .storeo o n a y) := by
  cases x <;> try (simp [spanOf] at h; done)
  case loado o' k a =>
    cases k <;> simp only [spanOf, Option.some.injEq, Prod.mk.injEq] at h <;> obtain ⟨rfl, rfl⟩ := h
    · exact .inl ⟨none, a, rfl, rfl⟩
    · exact .inl ⟨some _, a, rfl, rfl⟩
  case storeo o' k a y =>
    simp only [spanOf, Option.some.injEq, Prod.mk.injEq] at h
    obtain ⟨rfl, rfl⟩ := h
    exact .inr ⟨a, y, rfl⟩

theorem evRes_cases {cb : Cb} {o : IOper} {T : List MV} {m m' : Mem} {ls ls' : List LRec} {v : MV} (h : evRes cb o ⟨T, m, ls⟩ = some (v, m', ls')) :
    (v = .tup [] ∧ m' = m ∧ ls' = ls ∧ ∀ m2 ls2, evRes cb o ⟨T, m2, ls2⟩ = some (.tup [], m2, ls2)) ∨ (evOp cb ⟨T, m, ls⟩ o.op = some (v, m', ls') ∧ ∀ m2 ls2, evRes cb o ⟨T, m2, ls2⟩ = evOp cb ⟨T, m2, ls2⟩ o.op) := by
  unfold evRes at *
  simp only at *
  cases hw : wants T o.guard with
  | none => simp [hw] at h
  | some b =>
    cases b with
    | false =>
      simp only [hw, Option.some.injEq, Prod.mk.injEq] at h
      obtain ⟨rfl, rfl, rfl⟩ := h
      exact .inl ⟨rfl, rfl, rfl, fun _ _ => rfl⟩
    | true =>
      simp only [hw] at h ⊢
      exact .inr ⟨h, by first | trivial | (intros; trivial)⟩

theorem swap_off {cb : Cb} {x y : IOper} (hd : offDis x.op y.op = true) {T : List MV} {m mx my : Mem} {ls lx ly : List LRec} {vx vy : MV} (hx : evRes cb x ⟨T, m, ls⟩ = some (vx, mx, lx)) (hy : evRes cb y ⟨T, mx, lx⟩ = some (vy, my, ly)) :
    ∃ mq, evRes cb y ⟨T, m, ls⟩ = some (vy, mq, lx) ∧ evRes cb x ⟨T, mq, lx⟩ = some (vx, my, ly) ∧ True := by
  unfold offDis at hd
  split at hd
  case h_2 => cases hd
  rename_i o n p k hsx hsy
  have hdis : o + n ≤ p ∨ p + k ≤ o := by
    rcases Bool.or_eq_true _ _ ▸ hd with h | h
    · exact .inl (Nat.le_of_ble_eq_true h)
    · exact .inr (Nat.le_of_ble_eq_true h)
  rcases evRes_cases hx with ⟨rfl, rfl, rfl, hx'⟩ | ⟨hx1, hx2⟩
  · rcases evRes_cases hy with ⟨rfl, rfl, rfl, hy'⟩ | ⟨hy1, hy2⟩
    · exact ⟨_, hy' _ _, hx' _ _, trivial⟩
    · have hly : ly = lx := by
        rcases off_cases hsy with ⟨k', a, e, _⟩ | ⟨a, u, e⟩ <;> rw [e] at hy1
        · exact (evOp_loado hy1).2.1
        · exact (evOp_storeo hy1).2.1
      subst hly
      exact ⟨my, hy, hx' _ _, trivial⟩
  · have hlx : lx = ls := by
      rcases off_cases hsx with ⟨k', a, e, _⟩ | ⟨a, u, e⟩ <;> rw [e] at hx1
      · exact (evOp_loado hx1).2.1
      · exact (evOp_storeo hx1).2.1
    subst hlx
    rcases evRes_cases hy with ⟨rfl, rfl, rfl, hy'⟩ | ⟨hy1, hy2⟩
    · exact ⟨_, hy' _ _, hx, trivial⟩
    · have hly : ly = lx := by
        rcases off_cases hsy with ⟨k', a, e, _⟩ | ⟨a, u, e⟩ <;> rw [e] at hy1
        · exact (evOp_loado hy1).2.1
        · exact (evOp_storeo hy1).2.1
      subst hly
      rcases off_cases hsx with ⟨k', a, e, rfl⟩ | ⟨a, u, e⟩
      · rw [e] at hx1
        obtain ⟨rfl, _, b, g, hp, hl⟩ := evOp_loado hx1
        rcases off_cases hsy with ⟨k2, a2, e2, rfl⟩ | ⟨a2, u2, e2⟩
        · rw [e2] at hy1
          obtain ⟨rfl, _, b2, g2, hp2, hl2⟩ := evOp_loado hy1
          exact ⟨my, hy, hx, trivial⟩
        · rw [e2] at hy1
          obtain ⟨rfl, _, b2, g2, hp2, hl2⟩ := evOp_storeo hy1
          refine ⟨my, hy, ?_, trivial⟩
          rw [hx2, e]
          exact evOp_loado_of hp (by rw [loadV_store hl2 (by omega)]; exact hl)
      · rw [e] at hx1
        obtain ⟨rfl, _, b, g, hp, hl⟩ := evOp_storeo hx1
        rcases off_cases hsy with ⟨k2, a2, e2, rfl⟩ | ⟨a2, u2, e2⟩
        · rw [e2] at hy1
          obtain ⟨rfl, _, b2, g2, hp2, hl2⟩ := evOp_loado hy1
          refine ⟨m, ?_, hx, trivial⟩
          rw [hy2, e2]
          exact evOp_loado_of hp2 (by rw [← loadV_store hl (by omega)]; exact hl2)
        · rw [e2] at hy1
          obtain ⟨rfl, _, b2, g2, hp2, hl2⟩ := evOp_storeo hy1
          obtain ⟨m3, q1, q2⟩ := storeV_comm hl hl2 (by omega)
          refine ⟨m3, ?_, ?_, trivial⟩
          · rw [hy2, e2]; exact evOp_storeo_of hp2 q1
          · rw [hx2, e]; exact evOp_storeo_of hp q2

theorem swap_ok {pm : Nat → Bool} {cb : Cb} (hp : PureCb pm cb) {x y : IOper} (hc : conf pm x y = false) {s s1 s2 : St} (h1 : evOper cb x s = some s1) (h2 : evOper cb y s1 = some s2) : ∃ t, evOper cb y s = some t ∧ evOper cb x t = some s2 := by
  obtain ⟨T, m, ls⟩ := s
  unfold conf at hc
  simp only [Bool.or_eq_false_iff] at hc
  obtain ⟨⟨⟨c1, c2⟩, c3⟩, c4⟩ := hc
  rw [evOper_eq] at h1 h2
  cases hx : evRes cb x ⟨T, m, ls⟩ with
  | none => simp [hx] at h1
  | some rx =>
    obtain ⟨vx, mx, lx⟩ := rx
    simp only [hx, Option.map_some, Option.some.injEq] at h1
    subst h1
    cases hy : evRes cb y ⟨put T x.dst vx, mx, lx⟩ with
    | none => simp [hy] at h2
    | some ry =>
      obtain ⟨vy, my, ly⟩ := ry
      simp only [hy, Option.map_some, Option.some.injEq] at h2
      subst h2
      -- it is enough that y gives the same first, and x then
      have fin : ∀ mq lq, evRes cb y ⟨T, m, ls⟩ = some (vy, mq, lq) → evRes cb x ⟨T, mq, lq⟩ = some (vx, my, ly) → ∃ t, evOper cb y ⟨T, m, ls⟩ = some t ∧ evOper cb x t = some ⟨put (put T x.dst vx) y.dst vy, my, ly⟩ := by
        intro mq lq e1 e2
        refine ⟨⟨put T y.dst vy, mq, lq⟩, by rw [evOper_eq, e1]; rfl, ?_⟩
        rw [evOper_eq, evRes_congr (T' := T) (put_getD c2), e2]
        simp only [Option.map_some]
        rw [put_comm c3]
      have hyT : ∀ mq lq, evRes cb y ⟨put T x.dst vx, mq, lq⟩ = evRes cb y ⟨T, mq, lq⟩ := fun mq lq => evRes_congr (put_getD c1)
      rw [hyT] at hy
      cases hod : offDis x.op y.op with
      | true =>
        obtain ⟨mq, e1, e2, e3⟩ := swap_off hod hx hy
        exact fin mq lx e1 e2
      | false =>
      rw [hod] at c4
      simp only [Bool.not_false, Bool.and_true] at c4
      rcases cls_le (pm := pm) x.op with k1 | k1 | k1 | k1
      · obtain ⟨rfl, rfl, hx'⟩ := evRes_pure hp k1 hx
        exact fin my ly hy (hx' my ly)
      · obtain ⟨rfl, rfl, hx'⟩ := evRes_read hp k1 hx
        rcases cls_le (pm := pm) y.op with k2 | k2 | k2 | k2
        · obtain ⟨rfl, rfl, hy'⟩ := evRes_pure hp k2 hy
          exact fin _ _ hy hx
        · obtain ⟨rfl, rfl, hy'⟩ := evRes_read hp k2 hy
          exact fin _ _ hy hx
        · rw [k1, k2] at c4; simp [memConf] at c4
        · obtain ⟨⟨xs, rfl⟩, rfl⟩ := evRes_new hp k2 hy
          exact fin _ _ hy (evRes_reads hp k1 xs hx)
      all_goals
        rcases cls_le (pm := pm) y.op with k2 | k2 | k2 | k2
        · obtain ⟨rfl, rfl, hy'⟩ := evRes_pure hp k2 hy
          exact fin m ls (hy' m ls) hx
        all_goals (rw [k1, k2] at c4; simp [memConf] at c4)

/-! ### Any order that keeps conflicting ones as they stand -/

def evIdx (cb : Cb) (l : List IOper) : List Nat → St → Option St
  | [], s => some s
  | i :: is, s => match l[i]? with
    | some o => match evOper cb o s with
      | some s' => evIdx cb l is s'
      | none => none
    | none => none

theorem evIdx_range (cb : Cb) : ∀ (l pre : List IOper) (s : St), evIdx cb (pre ++ l) (List.range' pre.length l.length) s = evOps cb l s
  | [], _, _ => rfl
  | o :: l, pre, s => by
    simp only [List.length_cons, List.range'_succ, evIdx, evOps]
    rw [List.getElem?_append_right (Nat.le_refl _)]
    simp only [Nat.sub_self, List.getElem?_cons_zero]
    cases evOper cb o s with
    | none => rfl
    | some s' =>
      simp only []
      have := evIdx_range cb l (pre ++ [o]) s'
      simpa [List.append_assoc] using this

theorem evIdx_front {pm : Nat → Bool} {cb : Cb} (hp : PureCb pm cb) {l : List IOper} {i : Nat} {oi : IOper} (hi : l[i]? = some oi) : ∀ (pre post : List Nat) (s f : St), (∀ k ∈ pre, ∀ ok, l[k]? = some ok → conf pm ok oi = false) →
    evIdx cb l (pre ++ i :: post) s = some f → evIdx cb l (i :: (pre ++ post)) s = some f
  | [], post, s, f, _, h => h
  | k :: pre, post, s, f, hc, h => by
    simp only [List.cons_append, evIdx] at h
    cases hk : l[k]? with
    | none => simp [hk] at h
    | some ok =>
      simp only [hk] at h
      cases hs : evOper cb ok s with
      | none => simp [hs] at h
      | some s1 =>
        simp only [hs] at h
        have ih := evIdx_front hp hi pre post s1 f (fun j hj => hc j (by simp [hj])) h
        simp only [evIdx, hi] at ih
        cases hs2 : evOper cb oi s1 with
        | none => simp [hs2] at ih
        | some s2 =>
          simp only [hs2] at ih
          obtain ⟨t, e1, e2⟩ := swap_ok hp (hc k (by simp) ok hk) hs hs2
          simp [evIdx, hi, e1, hk, e2, ih]

end Go.Mini
