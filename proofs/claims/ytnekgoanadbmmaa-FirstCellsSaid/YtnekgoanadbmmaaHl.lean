/-
The statement FirstCells, of the program's text in Mini.
-/
import Derived.Test.YtnekgoanadbmmaaHk
import Derived.Test.YtnekgoanadbmmaaGa
namespace Go.Proofs.Ytnekgoanadbmmaa
open Go.Mini
set_option linter.unusedSimpArgs false
set_option linter.unusedVariables false
set_option maxHeartbeats 4000000

section
variable {m : Mem} {ls : List LRec} {Q : MV → Mem → List LRec → Prop}

/-! ### Plainly -/

theorem cut_full {l : List Cell} {i : Nat} (h : i ≤ l.length) : cut l i l.length = l.drop i := by
  unfold cut
  exact List.take_of_length_le (by simp)
theorem cut_join {l : List Cell} {i j : Nat} (h1 : i ≤ j) (h2 : j ≤ l.length) : cut l i j ++ l.drop j = l.drop i := by
  unfold cut
  have : l.drop j = (l.drop i).drop (j - i) := by rw [List.drop_drop]; congr 1; omega
  rw [this, List.take_append_drop]

/-- The cells of two rows' own lines. -/
theorem cells_own {rest : List Cell} {b : Room} : ∀ {k i : Nat} {row : List Cell} {r : Room}, row.length = rest.length → i ≤ row.length → rest.length + 1 ≤ i + k → (∀ p ∈ firstG rest b row r k i, p.2 = 0) →
    ∃ out, cellsG rest row ((firstG rest b row r k i).map (·.1)) = some out ∧ out.length = (firstG rest b row r k i).length ∧ out.flatten = cut row i (oneF row i r).1.to.toNat ++ rest.drop (oneF row i r).1.to.toNat
  | 0, i, row, r, h1, h2, h3, h4 => by omega
  | k + 1, i, row, r, h1, h2, h3, h4 => by
    have e0 : (oneF row i r).2 = 0 := h4 _ (by simp [firstG])
    obtain ⟨g1, to, g2, g3, g4, g5, g6⟩ := oneF_ok h2 e0
    have hne : ¬ (oneF row i r).2 ≠ 0 := fun c => c e0
    have et : (oneF row i r).1.to.toNat = to := by omega
    have ef : (oneF row i r).1.fr.toNat = i := by omega
    have hbc : ¬ badCut row (oneF row i r).1 := by unfold badCut; omega
    by_cases hm : moreB row (oneF row i r).1 = true
    · have e : firstG rest b row r (k + 1) i = oneF row i r :: firstG rest b rest b k to := by
        simp only [firstG]
        rw [if_neg hne, if_pos hm, et]
      have hlt := more_lt h2 e0 hm
      rw [e] at h4 ⊢
      obtain ⟨out, o1, o2, o3⟩ := cells_own (k := k) (i := to) (b := b) (row := rest) (r := b) rfl (by omega) (by have := g5 hlt; omega) (fun p hp => h4 p (by simp [hp]))
      have e1 : (oneF rest to b).2 = 0 := by
        cases k with
        | zero => omega
        | succ k => exact h4 _ (by simp [firstG])
      obtain ⟨_, to', f2, f3, f4, _, _⟩ := oneF_ok (l := rest) (by omega) e1
      have et' : (oneF rest to b).1.to.toNat = to' := by omega
      rw [et', cut_join f3 f4] at o3
      refine ⟨cut row i to :: out, ?_, by simp [o2], ?_⟩
      · simp only [List.map_cons, cellsG]
        rw [if_neg hbc, o1, ef, et]; rfl
      · rw [et, List.flatten_cons, o3]
    · have e : firstG rest b row r (k + 1) i = [oneF row i r] := by
        simp only [firstG]
        rw [if_neg hne, if_neg hm]
      have hto : to = row.length := by
        unfold moreB at hm
        simp only [Bool.or_eq_true, decide_eq_true_eq, not_or] at hm
        omega
      rw [e]
      refine ⟨[cut row i to], ?_, by simp, ?_⟩
      · simp only [List.map_cons, List.map_nil, cellsG]
        rw [if_neg hbc, ef, et]; rfl
      · rw [et, hto, h1]
        simp

theorem first_cells {f r : List Cell} {a b : Room} {L : List Line} (h : firstL f r a b = (L, 0)) : ∃ (x : Line) (xs : List Line) (to : Nat) (out : List (List Cell)), L = x :: xs ∧ x.to = to ∧ to ≤ f.length ∧ firstC f r L = some out ∧ out.length = L.length ∧ out.flatten = f.take to ++ r.drop to := by
  unfold firstL at h
  split at h
  · simp at h
  · rename_i hb
    have hal : alikeF f r = true := by
      cases h : alikeF f r with
      | true => rfl
      | false => exact absurd (.inl h) hb
    have hlen := alikeF_len hal
    cases hf : (firstG r b f a (f.length + 2) 0).find? bad with
    | some p =>
      rw [hf] at h
      have := List.find?_some hf
      simp only [bad, decide_eq_true_eq] at this
      simp only [Prod.mk.injEq] at h
      exact absurd h.2 this
    | none =>
      rw [hf] at h
      simp only [Prod.mk.injEq, and_true] at h
      have hz : ∀ p ∈ firstG r b f a (f.length + 2) 0, p.2 = 0 := by
        intro p hp
        rw [List.find?_eq_none] at hf
        have := hf p hp
        simpa [bad] using this
      obtain ⟨out, o1, o2, o3⟩ := cells_own (b := b) (r := a) (k := f.length + 2) (i := 0) hlen (by omega) (by omega) hz
      have e0 : (oneF f 0 a).2 = 0 := hz _ (by simp [firstG])
      obtain ⟨g1, to, g2, g3, g4, g5, g6⟩ := oneF_ok (l := f) (i := 0) (by omega) e0
      have et : (oneF f 0 a).1.to.toNat = to := by omega
      rw [et] at o3
      refine ⟨(oneF f 0 a).1, L.drop 1, to, out, ?_, g2, g4, ?_, ?_, ?_⟩
      · rw [← h]; simp [firstG]
      · unfold firstC
        rw [if_neg (by rw [hal]; simp), ← h]
        exact o1
      · rw [← h, o2]; simp
      · rw [o3]; unfold cut; simp

/-! ### Small contracts -/

theorem wc_frz {P : IProg} {f : Nat} {F : IFn} {args args' : List MV} {R : MV → Mem → List LRec → Prop} (hp : P.prim f = none) (hF : P.fn f = some F) (hm : F.mode = 3) (ha : frzs m frzFuel args = some args') (hd : deepVs args' = true) (h : Wc P f args' m ls R) : Wc P f args m ls R := by
  obtain ⟨n, v, m', ls', h1, h2⟩ := h.out
  cases n with
  | zero => simp [mach] at h1
  | succ n =>
    refine ⟨⟨n + 1, v, m', ls', ?_, h2⟩⟩
    have h' : frzs m frzFuel args' = some args' := frzs_fuel hd
    simp only [mach, callP, hp, hF, callF, hm, h', ha] at h1 ⊢
    exact h1

/-- An append of a row that is read. -/
theorem app_addS {α : Type} {K : Enc α} {N bytes sz : Nat} {xs ys : List α} {v x : MV} (h : App K N xs m v) (hN : N ≤ m.length) (hs : Sl K ys x) (hr : (xs.length + ys.length) * bytes ≤ 35184372088832) (hz : K.sz = sz) : ∃ v' m', appM m sz bytes v x = some (v', m') ∧ App K N (xs ++ ys) m' v' ∧ (∀ i : Nat, i < N → m'[i]? = m[i]?) ∧ m.length ≤ m'.length := by
  subst hz
  by_cases hy : ys = []
  · subst hy
    refine ⟨v, m, ?_, by simpa using h, fun _ _ => rfl, Nat.le_refl _⟩
    have e1 : lenM x = some 0 := hs.len
    have e3 : ∃ d, srcCells m K.sz x = some ([], d) := by
      rcases hs with ⟨rfl, _⟩ | ⟨kc, rfl⟩
      · exact ⟨true, rfl⟩
      · exact ⟨true, src_lit (K := K) (xs := [])⟩
    obtain ⟨d, e3⟩ := e3
    unfold appM
    rw [e1, e3, h.len]
    rcases h with ⟨rfl, _⟩ | rfl | ⟨b, g, _, rfl, _⟩ <;> simp
  · have hl : srcCells m K.sz x = some (flat K.E ys, true) := by
      rcases hs with ⟨rfl, h⟩ | ⟨kc, rfl⟩
      · exact absurd h hy
      · exact src_lit
    exact h.app hN hl hs.len hy hr rfl

theorem app_tz {α : Type} {K : Enc α} {N : Nat} {xs : List α} {v : MV} (h : App K N xs m v) : ∃ v', Tz m 1 v v' ∧ Sl K xs v' := by
  rcases h with ⟨rfl, rfl⟩ | rfl | ⟨b, g, _, rfl, hb⟩
  · exact ⟨.nils, Tz.deep rfl, .nil⟩
  · exact ⟨_, Tz.deep (by simp [deepV]), .lit⟩
  · refine ⟨.lit (flat K.E xs) xs.length none, fun n => ?_, .lit⟩
    unfold Go.Mini.frz
    rw [if_neg (by simp [deepV])]
    simp only [blk_of hb rfl, take_all (flat_len K xs), if_true]

theorem app_keep {α : Type} {K : Enc α} {N : Nat} {xs : List α} {v : MV} (h : App K N xs m v) {m' : Mem} (hm : ∀ i : Nat, i < m.length → m'[i]? = m[i]?) : App K N xs m' v := by
  rcases h with h | h | ⟨b, g, h1, h2, h3⟩
  · exact .inl h
  · exact .inr (.inl h)
  · exact .inr (.inr ⟨b, g, h1, h2, by rw [hm b (get_lt h3)]; exact h3⟩)

theorem cellsG_len {rest : List Cell} : ∀ {L : List Line} {row : List Cell} {out : List (List Cell)}, cellsG rest row L = some out → out.length = L.length ∧ ∀ c ∈ out, c.length ≤ row.length + rest.length
  | [], row, out, h => by simp [cellsG] at h; subst h; simp
  | y :: L, row, out, h => by
    simp only [cellsG] at h
    split at h
    · cases h
    · cases hc : cellsG rest rest L with
      | none => rw [hc] at h; cases h
      | some t =>
        rw [hc] at h
        simp only [Option.map_some, Option.some.injEq] at h
        subst h
        have ih := cellsG_len hc
        refine ⟨by simp [ih.1], fun c hc' => ?_⟩
        rcases List.mem_cons.1 hc' with rfl | h
        · unfold cut; simp; omega
        · obtain ⟨row', hr⟩ : ∃ row', row' = row := ⟨_, rfl⟩
          have key : ∀ (L : List Line) (out : List (List Cell)), cellsG rest rest L = some out → ∀ c ∈ out, c.length ≤ rest.length := by
            intro L
            induction L with
            | nil => intro out h; simp [cellsG] at h; subst h; simp
            | cons y L ih =>
              intro out h c hcm
              simp only [cellsG] at h
              split at h
              · cases h
              · cases hc2 : cellsG rest rest L with
                | none => rw [hc2] at h; cases h
                | some t =>
                  rw [hc2] at h
                  simp only [Option.map_some, Option.some.injEq] at h
                  subst h
                  rcases List.mem_cons.1 hcm with rfl | h
                  · unfold cut; simp; omega
                  · exact ih t hc2 c h
          have := key _ _ hc c h
          omega

def cellsP (first rest : List Cell) (L : List Line) : List (List Cell) × Int := match firstC first rest L with | none => ([], 2) | some o => (o, 0)

theorem c_CellsU {first rest : List Cell} {L : List Line} {v w z : MV} {out : List (List Cell)} {e : Int} (he : cellsP first rest L = (out, e)) (hv : Sl KCell first v) (hw : Sl KCell rest w) (hz : Sl KLine L z) (hl1 : first.length ≤ 1000000) (hl2 : rest.length ≤ 1000000) (hl3 : L.length ≤ 1000000)
    (hQ : ∀ vs u, SlV vs u → Sls KCell out vs → Q (.tup [u, .int .i64 e]) m ls) : Wc ip f_first_Cells [v, w, z] m ls Q := by
  unfold cellsP at he
  refine c_Cells hv hw hz hl1 hl2 hl3 (fun h => ?_) (fun o h vs u h1 h2 => ?_)
  · rw [h] at he
    simp only [Prod.mk.injEq] at he
    obtain ⟨rfl, rfl⟩ := he
    exact hQ [] .nils (.inl ⟨rfl, rfl⟩) .nil
  · rw [h] at he
    simp only [Prod.mk.injEq] at he
    obtain ⟨rfl, rfl⟩ := he
    exact hQ vs u h1 h2
theorem c_CellsU15 {first rest : List Cell} {L : List Line} {v w z : MV} {out : List (List Cell)} {e : Int} (he : cellsP first rest L = (out, e)) (hv : Sl KCell first v) (hw : Sl KCell rest w) (hz : Sl KLine L z) (hl1 : first.length ≤ 1000000) (hl2 : rest.length ≤ 1000000) (hl3 : L.length ≤ 500)
    (hQ : ∀ vs u, SlV vs u → Sls KCell out vs → Q (.tup [u, .int .i64 e]) m ls) : Wc ip f_ref15_Cells [v, w, z] m ls Q := by
  unfold cellsP at he
  refine c_Cells15 hv hw hz hl1 hl2 hl3 (fun h => ?_) (fun o h vs u h1 h2 => ?_)
  · rw [h] at he
    simp only [Prod.mk.injEq] at he
    obtain ⟨rfl, rfl⟩ := he
    exact hQ [] .nils (.inl ⟨rfl, rfl⟩) .nil
  · rw [h] at he
    simp only [Prod.mk.injEq] at he
    obtain ⟨rfl, rfl⟩ := he
    exact hQ vs u h1 h2

theorem wo_iaddrV {P : IProg} {nt : Nat} {A : As} {d : Option Nat} {l : List IOper} {Q : As → Mem → List LRec → Prop} {x i : Opd} {u : MV} {vs : List MV} {k : IntKind} {a : Int} (hs : SlV vs u) (hx : lk A x = some u) (hi : lk A i = some (.int k a)) (h0 : 0 ≤ a ∧ a.toNat < vs.length) (hd : okD nt d = true)
    (hk : Wo P nt l (putA A d (.pimm vs (a.toNat * 1 + 0))) m ls Q) : Wo P nt (⟨d, none, .iaddr 1 x i⟩ :: l) A m ls Q := by
  rcases hs with ⟨rfl, rfl⟩ | ⟨kc, rfl⟩
  · simp at h0
  · exact wo_iaddrl hx hi h0.1 h0.2 rfl hd hk
theorem wo_loadV {P : IProg} {nt : Nat} {A : As} {d : Option Nat} {l : List IOper} {Q : As → Mem → List LRec → Prop} {a : Opd} {vs : List MV} {i : Nat} (ha : lk A a = some (.pimm vs (i * 1 + 0))) (hi : i < vs.length) (hd : okD nt d = true)
    (hk : Wo P nt l (putA A d vs[i]) m ls Q) : Wo P nt (⟨d, none, .load none a⟩ :: l) A m ls Q :=
  wo_loadp ha (by simp only [loadFrom, Nat.mul_one, Nat.add_zero]; exact List.getElem?_eq_getElem hi) hd hk

/-! ### The law -/

theorem law_FirstCells {f r : List Cell} {L : List Line} {v w z : MV} {a b : Room} (hv : Sl KCell f v) (hw : Sl KCell r w) (hz : Sl KLine L z) (hl1 : f.length ≤ 9223372036854775807) (hl2 : r.length ≤ 9223372036854775807) (hl3 : L.length ≤ 9223372036854775807) (hc1 : ∀ c ∈ f, c.ok) (hc2 : ∀ c ∈ r, c.ok) (ha : I64 a.start) (hb : I64 b.start) (hQ : Q (.bool true) m ls) :
    Wc ip f_law15_FirstCells [.agg (given15 v w a b), z] m ls Q := by
  have hd : deepVs (given15 v w a b) = true := by simp [given15, deepVs, hv.deep, hw.deep, deepV]
  refine wc_fn3d rfl fn_law15_FirstCells rfl (by simp [deepVs, deepV, hd, hz.deep]) rfl ?_
  by_cases hbig : great15 f r
  · repeat' (first
      | refine wo_call rfl rfl rfl (c_great15 (a := a) (b := b) hv hw ?_)
      | refine wo_call rfl rfl rfl (c_head15 ?_)
      | refine z00 ?_ | refine z01 ?_ | refine z02 ?_ | refine z04 ?_ | refine z05 ?_ | refine z08 ?_ | refine zp ?_ | refine z0g ?_ | refine z0h ?_ | refine z0j ?_ | refine z0k ?_
      | refine z0l ?_ | refine z0n ?_ | refine z0o ?_ | refine z0p ?_ | refine z0q ?_ | refine z0r ?_ | refine z0s ?_ | refine z0v ?_ | refine z0z ?_ | refine z12 ?_ | refine z14 ?_
      | refine z15 ?_ | refine z1e ?_ | refine z1f (hk := ?_) | refine z1i ?_ | refine z1j ?_ | refine z1k ?_ | refine z1l ?_ | refine z1m ?_ | refine z1n ?_
      | refine z1o (fun hp => ?_) (fun hp => ?_) | refine z1p (fun hp => ?_) (fun hp => ?_) | refine z1q (fun hp => ?_) (fun hp => ?_) | refine z1r ?_ | refine z1s ?_ | refine z1t ?_
      | refine z1u ?_ | refine z1v ?_ | refine z1w ?_ | refine z1x ?_ | refine z1y ?_ | refine z1z ?_ | refine z20 ?_ | refine z21 ?_ | refine z22 ?_ | refine z23 ?_ | refine z24 ?_
      | refine z25 ?_ | refine z26 ?_ | refine z27 ?_ | refine z28 (fun hp => ?_) (fun hp => ?_) | refine z29 (fun hp => ?_) (fun hp => ?_) | refine z2a ?_ | refine z2b ?_)
    exact fin_cln rfl hQ
  · obtain ⟨hb1, hb2⟩ : f.length ≤ 80 ∧ r.length ≤ 80 := by unfold great15 at hbig; omega
    by_cases hb3 : L.length > 100
    · repeat' (first
        | refine wo_call rfl rfl rfl (c_great15 (a := a) (b := b) hv hw ?_)
        | refine wo_call rfl rfl rfl (c_head15 ?_)
        | refine z00 ?_ | refine z01 ?_ | refine z02 ?_ | refine z04 ?_ | refine z05 ?_ | refine z08 ?_ | refine zp ?_ | refine z0g ?_ | refine z0h ?_ | refine z0j ?_ | refine z0k ?_
        | refine z0l ?_ | refine z0n ?_ | refine z0o ?_ | refine z0p ?_ | refine z0q ?_ | refine z0r ?_ | refine z0s ?_ | refine z0v ?_ | refine z0z ?_ | refine z12 ?_ | refine z14 ?_
        | refine z15 ?_ | refine z1e ?_ | refine z1f (hk := ?_) | refine z1i ?_ | refine z1j ?_ | refine z1k ?_ | refine z1l ?_ | refine z1m ?_ | refine z1n ?_
        | refine z1o (fun hp => ?_) (fun hp => ?_) | refine z1p (fun hp => ?_) (fun hp => ?_) | refine z1q (fun hp => ?_) (fun hp => ?_) | refine z1r ?_ | refine z1s ?_ | refine z1t ?_
        | refine z1u ?_ | refine z1v ?_ | refine z1w ?_ | refine z1x ?_ | refine z1y ?_ | refine z1z ?_ | refine z20 ?_ | refine z21 ?_ | refine z22 ?_ | refine z23 ?_ | refine z24 ?_
        | refine z25 ?_ | refine z26 ?_ | refine z27 ?_ | refine z28 (fun hp => ?_) (fun hp => ?_) | refine z29 (fun hp => ?_) (fun hp => ?_) | refine z2a ?_ | refine z2b ?_)
      exact fin_cln rfl hQ
    · generalize hcp : cellsP f r L = cp
      obtain ⟨out, e⟩ := cp
      repeat' (first
        | refine wo_call rfl rfl rfl (c_great15 (a := a) (b := b) hv hw ?_)
        | refine wo_call rfl rfl rfl (c_CellsU hcp hv hw hz (by omega) (by omega) (by omega) ?_)
        | refine z00 ?_ | refine z01 ?_ | refine z02 ?_ | refine z04 ?_ | refine z05 ?_ | refine z08 ?_ | refine zp ?_ | refine z0g ?_ | refine z0h ?_ | refine z0j ?_ | refine z0k ?_
        | refine z0l ?_ | refine z0n ?_ | refine z0o ?_ | refine z0p ?_ | refine z0q ?_ | refine z0r ?_ | refine z0s ?_ | refine z0v ?_ | refine z0z ?_ | refine z12 ?_ | refine z14 ?_
        | refine z15 ?_ | refine z1e ?_ | refine z1f (hk := ?_) | refine z1i ?_ | refine z1j ?_ | refine z1k ?_ | refine z1l ?_ | refine z1m ?_ | refine z1n ?_
        | refine z1o (fun hp => ?_) (fun hp => ?_) | refine z1p (fun hp => ?_) (fun hp => ?_) | refine z1q (fun hp => ?_) (fun hp => ?_) | refine z1r ?_ | refine z1s ?_ | refine z1t ?_
        | refine z1u ?_ | refine z1v ?_ | refine z1w ?_ | refine z1x ?_ | refine z1y ?_ | refine z1z ?_ | refine z20 ?_ | refine z21 ?_ | refine z22 ?_ | refine z23 ?_ | refine z24 ?_
        | refine z25 ?_ | refine z26 ?_ | refine z27 ?_ | refine z28 (fun hp => ?_) (fun hp => ?_) | refine z29 (fun hp => ?_) (fun hp => ?_) | refine z2a ?_ | refine z2b ?_)
      intro vs1 u1 hu1 hs1
      repeat' (first
        | refine wo_call rfl rfl rfl (c_CellsU15 hcp hv hw hz (by omega) (by omega) (by omega) ?_)
        | refine z00 ?_ | refine z01 ?_ | refine z02 ?_ | refine z04 ?_ | refine z05 ?_ | refine z08 ?_ | refine zp ?_ | refine z0g ?_ | refine z0h ?_ | refine z0j ?_ | refine z0k ?_
        | refine z0l ?_ | refine z0n ?_ | refine z0o ?_ | refine z0p ?_ | refine z0q ?_ | refine z0r ?_ | refine z0s ?_ | refine z0v ?_ | refine z0z ?_ | refine z12 ?_ | refine z14 ?_
        | refine z15 ?_ | refine z1e ?_ | refine z1f (hk := ?_) | refine z1i ?_ | refine z1j ?_ | refine z1k ?_ | refine z1l ?_ | refine z1m ?_ | refine z1n ?_
        | refine z1o (fun hp => ?_) (fun hp => ?_) | refine z1p (fun hp => ?_) (fun hp => ?_) | refine z1q (fun hp => ?_) (fun hp => ?_) | refine z1r ?_ | refine z1s ?_ | refine z1t ?_
        | refine z1u ?_ | refine z1v ?_ | refine z1w ?_ | refine z1x ?_ | refine z1y ?_ | refine z1z ?_ | refine z20 ?_ | refine z21 ?_ | refine z22 ?_ | refine z23 ?_ | refine z24 ?_
        | refine z25 ?_ | refine z26 ?_ | refine z27 ?_ | refine z28 (fun hp => ?_) (fun hp => ?_) | refine z29 (fun hp => ?_) (fun hp => ?_) | refine z2a ?_ | refine z2b ?_)
      intro vs2 u2 hu2 hs2
      have n1 : lenM u1 = some out.length := by rw [hu1.len, hs1.length]
      have n2 : lenM u2 = some out.length := by rw [hu2.len, hs2.length]
      have m1 := hs1.length
      have m2 := hs2.length
      obtain ⟨hol, hoc⟩ : out.length ≤ 100 ∧ ∀ c ∈ out, c.length ≤ 160 := by
        unfold cellsP at hcp
        cases hfc : firstC f r L with
        | none => rw [hfc] at hcp; simp only [Prod.mk.injEq] at hcp; rw [← hcp.1]; simp
        | some o =>
          rw [hfc] at hcp
          simp only [Prod.mk.injEq] at hcp
          rw [← hcp.1]
          unfold firstC at hfc
          split at hfc
          · cases hfc
          · have := cellsG_len hfc
            exact ⟨by omega, fun c hc => by have := this.2 c hc; omega⟩
      have key : ∀ (k i : Nat), i + k = out.length → ∀ {R : Ex → As → Mem → List LRec → Prop}, R (.exit 0) [(2, .pimm (given15 v w a b) 0)] [] [] →
          Wx ip i_law15_FirstCells.nt (.loop (lv [2, 5, 7, 9] 152) law15_FirstCells_b0) [(2, .pimm (given15 v w a b) 0), (5, u1), (7, u2), (9, .int .i64 i)] [] [] R := by
        intro k
        induction k with
        | zero =>
          intro i hk R hR
          refine wx_roundL rfl ?_
          repeat' (first
            | refine wx_exitL [2] ?_
            | refine wo_len rfl n1 rfl ?_
            | refine z00 ?_ | refine z01 ?_ | refine z02 ?_ | refine z04 ?_ | refine z05 ?_ | refine z08 ?_ | refine zp ?_ | refine z0g ?_ | refine z0h ?_ | refine z0j ?_ | refine z0k ?_
            | refine z0l ?_ | refine z0n ?_ | refine z0o ?_ | refine z0p ?_ | refine z0q ?_ | refine z0r ?_ | refine z0s ?_ | refine z0v ?_ | refine z0z ?_ | refine z12 ?_ | refine z14 ?_
            | refine z15 ?_ | refine z1e ?_ | refine z1f (hk := ?_) | refine z1i ?_ | refine z1j ?_ | refine z1k ?_ | refine z1l ?_ | refine z1m ?_ | refine z1n ?_
            | refine z1o (fun hp => ?_) (fun hp => ?_) | refine z1p (fun hp => ?_) (fun hp => ?_) | refine z1q (fun hp => ?_) (fun hp => ?_) | refine z1r ?_ | refine z1s ?_ | refine z1t ?_
            | refine z1u ?_ | refine z1v ?_ | refine z1w ?_ | refine z1x ?_ | refine z1y ?_ | refine z1z ?_ | refine z20 ?_ | refine z21 ?_ | refine z22 ?_ | refine z23 ?_ | refine z24 ?_
            | refine z25 ?_ | refine z26 ?_ | refine z27 ?_ | refine z28 (fun hp => ?_) (fun hp => ?_) | refine z29 (fun hp => ?_) (fun hp => ?_) | refine z2a ?_ | refine z2b ?_)
          exact hR
        | succ k ih =>
          intro i hk R hR
          have hlt : i < out.length := by omega
          have g1 := hs1.get i hlt (by omega)
          have g2 := hs2.get i hlt (by omega)
          have q1 : i < vs1.length := by omega
          have q2 : i < vs2.length := by omega
          have hcl : (out[i]).length ≤ 1000000000 := by
            have := hoc _ (List.getElem_mem hlt)
            omega
          refine wx_roundL rfl ?_
          repeat' (first
            | refine wo_len rfl n1 rfl ?_
            | refine wo_iaddrV hu1 rfl rfl ⟨by omega, q1⟩ rfl ?_
            | refine wo_iaddrV hu2 rfl rfl ⟨by omega, q2⟩ rfl ?_
            | refine wo_loadV rfl q1 rfl ?_
            | refine wo_loadV rfl q2 rfl ?_
            | refine wo_call rfl rfl rfl (c_Same11 (decide_eq_true rfl) g1 g2 hcl ?_)
            | refine z00 ?_ | refine z01 ?_ | refine z02 ?_ | refine z04 ?_ | refine z05 ?_ | refine z08 ?_ | refine zp ?_ | refine z0g ?_ | refine z0h ?_ | refine z0j ?_ | refine z0k ?_
            | refine z0l ?_ | refine z0n ?_ | refine z0o ?_ | refine z0p ?_ | refine z0q ?_ | refine z0r ?_ | refine z0s ?_ | refine z0v ?_ | refine z0z ?_ | refine z12 ?_ | refine z14 ?_
            | refine z15 ?_ | refine z1e ?_ | refine z1f (hk := ?_) | refine z1i ?_ | refine z1j ?_ | refine z1k ?_ | refine z1l ?_ | refine z1m ?_ | refine z1n ?_
            | refine z1o (fun hp => ?_) (fun hp => ?_) | refine z1p (fun hp => ?_) (fun hp => ?_) | refine z1q (fun hp => ?_) (fun hp => ?_) | refine z1r ?_ | refine z1s ?_ | refine z1t ?_
            | refine z1u ?_ | refine z1v ?_ | refine z1w ?_ | refine z1x ?_ | refine z1y ?_ | refine z1z ?_ | refine z20 ?_ | refine z21 ?_ | refine z22 ?_ | refine z23 ?_ | refine z24 ?_
            | refine z25 ?_ | refine z26 ?_ | refine z27 ?_ | refine z28 (fun hp => ?_) (fun hp => ?_) | refine z29 (fun hp => ?_) (fun hp => ?_) | refine z2a ?_ | refine z2b ?_)
          exact wx_loopL (ih (i + 1) (by omega) hR)
      repeat' (first
        | refine wo_len rfl n1 rfl ?_
        | refine wo_len rfl n2 rfl ?_
        | refine z00 ?_ | refine z01 ?_ | refine z02 ?_ | refine z04 ?_ | refine z05 ?_ | refine z08 ?_ | refine zp ?_ | refine z0g ?_ | refine z0h ?_ | refine z0j ?_ | refine z0k ?_
        | refine z0l ?_ | refine z0n ?_ | refine z0o ?_ | refine z0p ?_ | refine z0q ?_ | refine z0r ?_ | refine z0s ?_ | refine z0v ?_ | refine z0z ?_ | refine z12 ?_ | refine z14 ?_
        | refine z15 ?_ | refine z1e ?_ | refine z1f (hk := ?_) | refine z1i ?_ | refine z1j ?_ | refine z1k ?_ | refine z1l ?_ | refine z1m ?_ | refine z1n ?_
        | refine z1o (fun hp => ?_) (fun hp => ?_) | refine z1p (fun hp => ?_) (fun hp => ?_) | refine z1q (fun hp => ?_) (fun hp => ?_) | refine z1r ?_ | refine z1s ?_ | refine z1t ?_
        | refine z1u ?_ | refine z1v ?_ | refine z1w ?_ | refine z1x ?_ | refine z1y ?_ | refine z1z ?_ | refine z20 ?_ | refine z21 ?_ | refine z22 ?_ | refine z23 ?_ | refine z24 ?_
        | refine z25 ?_ | refine z26 ?_ | refine z27 ?_ | refine z28 (fun hp => ?_) (fun hp => ?_) | refine z29 (fun hp => ?_) (fun hp => ?_) | refine z2a ?_ | refine z2b ?_)
      refine wx_loopL ?_
      refine key out.length 0 (by omega) ?_
      clear key
      repeat' (first
        | refine wo_call rfl rfl rfl (c_firstLines (a := a) (b := b) hv hw (by omega) (by omega) hc1 hc2 ha hb ?_)
        | refine z00 ?_ | refine z01 ?_ | refine z02 ?_ | refine z04 ?_ | refine z05 ?_ | refine z08 ?_ | refine zp ?_ | refine z0g ?_ | refine z0h ?_ | refine z0j ?_ | refine z0k ?_
        | refine z0l ?_ | refine z0n ?_ | refine z0o ?_ | refine z0p ?_ | refine z0q ?_ | refine z0r ?_ | refine z0s ?_ | refine z0v ?_ | refine z0z ?_ | refine z12 ?_ | refine z14 ?_
        | refine z15 ?_ | refine z1e ?_ | refine z1f (hk := ?_) | refine z1i ?_ | refine z1j ?_ | refine z1k ?_ | refine z1l ?_ | refine z1m ?_ | refine z1n ?_
        | refine z1o (fun hp => ?_) (fun hp => ?_) | refine z1p (fun hp => ?_) (fun hp => ?_) | refine z1q (fun hp => ?_) (fun hp => ?_) | refine z1r ?_ | refine z1s ?_ | refine z1t ?_
        | refine z1u ?_ | refine z1v ?_ | refine z1w ?_ | refine z1x ?_ | refine z1y ?_ | refine z1z ?_ | refine z20 ?_ | refine z21 ?_ | refine z22 ?_ | refine z23 ?_ | refine z24 ?_
        | refine z25 ?_ | refine z26 ?_ | refine z27 ?_ | refine z28 (fun hp => ?_) (fun hp => ?_) | refine z29 (fun hp => ?_) (fun hp => ?_) | refine z2a ?_ | refine z2b ?_)
      generalize hfl : firstL f r a b = p
      obtain ⟨L2, e2⟩ := p
      intro u hu
      have hu' : Sl KLine L2 u := hu
      clear hu
      by_cases he : e2 ≠ 0
      · repeat' (first
          | refine wo_guardET rfl he rfl ?_
          | refine wo_guardDT rfl he rfl ?_
          | refine wo_call rfl rfl rfl (c_head15 ?_)
          | refine z00 ?_ | refine z01 ?_ | refine z02 ?_ | refine z04 ?_ | refine z05 ?_ | refine z08 ?_ | refine zp ?_ | refine z0g ?_ | refine z0h ?_ | refine z0j ?_ | refine z0k ?_
          | refine z0l ?_ | refine z0n ?_ | refine z0o ?_ | refine z0p ?_ | refine z0q ?_ | refine z0r ?_ | refine z0s ?_ | refine z0v ?_ | refine z0z ?_ | refine z12 ?_ | refine z14 ?_
          | refine z15 ?_ | refine z1e ?_ | refine z1f (hk := ?_) | refine z1i ?_ | refine z1j ?_ | refine z1k ?_ | refine z1l ?_ | refine z1m ?_ | refine z1n ?_
          | refine z1o (fun hp => ?_) (fun hp => ?_) | refine z1p (fun hp => ?_) (fun hp => ?_) | refine z1q (fun hp => ?_) (fun hp => ?_) | refine z1r ?_ | refine z1s ?_ | refine z1t ?_
          | refine z1u ?_ | refine z1v ?_ | refine z1w ?_ | refine z1x ?_ | refine z1y ?_ | refine z1z ?_ | refine z20 ?_ | refine z21 ?_ | refine z22 ?_ | refine z23 ?_ | refine z24 ?_
          | refine z25 ?_ | refine z26 ?_ | refine z27 ?_ | refine z28 (fun hp => ?_) (fun hp => ?_) | refine z29 (fun hp => ?_) (fun hp => ?_) | refine z2a ?_ | refine z2b ?_)
        exact fin_cln rfl hQ
      · have he0 : e2 = 0 := Decidable.byContradiction he
        subst he0
        obtain ⟨x, xs, to, out2, rfl, hto, htl, hfc, hol2, hfl2⟩ := first_cells hfl
        have hfl80 : out2.flatten.length ≤ 160 := by rw [hfl2]; simp; omega
        have hxsl : (x :: xs).length ≤ 1000 := by
          have h1 := hfl
          unfold firstL at h1
          split at h1
          · simp at h1
          · split at h1
            · simp only [Prod.mk.injEq] at h1; rw [← h1.1]; simp
            · have := firstG_len (rest := r) (b := b) (k := f.length + 2) (i := 0) (row := f) (r := a)
              simp only [Prod.mk.injEq] at h1; rw [← h1.1]; simp; omega
        have hl0 : ¬ ((x :: xs).length : Int) = 0 := by simp; omega
        have hcp2 : cellsP f r (x :: xs) = (out2, 0) := by unfold cellsP; rw [hfc]
        repeat' (first
          | refine wo_call rfl rfl rfl (c_CellsU hcp2 hv hw hu' (by omega) (by omega) (by omega) ?_)
          | refine z00 ?_ | refine z01 ?_ | refine z02 ?_ | refine z04 ?_ | refine z05 ?_ | refine z08 ?_ | refine zp ?_ | refine z0g ?_ | refine z0h ?_ | refine z0j ?_ | refine z0k ?_
          | refine z0l ?_ | refine z0n ?_ | refine z0o ?_ | refine z0p ?_ | refine z0q ?_ | refine z0r ?_ | refine z0s ?_ | refine z0v ?_ | refine z0z ?_ | refine z12 ?_ | refine z14 ?_
          | refine z15 ?_ | refine z1e ?_ | refine z1f (hk := ?_) | refine z1i ?_ | refine z1j ?_ | refine z1k ?_ | refine z1l ?_ | refine z1m ?_ | refine z1n ?_
          | refine z1o (fun hp => ?_) (fun hp => ?_) | refine z1p (fun hp => ?_) (fun hp => ?_) | refine z1q (fun hp => ?_) (fun hp => ?_) | refine z1r ?_ | refine z1s ?_ | refine z1t ?_
          | refine z1u ?_ | refine z1v ?_ | refine z1w ?_ | refine z1x ?_ | refine z1y ?_ | refine z1z ?_ | refine z20 ?_ | refine z21 ?_ | refine z22 ?_ | refine z23 ?_ | refine z24 ?_
          | refine z25 ?_ | refine z26 ?_ | refine z27 ?_ | refine z28 (fun hp => ?_) (fun hp => ?_) | refine z29 (fun hp => ?_) (fun hp => ?_) | refine z2a ?_ | refine z2b ?_)
        intro vs3 u3 hu3 hs3
        have n3 : lenM u3 = some out2.length := by rw [hu3.len, hs3.length]
        have m3 := hs3.length
        have key : ∀ (k i : Nat), i + k = out2.length → ∀ (m : Mem) (t : MV), App KCell 0 (out2.take i).flatten m t → ∀ {R : Ex → As → Mem → List LRec → Prop}, (∀ m' t', App KCell 0 out2.flatten m' t' → R (.exit 2) [(2, .pimm (given15 v w a b) 0), (10, u), (14, t')] m' []) →
            Wx ip i_law15_FirstCells.nt (.loop (lv [2, 10, 12, 14, 15] 152) law15_FirstCells_b1) [(2, .pimm (given15 v w a b) 0), (10, u), (12, u3), (14, t), (15, .int .i64 i)] m [] R := by
          intro k
          induction k with
          | zero =>
            intro i hk m t ht R hR
            rw [List.take_of_length_le (by omega)] at ht
            refine wx_roundL rfl ?_
            repeat' (first
              | refine wx_exitL [2, 10, 14] ?_
              | refine wo_len rfl n3 rfl ?_
              | refine z00 ?_ | refine z01 ?_ | refine z02 ?_ | refine z04 ?_ | refine z05 ?_ | refine z08 ?_ | refine zp ?_ | refine z0g ?_ | refine z0h ?_ | refine z0j ?_ | refine z0k ?_
              | refine z0l ?_ | refine z0n ?_ | refine z0o ?_ | refine z0p ?_ | refine z0q ?_ | refine z0r ?_ | refine z0s ?_ | refine z0v ?_ | refine z0z ?_ | refine z12 ?_ | refine z14 ?_
              | refine z15 ?_ | refine z1e ?_ | refine z1f (hk := ?_) | refine z1i ?_ | refine z1j ?_ | refine z1k ?_ | refine z1l ?_ | refine z1m ?_ | refine z1n ?_
              | refine z1o (fun hp => ?_) (fun hp => ?_) | refine z1p (fun hp => ?_) (fun hp => ?_) | refine z1q (fun hp => ?_) (fun hp => ?_) | refine z1r ?_ | refine z1s ?_ | refine z1t ?_
              | refine z1u ?_ | refine z1v ?_ | refine z1w ?_ | refine z1x ?_ | refine z1y ?_ | refine z1z ?_ | refine z20 ?_ | refine z21 ?_ | refine z22 ?_ | refine z23 ?_ | refine z24 ?_
              | refine z25 ?_ | refine z26 ?_ | refine z27 ?_ | refine z28 (fun hp => ?_) (fun hp => ?_) | refine z29 (fun hp => ?_) (fun hp => ?_) | refine z2a ?_ | refine z2b ?_)
            exact hR _ _ ht
          | succ k ih =>
            intro i hk m t ht R hR
            have hlt : i < out2.length := by omega
            have g1 := hs3.get i hlt (by omega)
            have q1 : i < vs3.length := by omega
            have htk : (out2.take (i + 1)).flatten = (out2.take i).flatten ++ out2[i] := by
              rw [List.take_succ_eq_append_getElem hlt, List.flatten_append]; simp
            have hsum : (out2.take i).flatten.length + (out2[i]).length ≤ 160 := by
              have h1 : out2.flatten.length = (out2.take (i + 1)).flatten.length + (out2.drop (i + 1)).flatten.length := by
                rw [← List.length_append, ← List.flatten_append, List.take_append_drop]
              have h2 : (out2.take (i + 1)).flatten.length = (out2.take i).flatten.length + (out2[i]).length := by
                rw [htk, List.length_append]
              omega
            obtain ⟨t2, m2, a1, a2, _, _⟩ := app_addS (bytes := 40) (sz := 6) ht (Nat.zero_le _) g1 (by omega) rfl
            refine wx_roundL rfl ?_
            repeat' (first
              | refine wo_len rfl n3 rfl ?_
              | refine wo_iaddrV hu3 rfl rfl ⟨by omega, q1⟩ rfl ?_
              | refine wo_loadV rfl q1 rfl ?_
              | refine wo_app rfl rfl a1 rfl ?_
              | refine z00 ?_ | refine z01 ?_ | refine z02 ?_ | refine z04 ?_ | refine z05 ?_ | refine z08 ?_ | refine zp ?_ | refine z0g ?_ | refine z0h ?_ | refine z0j ?_ | refine z0k ?_
              | refine z0l ?_ | refine z0n ?_ | refine z0o ?_ | refine z0p ?_ | refine z0q ?_ | refine z0r ?_ | refine z0s ?_ | refine z0v ?_ | refine z0z ?_ | refine z12 ?_ | refine z14 ?_
              | refine z15 ?_ | refine z1e ?_ | refine z1f (hk := ?_) | refine z1i ?_ | refine z1j ?_ | refine z1k ?_ | refine z1l ?_ | refine z1m ?_ | refine z1n ?_
              | refine z1o (fun hp => ?_) (fun hp => ?_) | refine z1p (fun hp => ?_) (fun hp => ?_) | refine z1q (fun hp => ?_) (fun hp => ?_) | refine z1r ?_ | refine z1s ?_ | refine z1t ?_
              | refine z1u ?_ | refine z1v ?_ | refine z1w ?_ | refine z1x ?_ | refine z1y ?_ | refine z1z ?_ | refine z20 ?_ | refine z21 ?_ | refine z22 ?_ | refine z23 ?_ | refine z24 ?_
              | refine z25 ?_ | refine z26 ?_ | refine z27 ?_ | refine z28 (fun hp => ?_) (fun hp => ?_) | refine z29 (fun hp => ?_) (fun hp => ?_) | refine z2a ?_ | refine z2b ?_)
            exact wx_loopL (ih (i + 1) (by omega) m2 t2 (by rw [htk]; exact a2) hR)
        have n4 : lenM u = some (x :: xs).length := hu'.len
        have hl3' : out2.length = (x :: xs).length := hol2
        repeat' (first
          | refine wo_len rfl n3 rfl ?_
          | refine wo_len rfl n4 rfl ?_
          | refine z00 ?_ | refine z01 ?_ | refine z02 ?_ | refine z04 ?_ | refine z05 ?_ | refine z08 ?_ | refine zp ?_ | refine z0g ?_ | refine z0h ?_ | refine z0j ?_ | refine z0k ?_
          | refine z0l ?_ | refine z0n ?_ | refine z0o ?_ | refine z0p ?_ | refine z0q ?_ | refine z0r ?_ | refine z0s ?_ | refine z0v ?_ | refine z0z ?_ | refine z12 ?_ | refine z14 ?_
          | refine z15 ?_ | refine z1e ?_ | refine z1f (hk := ?_) | refine z1i ?_ | refine z1j ?_ | refine z1k ?_ | refine z1l ?_ | refine z1m ?_ | refine z1n ?_
          | refine z1o (fun hp => ?_) (fun hp => ?_) | refine z1p (fun hp => ?_) (fun hp => ?_) | refine z1q (fun hp => ?_) (fun hp => ?_) | refine z1r ?_ | refine z1s ?_ | refine z1t ?_
          | refine z1u ?_ | refine z1v ?_ | refine z1w ?_ | refine z1x ?_ | refine z1y ?_ | refine z1z ?_ | refine z20 ?_ | refine z21 ?_ | refine z22 ?_ | refine z23 ?_ | refine z24 ?_
          | refine z25 ?_ | refine z26 ?_ | refine z27 ?_ | refine z28 (fun hp => ?_) (fun hp => ?_) | refine z29 (fun hp => ?_) (fun hp => ?_) | refine z2a ?_ | refine z2b ?_)
        refine wx_loopL ?_
        refine key out2.length 0 (by omega) _ .nils (.inl ⟨rfl, rfl⟩) ?_
        clear key
        intro m4 t4 ht4
        have hx0 : ((x :: xs)[(0 : Int).toNat]'(by simp)).to = (to : Int) := hto
        repeat' (first
          | refine wo_iaddrS rfl hu' rfl ⟨by omega, by simp⟩ rfl rfl ?_
          | refine wo_loadc (K := KLine) (u := .int .i64 (to : Int)) rfl (by simp) (congrArg (fun n => some (MV.int .i64 n)) hx0) rfl ?_
          | refine z00 ?_ | refine z01 ?_ | refine z02 ?_ | refine z04 ?_ | refine z05 ?_ | refine z08 ?_ | refine zp ?_ | refine z0g ?_ | refine z0h ?_ | refine z0j ?_ | refine z0k ?_
          | refine z0l ?_ | refine z0n ?_ | refine z0o ?_ | refine z0p ?_ | refine z0q ?_ | refine z0r ?_ | refine z0s ?_ | refine z0v ?_ | refine z0z ?_ | refine z12 ?_ | refine z14 ?_
          | refine z15 ?_ | refine z1e ?_ | refine z1f (hk := ?_) | refine z1i ?_ | refine z1j ?_ | refine z1k ?_ | refine z1l ?_ | refine z1m ?_ | refine z1n ?_
          | refine z1o (fun hp => ?_) (fun hp => ?_) | refine z1p (fun hp => ?_) (fun hp => ?_) | refine z1q (fun hp => ?_) (fun hp => ?_) | refine z1r ?_ | refine z1s ?_ | refine z1t ?_
          | refine z1u ?_ | refine z1v ?_ | refine z1w ?_ | refine z1x ?_ | refine z1y ?_ | refine z1z ?_ | refine z20 ?_ | refine z21 ?_ | refine z22 ?_ | refine z23 ?_ | refine z24 ?_
          | refine z25 ?_ | refine z26 ?_ | refine z27 ?_ | refine z28 (fun hp => ?_) (fun hp => ?_) | refine z29 (fun hp => ?_) (fun hp => ?_) | refine z2a ?_ | refine z2b ?_)
        refine wo_sliceS rfl hv rfl rfl (show 0 ≤ (0 : Int) ∧ (0 : Int) ≤ (to : Int) ∧ (to : Int) ≤ f.length by omega) rfl rfl fun v1 hv1 => ?_
        have hv1' : Sl KCell (f.take to) v1 := by
          have e : ((f.drop (0 : Int).toNat).take ((to : Int).toNat - (0 : Int).toNat)) = f.take to := by simp
          rw [← e]; exact hv1
        have h0 : App KCell m4.length [] m4 (.lit (flat KCell.E ([] : List Cell)) 0 (some 0)) := .inr (.inl rfl)
        obtain ⟨w1, m5, a1, a2, a3, a4⟩ := app_addS (bytes := 40) (sz := 6) h0 (Nat.le_refl _) hv1' (by simp; omega) rfl
        repeat' (first
          | refine wo_app rfl rfl a1 rfl ?_
          | refine z00 ?_ | refine z01 ?_ | refine z02 ?_ | refine z04 ?_ | refine z05 ?_ | refine z08 ?_ | refine zp ?_ | refine z0g ?_ | refine z0h ?_ | refine z0j ?_ | refine z0k ?_
          | refine z0l ?_ | refine z0n ?_ | refine z0o ?_ | refine z0p ?_ | refine z0q ?_ | refine z0r ?_ | refine z0s ?_ | refine z0v ?_ | refine z0z ?_ | refine z12 ?_ | refine z14 ?_
          | refine z15 ?_ | refine z1e ?_ | refine z1f (hk := ?_) | refine z1i ?_ | refine z1j ?_ | refine z1k ?_ | refine z1l ?_ | refine z1m ?_ | refine z1n ?_
          | refine z1o (fun hp => ?_) (fun hp => ?_) | refine z1p (fun hp => ?_) (fun hp => ?_) | refine z1q (fun hp => ?_) (fun hp => ?_) | refine z1r ?_ | refine z1s ?_ | refine z1t ?_
          | refine z1u ?_ | refine z1v ?_ | refine z1w ?_ | refine z1x ?_ | refine z1y ?_ | refine z1z ?_ | refine z20 ?_ | refine z21 ?_ | refine z22 ?_ | refine z23 ?_ | refine z24 ?_
          | refine z25 ?_ | refine z26 ?_ | refine z27 ?_ | refine z28 (fun hp => ?_) (fun hp => ?_) | refine z29 (fun hp => ?_) (fun hp => ?_) | refine z2a ?_ | refine z2b ?_)
        refine wo_sliceS rfl hw rfl rfl (show 0 ≤ (to : Int) ∧ (to : Int) ≤ (r.length : Int) ∧ (r.length : Int) ≤ r.length by have := (first_ok hfl).1; omega) rfl rfl fun v2 hv2 => ?_
        have hv2' : Sl KCell (r.drop to) v2 := by
          have e : ((r.drop (to : Int).toNat).take ((r.length : Int).toNat - (to : Int).toNat)) = r.drop to := by
            simp only [Int.toNat_natCast]
            exact List.take_of_length_le (by simp)
          rw [← e]; exact hv2
        obtain ⟨w2, m6, c1, c2, c3, c4⟩ := app_addS (bytes := 40) (sz := 6) a2 a4 hv2' (by simp; omega) rfl
        have ht6 := app_keep ht4 (m' := m6) fun i hi => by rw [c3 i hi, a3 i hi]
        obtain ⟨x1, k1, k2⟩ := app_tz ht6
        obtain ⟨x2, k3, k4⟩ := app_tz c2
        have hzz : frzs m6 frzFuel [t4, w2] = some [x1, x2] := Tzs.fin (.cons (k1.le (j := 3) (by omega)) (.cons (k3.le (j := 2) (by omega)) (Tzs.nil.le (by omega)))) (by omega)
        have hsame : decide (out2.flatten = [] ++ f.take to ++ r.drop to) = true := decide_eq_true (by rw [hfl2]; simp)
        repeat' (first
          | refine wo_app rfl rfl c1 rfl ?_
          | refine wo_call rfl rfl rfl (wc_frz rfl fn_ref11_Same rfl hzz (by simp [deepVs, k2.deep, k4.deep]) (c_Same11 hsame k2 k4 (by omega) ?_))
          | refine wo_call rfl rfl rfl (c_head15 ?_)
          | refine z00 ?_ | refine z01 ?_ | refine z02 ?_ | refine z04 ?_ | refine z05 ?_ | refine z08 ?_ | refine zp ?_ | refine z0g ?_ | refine z0h ?_ | refine z0j ?_ | refine z0k ?_
          | refine z0l ?_ | refine z0n ?_ | refine z0o ?_ | refine z0p ?_ | refine z0q ?_ | refine z0r ?_ | refine z0s ?_ | refine z0v ?_ | refine z0z ?_ | refine z12 ?_ | refine z14 ?_
          | refine z15 ?_ | refine z1e ?_ | refine z1f (hk := ?_) | refine z1i ?_ | refine z1j ?_ | refine z1k ?_ | refine z1l ?_ | refine z1m ?_ | refine z1n ?_
          | refine z1o (fun hp => ?_) (fun hp => ?_) | refine z1p (fun hp => ?_) (fun hp => ?_) | refine z1q (fun hp => ?_) (fun hp => ?_) | refine z1r ?_ | refine z1s ?_ | refine z1t ?_
          | refine z1u ?_ | refine z1v ?_ | refine z1w ?_ | refine z1x ?_ | refine z1y ?_ | refine z1z ?_ | refine z20 ?_ | refine z21 ?_ | refine z22 ?_ | refine z23 ?_ | refine z24 ?_
          | refine z25 ?_ | refine z26 ?_ | refine z27 ?_ | refine z28 (fun hp => ?_) (fun hp => ?_) | refine z29 (fun hp => ?_) (fun hp => ?_) | refine z2a ?_ | refine z2b ?_)
        exact fin_cln rfl hQ

end
end Go.Proofs.Ytnekgoanadbmmaa
