/-
Functions: results, calls, rounds; the machine of Mini is sound.
-/
import Derived.Test.YtnekgoanadbmmaaMiO
namespace Go.Mini
open Go.RowKit
set_option linter.unusedSimpArgs false

/-! ### Results -/
section res
variable {P : Program} {pm : Nat → Bool}

theorem loadV_ok {E : Env} {m : Mem} {ls : List LRec} {base : Nat} {w : World} (hs : Sim P pm E m ls base w.heap) {t : TypeId} {n : Option Nat} (hn : howP P t = some n) {p : MV} {r : Value} (hp : V E p r) {v : MV} (hv : loadV m n p = some v) :
    ∃ ad x, r = .pointer (some ad) ∧ (loadVar t ad).run P w = .ok x w ∧ V E v x := by
  cases hp <;> simp only [loadV, reduceCtorEq] at hv
  case ptr b g off ad hb hg h =>
    cases hk : blk? m b g with
    | none => simp [hk] at hv
    | some k =>
      simp only [hk] at hv
      obtain ⟨hm, hgen⟩ := blk?_some hk
      have hB := hs.blk b k hm
      obtain ⟨C, el, L, post, c1, c2, c3, c4, c5⟩ := hB.mem
      have e := h (by rw [hB.gen, hgen])
      obtain ⟨r, hr, hV⟩ := read_ok (P := P) hn (o := 0) (off := off) c1 (pre := []) (by simpa using c3) rfl c4 c5 hv
      simp only [Nat.zero_add] at hr
      exact ⟨ad, r, rfl, by rw [e]; exact hr, hV⟩
  case pimm cs off nn o' L hseg hd hL hsc =>
    obtain ⟨C, pre, post, d1, d2, d3⟩ := hseg
    obtain ⟨⟨el, fr, c1⟩, _⟩ := hs.imm _ _ d1
    obtain ⟨r, hr, hV⟩ := read_ok (P := P) hn (off := off) c1 d2 d3 hL hsc hv
    exact ⟨_, r, rfl, hr, hV⟩

def resF (tmps : Array Value) : ResultVar → Sem Value
  | .tmp t => pure (tmps.getD t undef)
  | .cell a t => do loadVar t (← asAddr (tmps.getD a undef))

theorem resAll_ok {E : Env} {s : St} {base : Nat} {w : World} {tmps : Array Value} (hs : Sim P pm E s.m s.ls base w.heap) (hT : Vs E s.T tmps.toList) : ∀ {l : List ResultVar} {rs : List IRes} {vs : List MV}, trRes P l = some rs → resAll s rs = some vs →
    ∃ xs, (l.mapM (resF tmps)).run P w = .ok xs w ∧ Vs E vs xs
  | [], rs, vs, h, hv => by
    simp [trRes] at h
    subst h
    simp [resAll] at hv
    subst hv
    exact ⟨[], by simp [Sem.run_pure], .nil⟩
  | .tmp t :: l, rs, vs, h, hv => by
    simp only [trRes, Option.map_eq_some_iff] at h
    obtain ⟨rs', h1, rfl⟩ := h
    simp only [resAll, resOne] at hv
    cases h2 : resAll s rs' with
    | none => simp [h2] at hv
    | some vs' =>
      simp only [h2, Option.some.injEq] at hv
      subst hv
      obtain ⟨xs, h3, h4⟩ := resAll_ok hs hT h1 h2
      have hV := hT.getD t
      refine ⟨tmps.getD t undef :: xs, ?_, .cons ?_ h4⟩
      · simp [List.mapM_cons, resF, Sem.run_bind, Sem.run_pure, Result.andThen, h3]
      · simpa [Array.getD_eq_getD_getElem?, List.getD] using hV
  | .cell t ty :: l, rs, vs, h, hv => by
    simp only [trRes] at h
    split at h
    case h_2 => simp at h
    rename_i n hn
    simp only [Option.map_eq_some_iff] at h
    obtain ⟨rs', h1, rfl⟩ := h
    simp only [resAll, resOne] at hv
    cases h0 : loadV s.m n (s.T.getD t (.tup [])) with
    | none => simp only [h0, reduceCtorEq] at hv
    | some v0 =>
      cases h2 : resAll s rs' with
      | none => simp only [h0, h2, reduceCtorEq] at hv
      | some vs' =>
        simp only [h0, h2, Option.some.injEq] at hv
        subst hv
        obtain ⟨xs, h3, h4⟩ := resAll_ok hs hT h1 h2
        have hV := hT.getD t
        obtain ⟨ad, x, e, hr, hx⟩ := loadV_ok hs hn hV h0
        have e' : tmps.getD t undef = .pointer (some ad) := by
          rw [← e]; simp [Array.getD_eq_getD_getElem?, List.getD]
        refine ⟨x :: xs, ?_, .cons hx h4⟩
        simp [List.mapM_cons, resF, e', asAddr, Sem.run_bind, Sem.run_pure, Result.andThen, hr, h3]

theorem results_ok {E : Env} {s : St} {base : Nat} {w : World} {tmps : Array Value} (hs : Sim P pm E s.m s.ls base w.heap) (hT : Vs E s.T tmps.toList) {fn : Func} {rs : List IRes} (hr : trRes P fn.results.toList = some rs) {v : MV} (hv : resM s rs = some v) :
    ∃ x, (results fn tmps).run P w = .ok x w ∧ V E v x := by
  unfold resM at hv
  cases h : resAll s rs with
  | none => simp [h] at hv
  | some vs =>
    obtain ⟨xs, h1, h2⟩ := resAll_ok hs hT hr h
    have hmap : (fn.results.mapM (resF tmps)).run P w = .ok xs.toArray w := by
      rw [Array.mapM_eq_mapM_toList]
      rw [map_eq_pure_bind, Sem.run_bind, h1]
      simp [Result.andThen, Sem.run_pure]
    have hrun : ∀ y, (if h : xs.toArray.size = 1 then xs.toArray[0] else Value.tuple xs.toArray) = y → (results fn tmps).run P w = .ok y w := by
      intro y hy
      have e : results fn tmps = (do let vs ← fn.results.mapM (resF tmps); pure (if h : vs.size = 1 then vs[0] else .tuple vs)) := by
        unfold results
        first | rfl | (congr 1; congr 1; funext x; cases x <;> rfl) | (congr 1; funext x; cases x <;> rfl)
      rw [e, Sem.run_bind, hmap]
      simp only [Result.andThen, Sem.run_pure]
      rw [hy]
    rw [h] at hv
    have key : (∃ v0, vs = [v0] ∧ v = v0) ∨ (vs.length ≠ 1 ∧ v = .tup vs) := by
      match vs, hv with
      | [], hv => simp at hv; exact .inr ⟨by simp, hv.symm⟩
      | [v0], hv => simp at hv; exact .inl ⟨v0, rfl, hv.symm⟩
      | _ :: _ :: _, hv => simp at hv; exact .inr ⟨by simp, hv.symm⟩
    rcases key with ⟨v0, rfl, rfl⟩ | ⟨hl, rfl⟩
    · cases h2 with
      | cons h3 h4 =>
        cases h4
        exact ⟨_, hrun _ (by simp), h3⟩
    · have hl' := h2.length
      refine ⟨.tuple xs.toArray, hrun _ ?_, .tup h2⟩
      rw [dif_neg]
      simp; omega
end res

/-! ### A function's body -/
section body
variable {P : Program} {pm : Nat → Bool} {cb : Cb} (hcb : CbOk P pm cb) (hp : PureCb pm cb) (hm : P.follows .mixedOrders = true)

theorem leaves_ok {E : Env} {base : Nat} {w0 : World} (hb : base ≤ w0.heap.size) {fn : Func} {res : List IRes} (hres : trRes P fn.results.toList = some res) {s : St} {tmps : Array Value} {v : MV} (hv : resM s res = some v) {k : Nat} :
    ∀ (rs : List Nat) (E' : Env) (w : World), EnvLe E E' → Sim P pm E' s.m s.ls base w.heap → Vs E' s.T tmps.toList → Stp base w0 w → rs.Nodup → (∀ r ∈ rs, w0.heap.size ≤ r ∧ w.heap[r]? = some (Obj.deferred (some []))) →
      LeavesInM Fence.wide k P fn tmps (fun e w' => ∃ r, e = .returned r ∧ Aft P pm E base w0 v s.m s.ls r w') (rs.map mark) .returning w
  | [], E', w, hE, hS, hT, hst, _, _ => by
    obtain ⟨x, h1, h2⟩ := results_ok hS hT hres hv
    exact ⟨x, h1, x, rfl, E', hE, hS, h2, hst⟩
  | r :: rs, E', w, hE, hS, hT, hst, hn, hr => by
    have h0 := hr r (by simp)
    refine ⟨by simp, .inl ⟨r, w.putObj r (.deferred none), rfl, run_takeDeferred h0.2, ?_⟩⟩
    refine leaves_ok hb hres hv rs E' _ hE (hS.putDef h0.2 _) hT (hst.putNew h0.1 hb) (List.nodup_cons.1 hn).2 fun q hq => ?_
    have hne : q ≠ r := fun e => (List.nodup_cons.1 hn).1 (e ▸ hq)
    exact ⟨(hr q (by simp [hq])).1, by rw [World.putObj_heap_other hne]; exact (hr q (by simp [hq])).2⟩

include hcb hp hm in
theorem body_W {n : Nat} {F : IFn} {f : Nat} {fn : Func} {c : Code} (hf : P.funcs[f]? = some fn) (hb : fn.body = some c) (hnt : fn.ntmps = F.nt) (hres : trRes P fn.results.toList = some F.res) (htr : Tr P pm c F.body)
    {E : Env} {base : Nat} {w : World} {args : List MV} {args' : List Value} {m : Mem} {ls : List LRec} (hS : Sim P pm E m ls base w.heap) (hA : Vs E args args') {v : MV} {s : St} (hr : bodyRun cb n F args m ls = some (v, s)) :
    Calls P f args'.toArray w fun e w' => ∃ r, e = .returned r ∧ Aft P pm E base w v s.m s.ls r w' := by
  refine (callsIn_wide (n := 0)).1 (callsIn_of_wp_marks hf hb trivial ?_)
  have hlen := hA.length
  have hT : Vs E (args ++ List.replicate (F.nt - args.length) (.tup [])) (args'.toArray ++ Array.replicate (fn.ntmps - args'.toArray.size) undef).toList := by
    simp only [Array.toList_append, Array.toList_replicate, List.size_toArray, hnt]
    rw [← hlen]
    exact hA.append (Vs.replicate (.tup .nil) _)
  have hstart : COk P pm E base w ⟨args ++ List.replicate (F.nt - args.length) (.tup []), m, ls⟩ { tmps := args'.toArray ++ Array.replicate (fn.ntmps - args'.toArray.size) undef, defers := [] } w :=
    ⟨[], ⟨E, .refl E, hS, hT, .refl _ _, rfl⟩, by simp, by simp⟩
  have hend : ∀ {s' : St} {a' : Act} {w' : World}, COk P pm E base w s' a' w' → resM s' F.res = some v → s' = s →
      LeavesInM Fence.wide 0 P fn a'.tmps (fun e w' => ∃ r, e = .returned r ∧ Aft P pm E base w v s.m s.ls r w') a'.defers .returning w' := by
    rintro s' a' w' ⟨rs, ⟨E', h1, h2, h3, h4, h5⟩, h6, h7⟩ hv rfl
    rw [h5]
    exact leaves_ok hS.bas hres hv rs E' w' h1 h2 h3 h4 h6 h7
  unfold bodyRun at hr
  refine code_W hcb hp hm n htr (ro := none) (ex := ?_) (s' := ?_) ?_ hstart (fun l h => by cases h) ?_
  all_goals skip
  case refine_1 => exact match evC cb n F.body ⟨args ++ List.replicate (F.nt - args.length) (.tup []), m, ls⟩ with | some (e, _) => e | none => .normal
  case refine_2 => exact match evC cb n F.body ⟨args ++ List.replicate (F.nt - args.length) (.tup []), m, ls⟩ with | some (_, s) => s | none => ⟨[], [], []⟩
  · cases h : evC cb n F.body ⟨args ++ List.replicate (F.nt - args.length) (.tup []), m, ls⟩ with
    | none => simp [h] at hr
    | some p => rfl
  · intro a' w' hc'
    cases h : evC cb n F.body ⟨args ++ List.replicate (F.nt - args.length) (.tup []), m, ls⟩ with
    | none => simp [h] at hr
    | some p =>
      obtain ⟨e, s1⟩ := p
      rw [h] at hr hc'
      simp only at hr hc' ⊢
      cases e with
      | normal =>
        simp only at hr
        cases hv : resM s1 F.res with
        | none => simp [hv] at hr
        | some v1 =>
          simp only [hv, Option.some.injEq, Prod.mk.injEq] at hr
          obtain ⟨rfl, rfl⟩ := hr
          exact hend hc' hv rfl
      | ret =>
        simp only at hr
        cases hv : resM s1 F.res with
        | none => simp [hv] at hr
        | some v1 =>
          simp only [hv, Option.some.injEq, Prod.mk.injEq] at hr
          obtain ⟨rfl, rfl⟩ := hr
          exact hend hc' hv rfl
      | exit id => simp at hr
end body
end Go.Mini
