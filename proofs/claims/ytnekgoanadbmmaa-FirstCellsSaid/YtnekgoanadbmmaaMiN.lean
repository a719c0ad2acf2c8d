/-
Operations with calls; regions, in whatever order the model draws.
-/
import Derived.Test.YtnekgoanadbmmaaMiK
import Derived.Test.YtnekgoanadbmmaaMiM
namespace Go.Mini
open Go.RowKit
set_option linter.unusedSimpArgs false

/-- Everything may be entered; of an activation, or of a loop's round. -/
def Fr (ro : Option Nat) : Fence := { Fence.wide with round := ro }

def Aft (P : Program) (pm : Nat → Bool) (E : Env) (base : Nat) (w : World) (v : MV) (m' : Mem) (ls' : List LRec) (r : Value) (w' : World) : Prop :=
  ∃ E', EnvLe E E' ∧ Sim P pm E' m' ls' base w'.heap ∧ V E' v r ∧ Stp base w w'

def Enters (P : Program) (f : Nat) (args : Array Value) (w : World) (R : Value → World → Prop) : Prop :=
  (callFunc f args).run P w = .ok (.enter f args) w ∧ Calls P f args w fun e w' => ∃ r, e = .returned r ∧ R r w'

def Ent (P : Program) (f : Nat) (args : Array Value) (w : World) (R : Value → World → Prop) : Prop :=
  Enters P f args w R ∨ ∃ r, (callFunc f args).run P w = .ok (.value r) w ∧ R r w

structure CbOk (P : Program) (pm : Nat → Bool) (cb : Cb) : Prop where
  call : ∀ {f : Nat} {args : List MV} {m : Mem} {ls : List LRec} {v : MV} {m' : Mem} {ls' : List LRec}, cb.call f args m ls = some (v, m', ls') → ∀ {E : Env} {base : Nat} {w : World} {args' : List Value}, Sim P pm E m ls base w.heap → Vs E args args' →
    Ent P f args'.toArray w (Aft P pm E base w v m' ls') ∧ (deepVs args = false → Enters P f args'.toArray w (Aft P pm E base w v m' ls'))
  yld : ∀ {j : Nat} {args : List MV} {m : Mem} {ls : List LRec} {v : MV} {m' : Mem} {ls' : List LRec}, cb.yld j args m ls = some (v, m', ls') → ∀ {E : Env} {base : Nat} {w : World} {args' : List Value} {l : Nat}, Sim P pm E m ls base w.heap → Vs E args args' → E.lam j = some l →
    ∀ n, ∃ fn tmps asg body, (Instr.yield l args'.toArray).run P w = .ok (.round l fn tmps asg body) w ∧ RoundIn Fence.wide n P l fn tmps asg body w fun e w' => ∃ r, e = .returned r ∧ Aft P pm E base w v m' ls' r w'
  thw : ∀ {f : Nat} {args : List MV} {m : Mem} {ls : List LRec} {v : MV} {m' : Mem} {ls' : List LRec}, cb.thw f args m ls = some (v, m', ls') → ∀ {E : Env} {base : Nat} {w : World} {args' : List Value}, Sim P pm E m ls base w.heap → Vs E args args' →
    Ent P f args'.toArray w (Aft P pm E base w v m' ls')

section ops
variable {P : Program} {pm : Nat → Bool} {cb : Cb} (hcb : CbOk P pm cb)

theorem callsIn_fr {ro : Option Nat} {n : Nat} {f : Nat} {args : Array Value} {w : World} {R : Ending → World → Prop} (h : Calls P f args w R) : CallsIn (Fr ro) n P f args w R :=
  (callsIn_wide (n := n)).2 h

theorem fnone {ro : Option Nat} {n : Nat} : (Fr ro).depth.isSome = true → 1 ≤ n := fun h => by simp [Fr, Fence.wide] at h

include hcb in
/-- One operation. -/
theorem op_W {E : Env} {base : Nat} {w : World} {s : St} {a : Act} {o : Oper} (hs : Sim P pm E s.m s.ls base w.heap) (hT : Vs E s.T a.tmps.toList) {op : IOp} (htr : trOp P o.op = some (stripOp op)) {v : MV} {m' : Mem} {ls' : List LRec}
    (hv : evOp cb s op = some (v, m', ls')) {ro : Option Nat} {n : Nat} {next : Act → World → Prop} {Q : Exit → Act → World → Prop} (hn : ∀ r w', Aft P pm E base w v m' ls' r w' → next (a.put o.dst r) w') : o.wpIn (Fr ro) n P a w next Q := by
  refine ⟨fun _ _ => trivial, ?_⟩
  have hnd : ∀ c, o.op ≠ .defer c := fun c e => by rw [e] at htr; simp [trOp] at htr
  rw [Oper.semAt_eq _ _ _ hnd]
  by_cases hcall : ∃ f args, stripOp op = .call f args
  · obtain ⟨f', args', hstrip⟩ := hcall
    rw [hstrip] at htr
    -- the model's operation is a call of a value
    have hc : ∃ c f, o.op = .call c ∧ c.callee = .value f ∧ trOpd f = some f' ∧ trOpds c.args.toList = some args' := by
      generalize ho : o.op = rop at htr
      by_cases hcc : ∃ c, rop = .call c
      · obtain ⟨c, rfl⟩ := hcc
        simp only [trOp] at htr
        split at htr
        case h_2 => simp at htr
        rename_i as has
        split at htr
        · rename_i f hf
          obtain ⟨f1, h1, h2⟩ := map_some_eq htr
          simp only [IOp.call.injEq] at h2
          obtain ⟨rfl, rfl⟩ := h2
          exact ⟨c, f, rfl, hf, h1, has⟩
        · exfalso
          unfold trBuiltin at htr
          repeat' split at htr
          all_goals simp at htr
        · simp at htr
      · exfalso
        cases rop
        case call c => exact hcc ⟨c, rfl⟩
        all_goals try (simp only [trOp, reduceCtorEq] at htr; done)
        all_goals
          simp only [trOp] at htr
          repeat' split at htr
          all_goals first
            | contradiction
            | (simp at htr; done)
            | (simp only [Option.map_eq_some_iff, reduceCtorEq, and_false, exists_false] at htr; done)
            | (unfold trBin at htr; repeat' split at htr
               all_goals (simp at htr; done))
            | (unfold trSlice at htr; repeat' split at htr
               all_goals first | (simp at htr; done) | (simp only [Option.map_eq_some_iff, reduceCtorEq, and_false, exists_false] at htr; done))
    obtain ⟨c, f, ho, hcal, hf, has⟩ := hc
    have hF := getO_V hT hf
    have hA := getOs_V hT has
    have hmap : c.args.map a.eval = (c.args.toList.map a.eval).toArray := by apply Array.ext'; simp
    rcases strip_call hstrip with rfl | ⟨g, rfl, rfl⟩
    case inr =>
      simp only [evOp] at hv
      simp only [getO] at hF
      obtain ⟨x', y', e1, hx, hy⟩ := hF.inv_fn
      cases hx
      cases hy
      have hrun : (execOp a.eval o).run P w = (callFunc g ((c.args.toList.map a.eval).toArray)).run P w := by
        simp only [execOp, ho, resolve, hcal, e1, Deferred.ofValue, Sem.run_bind, Sem.run_pure, Result.andThen_ok, invoke, hmap]
        simp
      rw [hrun]
      rcases hcb.thw hv hs hA with ⟨h1, h2⟩ | ⟨r, h1, h2⟩
      · rw [h1]
        refine ⟨fnone, callsIn_fr (h2.mono ?_)⟩
        rintro e w' ⟨r, rfl, h3⟩
        exact hn r w' h3
      · rw [h1]
        exact hn r w h2
    simp only [evOp] at hv
    split at hv
    · rename_i g x y hp
      rw [hp] at hF
      obtain ⟨x', y', e1, hx, hy⟩ := hF.inv_fn
      have hrun : (execOp a.eval o).run P w = (callFunc g ((x' ++ c.args.toList.map a.eval ++ y').toArray)).run P w := by
        simp only [execOp, ho, resolve, hcal, e1, Deferred.ofValue, Sem.run_bind, Sem.run_pure, Result.andThen_ok, invoke, hmap]
        simp
      rw [hrun]
      rcases (hcb.call hv hs ((hx.append hA).append hy)).1 with ⟨h1, h2⟩ | ⟨r, h1, h2⟩
      · rw [h1]
        refine ⟨fnone, callsIn_fr (h2.mono ?_)⟩
        rintro e w' ⟨r, rfl, h3⟩
        exact hn r w' h3
      · rw [h1]
        exact hn r w h2
    · rename_i j hp
      rw [hp] at hF
      obtain ⟨l, e1, hl⟩ := hF.inv_yld
      obtain ⟨fn, tmps, asg, body, h1, h2⟩ := hcb.yld hv hs hA hl (n - 1)
      have hrun : (execOp a.eval o).run P w = (Instr.yield l (c.args.toList.map a.eval).toArray).run P w := by
        simp only [execOp, ho, resolve, hcal, e1, Deferred.ofValue, Sem.run_bind, Sem.run_pure, Result.andThen_ok, invoke, hmap]
        simp
      rw [hrun, h1]
      refine ⟨fnone, RoundIn.mono (F := Fr ro) h2 ?_⟩
      rintro e w' ⟨r, rfl, h3⟩
      exact hn r w' h3
    · simp at hv
  · have hne : ∀ f args, op ≠ .call f args := fun f args e => hcall ⟨f, args, by rw [e]; rfl⟩
    have hnt : ∀ f args, op ≠ .callt f args := fun f args e => hcall ⟨.c (.fn f [] []), args, by rw [e]; rfl⟩
    rw [evOp_of0 hne hnt] at hv
    cases h0 : evOp0 s.T s.m op with
    | none => simp [h0] at hv
    | some q =>
      obtain ⟨v1, m1⟩ := q
      simp only [h0, Option.some.injEq, Prod.mk.injEq] at hv
      obtain ⟨rfl, rfl, rfl⟩ := hv
      obtain ⟨r, w', E', hr, hE, hS, hV, hst⟩ := op0_ok hs hT htr h0
      rcases hr with hr | ⟨hr, rfl⟩
      · rw [hr]; exact hn r w' ⟨E', hE, hS, hV, hst⟩
      · rw [hr]; exact hn undef w' ⟨E', hE, hS, hV, hst⟩

theorem wants_ok {E : Env} {T : List MV} {a : Act} (hT : Vs E T a.tmps.toList) {ops : Array Oper} {o : Oper} {g : Option (Nat × Bool)} (hg : trGuard ops.toList o.guard = some g) {b : Bool} (hw : wants T g = some b) : Region.wanted o (yielded ops a.tmps) = b := by
  unfold trGuard at hg
  split at hg
  · rename_i e
    simp only [Option.some.injEq] at hg
    subst hg
    simp only [wants, Option.some.injEq] at hw
    subst hw
    simp [Region.wanted, e]
  · rename_i j want e
    simp only [dstAt, Option.map_eq_some_iff] at hg
    obtain ⟨t, hd, rfl⟩ := hg
    have hd' : (ops[j]?).bind (·.dst) = some t := by rw [← hd]; simp
    simp only [wants] at hw
    have hV := hT.getD t
    generalize hx : T.getD t (.tup []) = x at *
    simp only [Region.wanted, e, yielded, hd', Option.bind_some]
    cases x <;> simp only [Option.some.injEq, reduceCtorEq] at hw
    case bool c =>
      have hr := hV.inv_bool
      have hlt : a.tmps[t]? = some (.bool c) := by
        have hlen := hT.length
        by_cases hh : t < a.tmps.size
        · simpa [List.getD, hh] using hr
        · exfalso
          have : T.getD t (.tup []) = .tup [] := by
            simp [List.getD, List.getElem?_eq_none (show T.length ≤ t by simp at hlen; omega)]
          rw [hx] at this
          simp at this
      rw [hlt, ← hw]
      cases c <;> cases want <;> rfl
    case tup vs =>
      obtain ⟨cs, hr, _⟩ := hV.inv_tup
      subst hw
      by_cases hh : t < a.tmps.size
      · have hlt : a.tmps[t]? = some (.tuple cs.toArray) := by simpa [List.getD, hh] using hr
        rw [hlt]; rfl
      · have hlt : a.tmps[t]? = none := by simp; omega
        rw [hlt]; rfl

theorem put_V {E : Env} {T : List MV} {a : Act} (hT : Vs E T a.tmps.toList) {d : Option Nat} {v : MV} {r : Value} (hv : V E v r) : Vs E (put T d v) (a.put d r).tmps.toList := by
  cases d with
  | none => exact hT
  | some d => simpa [put, Act.put, Array.toList_setIfInBounds] using hT.set hv d

theorem put_defers {a : Act} {d : Option Nat} {r : Value} : (a.put d r).defers = a.defers := by cases d <;> rfl

/-- What is known of a frame. -/
def FOk (P : Program) (pm : Nat → Bool) (E0 : Env) (base : Nat) (w0 : World) (ds : List Deferred) (s : St) (a : Act) (w : World) : Prop :=
  ∃ E, EnvLe E0 E ∧ Sim P pm E s.m s.ls base w.heap ∧ Vs E s.T a.tmps.toList ∧ Stp base w0 w ∧ a.defers = ds

theorem trOpers_get {all : List Oper} : ∀ {os : List Oper} {xs : List IOper}, trOpers P all os = some xs → os.length = xs.length ∧ ∀ (i : Nat) o, os[i]? = some o → ∃ x, xs[i]? = some x ∧ trOper P all o = some x
  | [], xs, h => by simp [trOpers] at h; subst h; exact ⟨rfl, fun i o h => by simp at h⟩
  | o :: os, xs, h => by
    simp only [trOpers] at h
    cases h1 : trOper P all o with
    | none => simp [h1] at h
    | some x =>
      cases h2 : trOpers P all os with
      | none => simp [h1, h2] at h
      | some ys =>
        simp only [h1, h2, Option.some.injEq] at h
        subst h
        obtain ⟨e1, e2⟩ := trOpers_get h2
        refine ⟨by simp [e1], fun i o' hi => ?_⟩
        cases i with
        | zero => simp at hi; subst hi; exact ⟨x, by simp, h1⟩
        | succ i => simp at hi; obtain ⟨y, h3, h4⟩ := e2 i o' hi; exact ⟨y, by simpa using h3, h4⟩

theorem stripL_get : ∀ {l : List IOper} {i : Nat} {y : IOper}, (stripL l)[i]? = some y → ∃ x, l[i]? = some x ∧ y = ⟨x.dst, x.guard, stripOp x.op⟩
  | [], _, _, h => by simp [stripL] at h
  | x :: l, i, y, h => by
    cases i with
    | zero => simp [stripL] at h; exact ⟨x, by simp, h.symm⟩
    | succ i => simp [stripL] at h; obtain ⟨z, h1, h2⟩ := stripL_get h; exact ⟨z, by simpa using h1, h2⟩

theorem stripL_len : ∀ (l : List IOper), (stripL l).length = l.length
  | [] => rfl
  | _ :: l => by simp [stripL, stripL_len l]

/-- The model's operation i, and Mini's. -/
theorem oper_get {ops : Array Oper} {l : List IOper} (h : trOpers P ops.toList ops.toList = some (stripL l)) {i : Nat} {x : IOper} (hi : l[i]? = some x) : ∃ o, ops[i]? = some o ∧ o.dst = x.dst ∧ trGuard ops.toList o.guard = some x.guard ∧ trOp P o.op = some (stripOp x.op) := by
  obtain ⟨e1, e2⟩ := trOpers_get h
  have hlt : i < ops.size := by
    have := (List.getElem?_eq_some_iff.1 hi).1
    rw [stripL_len] at e1
    simp at e1; omega
  obtain ⟨y, h1, h2⟩ := e2 i ops[i] (by simp [hlt])
  obtain ⟨x', h3, rfl⟩ := stripL_get h1
  rw [hi] at h3
  simp only [Option.some.injEq] at h3
  subst h3
  unfold trOper at h2
  split at h2
  · rename_i g op hg hop
    simp only [Option.some.injEq, IOper.mk.injEq] at h2
    obtain ⟨q1, rfl, rfl⟩ := h2
    exact ⟨ops[i], by simp [hlt], q1, hg, hop⟩
  · simp at h2

include hcb in
theorem oper_W {E0 : Env} {base : Nat} {w0 w : World} {ds : List Deferred} {s s' : St} {a : Act} {ops : Array Oper} {l : List IOper} (htr : trOpers P ops.toList ops.toList = some (stripL l)) {i : Nat} {x : IOper} (hi : l[i]? = some x) (hf : FOk P pm E0 base w0 ds s a w)
    (hev : evOper cb x s = some s') {ro : Option Nat} {n : Nat} {K : Act → World → Prop} {Q : Exit → Act → World → Prop} (hK : ∀ a' w', FOk P pm E0 base w0 ds s' a' w' → K a' w') : wpOpIn (Fr ro) n P ops Q i K a w := by
  obtain ⟨E, hE, hS, hT, hst, hd⟩ := hf
  obtain ⟨o, ho, hdst, hg, hop⟩ := oper_get htr hi
  rw [evOper_eq] at hev
  obtain ⟨⟨v, m', ls'⟩, hres, hs'⟩ := map_some_eq hev
  subst hs'
  unfold evRes at hres
  unfold wpOpIn
  simp only [ho]
  cases hw : wants s.T x.guard with
  | none => simp [hw] at hres
  | some b =>
    have hwt := wants_ok hT hg hw
    cases b with
    | false =>
      simp only [hw, Option.some.injEq, Prod.mk.injEq] at hres
      obtain ⟨rfl, rfl, rfl⟩ := hres
      rw [hwt]
      simp only [Bool.false_eq_true, if_false]
      refine ⟨fun _ _ => trivial, hK _ _ ⟨E, hE, hS, ?_, hst, by rw [put_defers]; exact hd⟩⟩
      rw [hdst]
      exact put_V hT (.tup .nil)
    | true =>
      simp only [hw] at hres
      rw [hwt]
      simp only [if_true]
      refine op_W hcb hS hT hop hres fun r w' ⟨E', h1, h2, h3, h4⟩ => hK _ _ ⟨E', hE.trans h1, h2, ?_, hst.trans h4, by rw [put_defers]; exact hd⟩
      rw [hdst]
      exact put_V (hT.mono h1) h3

include hcb in
theorem opsIdx_W {E0 : Env} {base : Nat} {w0 : World} {ds : List Deferred} {ops : Array Oper} {l : List IOper} (htr : trOpers P ops.toList ops.toList = some (stripL l)) {ro : Option Nat} {n : Nat} {Q : Exit → Act → World → Prop} {sf : St} (hQ : ∀ a w, FOk P pm E0 base w0 ds sf a w → Q .normal a w) :
    ∀ (is : List Nat) (s : St) (a : Act) (w : World), FOk P pm E0 base w0 ds s a w → evIdx cb l is s = some sf → wpOpsIn (Fr ro) n P ops Q is a w
  | [], s, a, w, hf, h => by simp [evIdx] at h; subst h; exact hQ a w hf
  | i :: is, s, a, w, hf, h => by
    simp only [evIdx] at h
    cases hi : l[i]? with
    | none => simp [hi] at h
    | some x =>
      simp only [hi] at h
      cases hx : evOper cb x s with
      | none => simp [hx] at h
      | some s1 =>
        simp only [hx] at h
        rw [wpOpsIn_cons]
        exact oper_W hcb htr hi hf hx fun a' w' hf' => opsIdx_W htr hQ is s1 a' w' hf' h

include hcb in
theorem any_W (hp : PureCb pm cb) {E0 : Env} {base : Nat} {w0 : World} {ds : List Deferred} {ops : Array Oper} {l : List IOper} (htr : trOpers P ops.toList ops.toList = some (stripL l)) (hw : wellOrd pm ops.toList l = true) {ro : Option Nat} {n : Nat} {Q : Exit → Act → World → Prop} {sf : St}
    (hQ : ∀ a w, FOk P pm E0 base w0 ds sf a w → Q .normal a w) :
    ∀ (fuel : Nat) (listed : Array Bool) (s : St) (a : Act) (w : World), listed.size = ops.size → Closed (befs ops.toList []) listed → (rest ops.size listed).length ≤ fuel → FOk P pm E0 base w0 ds s a w → evIdx cb l (rest ops.size listed) s = some sf →
      wpAnyIn (Fr ro) n P .any ops Q fuel listed a w
  | 0, listed, s, a, w, hsz, hcl, hle, hf, h => by
    have hr : rest ops.size listed = [] := List.length_eq_zero_iff.1 (by omega)
    rw [hr] at h
    simp only [evIdx, Option.some.injEq] at h
    subst h
    refine ⟨?_, hQ a w hf⟩
    cases he : Region.ready .any ops listed with
    | nil => rfl
    | cons i is =>
      exfalso
      have hm : i ∈ Region.ready .any ops listed := by rw [he]; simp
      obtain ⟨h1, o, ho, _⟩ := mem_ready.1 hm
      have hlt : i < ops.size := (Array.getElem?_eq_some_iff.1 ho).1
      have : i ∈ rest ops.size listed := by
        simp only [rest, List.mem_filter, List.mem_range, Bool.not_eq_true']
        refine ⟨hlt, ?_⟩
        have hl : i < listed.size := by omega
        simp [hl] at h1 ⊢
        exact h1
      rw [hr] at this
      simp at this
  | fuel + 1, listed, s, a, w, hsz, hcl, hle, hf, h => by
    refine ⟨fun hr => ?_, fun i hi => ?_⟩
    · have := ready_first hw hsz hr
      rw [this] at h
      simp only [evIdx, Option.some.injEq] at h
      subst h
      exact hQ a w hf
    · obtain ⟨h1, o, ho, _⟩ := mem_ready.1 hi
      have hlt : i < ops.size := (Array.getElem?_eq_some_iff.1 ho).1
      have hl : listed.getD i false = false := by
        have hl : i < listed.size := by omega
        simp [hl] at h1 ⊢
        exact h1
      obtain ⟨pre, post, e1, e2, e3⟩ := rest_split hlt hsz hl
      obtain ⟨t1, t2⟩ := trOpers_get htr
      have hlt' : i < l.length := by rw [stripL_len] at t1; simp at t1; omega
      have hx : l[i]? = some l[i] := List.getElem?_eq_getElem hlt'
      rw [e1] at h
      have h' := evIdx_front hp hx pre post s sf (fun k hk ok hok => by
        cases hc : conf pm ok l[i] with
        | false => rfl
        | true =>
          exfalso
          obtain ⟨h3, h4⟩ := e3 k hk
          have := ready_listed hw hcl hi k (wo_conf hw h3 hok hx hc)
          rw [h4] at this
          simp at this) h
      simp only [evIdx, hx] at h'
      cases hev : evOper cb l[i] s with
      | none => simp [hev] at h'
      | some s1 =>
        simp only [hev] at h'
        refine oper_W hcb htr hx hf hev fun a' w' hf' => ?_
        refine any_W hp htr hw hQ fuel _ s1 a' w' (by simp [hsz]) (closed_set hw hcl hi) ?_ hf' (by rw [e2]; exact h')
        rw [e2]
        rw [e1] at hle
        simp at hle ⊢
        omega

include hcb in
theorem region_W (hp : PureCb pm cb) (hm : P.follows .mixedOrders = true) {E0 : Env} {base : Nat} {w0 w : World} {ds : List Deferred} {id : Nat} {ops : Array Oper} {dr : Bool} {l : List IOper} (htr : trOpers P ops.toList ops.toList = some (stripL l)) (ho : dr = true → wellOrd pm ops.toList l = true)
    {ro : Option Nat} {n : Nat} {Q : Exit → Act → World → Prop} {s sf : St} {a : Act} (hf : FOk P pm E0 base w0 ds s a w) (hev : evOps cb l s = some sf) (hQ : ∀ a w, FOk P pm E0 base w0 ds sf a w → Q .normal a w) : (Code.region id ops dr).wpIn (Fr ro) n P Q a w := by
  have hlen : l.length = ops.size := by
    obtain ⟨t1, _⟩ := trOpers_get htr
    rw [stripL_len] at t1; simpa using t1.symm
  have hidx : evIdx cb l (List.range ops.size) s = some sf := by
    have := evIdx_range cb l [] s
    simp only [List.nil_append, List.length_nil] at this
    rw [← hlen, List.range_eq_range', this]
    exact hev
  cases dr with
  | false => exact wpIn_region (opsIdx_W hcb htr hQ _ s a w hf hidx)
  | true =>
    refine wpIn_region_any hm ?_
    have hr : rest ops.size (Array.replicate ops.size false) = List.range ops.size := by
      unfold rest
      apply List.filter_eq_self.2
      intro i hi
      simp at hi
      simp [hi]
    have hf' : FOk P pm E0 base w0 ds s a { w with drawn := w.drawn + 1 } := by
      obtain ⟨E, h1, h2, h3, h4, h5⟩ := hf
      exact ⟨E, h1, h2, h3, h4.trans (Stp.drew base w), h5⟩
    refine any_W hcb hp htr (ho rfl) hQ ops.size _ s a _ (by simp) ?_ (by rw [hr]; simp) hf' (by rw [hr]; exact hidx)
    intro j hj
    exfalso
    by_cases hlt : j < ops.size
    · simp [hlt] at hj
    · simp [hlt] at hj

end ops
end Go.Mini
