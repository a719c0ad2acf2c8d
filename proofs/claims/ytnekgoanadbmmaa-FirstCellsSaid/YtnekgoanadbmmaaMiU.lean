/-
What is to be seen of a program's text in Mini; loops whose live slots are listed; math/bits.Add64.
-/
import Derived.Test.YtnekgoanadbmmaaMiQ
import Derived.Test.YtnekgoanadbmmaaMiT
import Derived.Conc.MuLone
import Derived.Laws.Externs
namespace Go.Mini

def lv (is : List Nat) (n : Nat) : List Bool := (List.range n).map fun i => is.contains i

theorem hasB_lv {is : List Nat} {n i : Nat} (h : i ∈ is) (hn : i < n) : hasB (lv is n) i = true := by
  simp [hasB, lv, List.getElem?_map, List.getElem?_range, hn, h]

theorem wx_roundL {P : IProg} {nt : Nat} {A : As} {m : Mem} {ls : List LRec} {is : List Nat} {n : Nat} {a : IC} {Q : Ex → As → Mem → List LRec → Prop} (hl : is.all (fun i => Nat.blt i n) = true) (h : Wx P nt a (keep A is) m ls (againK P nt (lv is n) a Q)) : Wx P nt (.loop (lv is n) a) A m ls Q :=
  wx_round is (List.all_eq_true.2 fun i hi => hasB_lv hi (by have := List.all_eq_true.1 hl i hi; simp [Nat.blt] at this; omega)) h

theorem wx_loopL {P : IProg} {nt : Nat} {A : As} {m : Mem} {ls : List LRec} {is : List Nat} {n : Nat} {a : IC} {Q : Ex → As → Mem → List LRec → Prop} (h : Wx P nt (.loop (lv is n) a) (keep A is) m ls Q) : Wx P nt (.loop (lv is n) a) A m ls Q :=
  wx_loop is h

def findF : List (Nat × IFn) → Nat → Option IFn
  | [], _ => none
  | (k, F) :: r, i => bif Nat.beq k i then some F else findF r i

theorem findF_mem {f : Nat} {F : IFn} : ∀ {l : List (Nat × IFn)}, findF l f = some F → (f, F) ∈ l
  | [], h => by simp [findF] at h
  | (k, G) :: r, h => by
    simp only [findF] at h
    by_cases e : k = f
    · subst e; simp at h; simp [h]
    · rw [nbeq e] at h
      simp only [cond_false] at h
      simp [findF_mem h]

def FnOk (P : Program) (pm : Nat → Bool) (f : Nat) (F : IFn) : Prop :=
  ∃ (fn : Func) (c : Code), P.funcs[f]? = some fn ∧ fn.body = some c ∧ fn.ntmps = F.nt ∧ trRes P fn.results.toList = some F.res ∧ Tr P pm c F.body ∧ ∀ args w, (callFunc f args).run P w = .ok (.enter f args) w

def ordF (pm : Nat → Bool) (F : IFn) (fn : Func) : Bool :=
  match fn.body with
  | some c => ordC pm F.body c
  | none => false

theorem FnOk.of {P : Program} {pm : Nat → Bool} {f : Nat} {F : IFn} {fn : Func} (hf : P.funcs[f]? = some fn) (hname : (fn.name == "runtime.NumGoroutine") = false) (h1 : trF P fn = some (F.nt, F.res, strip F.body)) (h2 : ordF pm F fn = true) : FnOk P pm f F := by
  cases hb : fn.body with
  | none => simp [trF, hb] at h1
  | some c =>
    simp only [trF, hb] at h1
    simp only [ordF, hb] at h2
    split at h1
    · rename_i r b hr hc
      simp only [Option.some.injEq, Prod.mk.injEq] at h1
      obtain ⟨e1, e2, e3⟩ := h1
      subst e2
      subst e3
      exact ⟨fn, c, hf, hb, e1, hr, tr_of _ _ hc h2, fun args w => MuLone.run_callFunc_enter hf hname hb args w⟩
    · cases h1

def AllOk (P : Program) (pm : Nat → Bool) : List (Nat × IFn) → Prop
  | [] => True
  | p :: r => FnOk P pm p.1 p.2 ∧ AllOk P pm r

theorem AllOk.mem {P : Program} {pm : Nat → Bool} {f : Nat} {F : IFn} : ∀ {l : List (Nat × IFn)}, AllOk P pm l → (f, F) ∈ l → FnOk P pm f F
  | [], _, h => by cases h
  | p :: r, h, hm => by
    rcases List.mem_cons.1 hm with e | e
    · subst e; exact h.1
    · exact h.2.mem e

def add64P : List MV → Option MV
  | [.int .u64 x, .int .u64 y, .int .u64 c] => if 0 ≤ x ∧ 0 ≤ y ∧ 0 ≤ c ∧ c ≤ 1 then some (.tup [.int .u64 ((x + y + c) % 18446744073709551616), .int .u64 ((x + y + c) / 18446744073709551616)]) else none
  | _ => none

theorem add64_ok {P : Program} {f : Nat} {fn : Func} (hf : P.funcs[f]? = some fn) (hname : (fn.name == "runtime.NumGoroutine") = false) (hb : fn.body.isNone = true) (hn : Extern.findNext fn = none) (he : Extern.find fn = some add64Entry)
    (E : Env) (args : List MV) (args' : List Value) (v : MV) (w : World) (hA : Vs E args args') (h : add64P args = some v) : ∃ r, (callFunc f args'.toArray).run P w = .ok (.value r) w ∧ V E v r := by
  unfold add64P at h
  split at h
  case h_2 => cases h
  rename_i x y c
  split at h
  case isFalse => cases h
  rename_i hc
  simp only [Option.some.injEq] at h
  subst h
  cases hA with | cons h1 hA => cases hA with | cons h2 hA => cases hA with | cons h3 hA => cases hA with | nil =>
  cases h1; cases h2; cases h3
  refine ⟨_, ?_, .tup (.cons .int (.cons .int .nil))⟩
  rw [show ([Value.int .u64 x, Value.int .u64 y, Value.int .u64 c] : List Value).toArray = #[Value.int .u64 x, Value.int .u64 y, Value.int .u64 c] from rfl]
  rw [run_callFunc_extern hf hname hb hn he, run_add64 x y c hc.1 hc.2.1 hc.2.2.1 hc.2.2.2]
  rfl

theorem progOk_of {P : Program} {pm : Nat → Bool} {fns : List (Nat × IFn)} {prim : Nat → Option (List MV → Option MV)} (hm : P.follows .mixedOrders = true) (hall : AllOk P pm fns)
    (hprim : ∀ f p, prim f = some p → ∀ (E : Env) args args' v (w : World), Vs E args args' → p args = some v → ∃ r, (callFunc f args'.toArray).run P w = .ok (.value r) w ∧ V E v r)
    (hpure : fns.all (fun p => !pm p.1 || Nat.beq p.2.mode 1) = true) (hrdr : fns.all (fun p => !pm (p.1 + 1048576) || (Nat.beq p.2.mode 0 && roC pm p.2.body)) = true) (hrp : ∀ f p, prim f = some p → pm (f + 1048576) = false ∧ pm (f + 2097152) = false) (hr1 : fns.all (fun p => !pm (p.1 + 2097152) || Nat.beq p.2.mode 3) = true) : ProgOk P pm ⟨findF fns, prim⟩ where
  mixed := hm
  fn f F _ hF := hall.mem (findF_mem hF)
  prim := hprim
  pure f hf _ F hF := by
    have := List.all_eq_true.1 hpure _ (findF_mem hF)
    simp only [hf, Bool.not_true, Bool.false_or] at this
    exact Nat.eq_of_beq_eq_true this
  rdr f hf := by
    constructor
    · cases hp : prim f with
      | none => exact hp
      | some p => rw [(hrp f p hp).1] at hf; cases hf
    · intro F hF
      have := List.all_eq_true.1 hrdr _ (findF_mem hF)
      simp only [hf, Bool.not_true, Bool.false_or, Bool.and_eq_true] at this
      exact ⟨Nat.eq_of_beq_eq_true this.1, this.2⟩
  rd1 f hf := by
    constructor
    · cases hp : prim f with
      | none => exact hp
      | some p => rw [(hrp f p hp).2] at hf; cases hf
    · intro F hF
      have := List.all_eq_true.1 hr1 _ (findF_mem hF)
      simp only [hf, Bool.not_true, Bool.false_or] at this
      exact Nat.eq_of_beq_eq_true this

end Go.Mini
