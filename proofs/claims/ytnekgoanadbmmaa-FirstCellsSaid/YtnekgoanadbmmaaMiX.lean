/-
The rules of a run, with what is found by computation left out.
-/
import Derived.Test.YtnekgoanadbmmaaMiV
namespace Go.Mini

section
variable {P : IProg} {nt : Nat} {A : As} {m : Mem} {ls : List LRec}

/-- What operations answer that only compute. -/
def stepA (A : As) : IOp → Option MV
  | .mv x => lk A x
  | .pick c x y => match lk A c with
    | some (.bool true) => lk A x
    | some (.bool false) => lk A y
    | _ => none
  | .alloci z => bif deepVs z then some (.pimm z 0) else none
  | .build z ps => match fillA A z ps with | some cs => some (.agg cs) | none => none
  | .load n a => match lk A a with | some (.pimm cs off) => loadFrom cs off n | _ => none
  | .loadi n a => match lk A a with | some (.pimm cs off) => loadFrom cs off n | _ => none
  | .faddr o x => match lk A x with
    | some (.ptr b g off) => some (.ptr b g (off + o))
    | some (.pimm cs off) => some (.pimm cs (off + o))
    | _ => none
  | .fld o n x => match lk A x with | some (.agg cs) => loadFrom cs o n | _ => none
  | .nchk x => match lk A x with
    | some (.ptr b g off) => some (.ptr b g off)
    | some (.pimm cs off) => some (.pimm cs off)
    | some (.fn f a b) => some (.fn f a b)
    | some (.yld j) => some (.yld j)
    | _ => none
  | .bin op x y => match lk A x, lk A y with
    | some (.int k a), some (.int j b) => bif decide (k = j) then
        match op with
        | .lss => some (.bool (decide (a < b)))
        | .leq => some (.bool (decide (a ≤ b)))
        | .gtr => some (.bool (decide (b < a)))
        | .geq => some (.bool (decide (b ≤ a)))
        | .eql => some (.bool (decide (a = b)))
        | .neq => some (.bool (decide (a ≠ b)))
        | _ => none
      else none
    | _, _ => none
  | .eqb neg x y => match lk A x, lk A y with
    | some (.bool s), some (.bool t) => match neg with
      | false => some (.bool (decide (s = t)))
      | true => some (.bool (decide (s ≠ t)))
    | _, _ => none
  | .eqn n neg x y => match lk A x, lk A y with
    | some u, some v => match eqNil n u v with | some t => some (.bool (t != neg)) | none => none
    | _, _ => none
  | .mkfn f a b => match a.mapM (lk A), b.mapM (lk A) with
    | some u, some v => some (.fn f u v)
    | _, _ => none
  | .extr i x => match lk A x with | some (.tup vs) => vs[i]? | _ => none
  | .len x => match lk A x with
    | some v => match lenM v with | some n => some (.int .i64 (n : Int)) | none => none
    | none => none
  | .lens x => match lk A x with | some (.str s) => some (.int .i64 (s.size : Int)) | _ => none
  | .lenc n => some (.int .i64 (n : Int))
  | .mx x y => match lk A x, lk A y with | some (.int k a), some (.int _ b) => some (.int k (max a b)) | _, _ => none
  | .mn x y => match lk A x, lk A y with | some (.int k a), some (.int _ b) => some (.int k (min a b)) | _, _ => none
  | _ => none

theorem zp {d : Option Nat} {l : List IOper} {op : IOp} {v : MV} {Q : As → Mem → List LRec → Prop} (hk : Wo P nt l (putA A d v) m ls Q) (h : stepA A op = some v := by exact rfl) (hd : okD nt d = true := by exact rfl) : Wo P nt (⟨d, none, op⟩ :: l) A m ls Q := by
  cases op
  case mv x => exact wo_mv h hd hk
  case pick c x y =>
    simp only [stepA] at h
    split at h
    · rename_i e; exact wo_pickT e hd h hk
    · rename_i e; exact wo_pickF e hd h hk
    · cases h
  case alloci z =>
    simp only [stepA] at h
    cases e : deepVs z with
    | true => rw [e] at h; simp only [cond_true, Option.some.injEq] at h; subst h; exact wo_alloci e hd hk
    | false => rw [e] at h; cases h
  case build z ps =>
    simp only [stepA] at h
    split at h
    · rename_i e; simp only [Option.some.injEq] at h; subst h; exact wo_build e hd hk
    · cases h
  case load n a =>
    simp only [stepA] at h
    split at h
    · rename_i e; exact wo_loadp e h hd hk
    · cases h
  case loadi n a =>
    simp only [stepA] at h
    split at h
    · rename_i e; exact wo_loadi e h hd hk
    · cases h
  case faddr o x =>
    simp only [stepA] at h
    split at h
    · rename_i e; simp only [Option.some.injEq] at h; subst h; exact wo_faddrp e rfl hd hk
    · rename_i e; simp only [Option.some.injEq] at h; subst h; exact wo_faddri e rfl hd hk
    · cases h
  case fld o n x =>
    simp only [stepA] at h
    split at h
    · rename_i e; exact wo_fld e h hd hk
    · cases h
  case nchk x =>
    simp only [stepA] at h
    split at h
    · rename_i e; simp only [Option.some.injEq] at h; subst h; exact wo_nchkp e hd hk
    · rename_i e; simp only [Option.some.injEq] at h; subst h; exact wo_nchki e hd hk
    · rename_i e; simp only [Option.some.injEq] at h; subst h; exact wo_nchkf e hd hk
    · rename_i e; simp only [Option.some.injEq] at h; subst h; exact wo_nchky e hd hk
    · cases h
  case bin op x y =>
    simp only [stepA] at h
    split at h
    case h_2 => cases h
    rename_i k a j b e1 e2
    by_cases hkj : k = j
    · subst hkj
      simp only [decide_true, cond_true] at h
      split at h
      · simp only [Option.some.injEq] at h; subst h; exact wo_lss e1 e2 hd hk
      · simp only [Option.some.injEq] at h; subst h; exact wo_leq e1 e2 hd hk
      · simp only [Option.some.injEq] at h; subst h; exact wo_gtr e1 e2 hd hk
      · simp only [Option.some.injEq] at h; subst h; exact wo_geq e1 e2 hd hk
      · simp only [Option.some.injEq] at h; subst h; exact wo_eql e1 e2 hd hk
      · simp only [Option.some.injEq] at h; subst h; exact wo_neq e1 e2 hd hk
      · cases h
    · simp only [hkj, decide_false, cond_false] at h
      cases h
  case eqb neg x y =>
    simp only [stepA] at h
    split at h
    case h_2 => cases h
    rename_i e1 e2
    cases neg with
    | false => simp only [Option.some.injEq] at h; subst h; exact wo_eqb0 e1 e2 hd hk
    | true => simp only [Option.some.injEq] at h; subst h; exact wo_eqb1 e1 e2 hd hk
  case eqn n neg x y =>
    simp only [stepA] at h
    split at h
    case h_2 => cases h
    rename_i e1 e2
    split at h
    · rename_i e3; simp only [Option.some.injEq] at h; subst h; exact wo_eqn e1 e2 e3 hd hk
    · cases h
  case mkfn f a b =>
    simp only [stepA] at h
    split at h
    · rename_i e1 e2; simp only [Option.some.injEq] at h; subst h; exact wo_mkfn e1 e2 hd hk
    · cases h
  case extr i x =>
    simp only [stepA] at h
    split at h
    · rename_i e; exact wo_extr e h hd hk
    · cases h
  case len x =>
    simp only [stepA] at h
    split at h
    · rename_i e
      split at h
      · rename_i e2; simp only [Option.some.injEq] at h; subst h; exact wo_len e e2 hd hk
      · cases h
    · cases h
  case lens x =>
    simp only [stepA] at h
    split at h
    · rename_i e; simp only [Option.some.injEq] at h; subst h; exact wo_lens e hd hk
    · cases h
  case lenc n =>
    simp only [stepA, Option.some.injEq] at h
    subst h
    exact wo_lenc hd hk
  case mx x y =>
    simp only [stepA] at h
    split at h
    · rename_i e1 e2; simp only [Option.some.injEq] at h; subst h; exact wo_mx e1 e2 hd hk
    · cases h
  case mn x y =>
    simp only [stepA] at h
    split at h
    · rename_i e1 e2; simp only [Option.some.injEq] at h; subst h; exact wo_mn e1 e2 hd hk
    · cases h
  all_goals (simp only [stepA] at h; cases h)

theorem z00 {a b : IC} {Q : Ex → As → Mem → List LRec → Prop} (h : Wx P nt a A m ls (thenK P nt b Q)) : Wx P nt (.seq a b) A m ls Q :=
  wx_seq h
theorem z01 {d : Bool} {l : List IOper} {Q : Ex → As → Mem → List LRec → Prop} (h : Wo P nt l A m ls fun A m ls => Q .normal A m ls) : Wx P nt (.reg d l) A m ls Q :=
  wx_reg h
theorem z02 {b : IC} {Q : Ex → As → Mem → List LRec → Prop} (h : Wx P nt b A m ls Q) : thenK P nt b Q .normal A m ls :=
  then_n h
theorem z04 {Q : As → Mem → List LRec → Prop} (h : Q A m ls) : Wo P nt [] A m ls Q :=
  wo_nil h
theorem z05 {α : Type} {d : Option Nat} {l : List IOper} {K : Enc α} {Q : As → Mem → List LRec → Prop} {a : Opd} {xs : List α} {i o : Nat} {u : MV} (hk : Wo P nt l (putA A d u) m ls Q) (ha : lk A a = some (.pimm (flat K.E xs) (i * K.sz + o)) := by exact rfl) (hi : i < xs.length := by first | assumption | omega) (hv : (K.E (xs[i]'hi))[o]? = some u := by exact rfl) (hd : okD nt d = true := by exact rfl) : Wo P nt (⟨d, none, .load none a⟩ :: l) A m ls Q :=
  wo_loadc ha hi hv hd hk
theorem z08 {α : Type} {d : Option Nat} {l : List IOper} {K : Enc α} {Q : As → Mem → List LRec → Prop} {a : Opd} {o o' f : Nat} {xs : List α} {i : Nat} (hk : Wo P nt l (putA A d (.pimm (flat K.E xs) (i * K.sz + o'))) m ls Q) (ha : lk A a = some (.pimm (flat K.E xs) (i * K.sz + o)) := by exact rfl) (ho : o + f = o' := by exact rfl) (hd : okD nt d = true := by exact rfl) : Wo P nt (⟨d, none, .faddr f a⟩ :: l) A m ls Q :=
  wo_faddrc ha ho hd hk
theorem z0g {d : Option Nat} {l : List IOper} {Q : As → Mem → List LRec → Prop} {x y : Opd} {a b : Int} (hk : Wo P nt l (putA A d (.int .i64 (a + b))) m ls Q) (hx : lk A x = some (.int .i64 a) := by exact rfl) (hy : lk A y = some (.int .i64 b) := by exact rfl) (h : -9223372036854775808 ≤ a + b ∧ a + b ≤ 9223372036854775807 := by omega) (hd : okD nt d = true := by exact rfl) : Wo P nt (⟨d, none, .bin .add x y⟩ :: l) A m ls Q :=
  wo_addO hx hy h hd hk
theorem z0h {d : Option Nat} {l : List IOper} {Q : As → Mem → List LRec → Prop} {x y : Opd} {a b : Int} (hk : Wo P nt l (putA A d (.int .i64 (a - b))) m ls Q) (hx : lk A x = some (.int .i64 a) := by exact rfl) (hy : lk A y = some (.int .i64 b) := by exact rfl) (h : -9223372036854775808 ≤ a - b ∧ a - b ≤ 9223372036854775807 := by omega) (hd : okD nt d = true := by exact rfl) : Wo P nt (⟨d, none, .bin .sub x y⟩ :: l) A m ls Q :=
  wo_subO hx hy h hd hk
theorem z0j {d : Option Nat} {l : List IOper} {Q : As → Mem → List LRec → Prop} {z : List MV} (hk : Wo P nt l (putA A d (.ptr m.length 0 0)) (m ++ [⟨z, 0, deepVs z⟩]) ls Q) (hd : okD nt d = true := by exact rfl) : Wo P nt (⟨d, none, .alloc z⟩ :: l) A m ls Q :=
  wo_alloc hd hk
theorem z0k {d : Option Nat} {l : List IOper} {Q : As → Mem → List LRec → Prop} {n : Nat} {a x : Opd} {k : Blk} {g off : Nat} {v : MV} {cs : List MV} (hk : Wo P nt l (putA A d (.tup [])) (m ++ [⟨setAt k.cells off cs, k.gen, k.deep && deepVs cs⟩]) ls Q) (ha : lk A a = some (.ptr m.length g off) := by exact rfl) (hx : lk A x = some v := by exact rfl) (hc : cellsOf v = some cs := by first | rfl | assumption) (hg : k.gen = g := by exact rfl) (hn : cs.length = n := by exact rfl) (hle : off + n ≤ k.cells.length := by first | exact Nat.le_of_ble_eq_true rfl | (simp; done)) (hd : okD nt d = true := by exact rfl) : Wo P nt (⟨d, none, .store n a x⟩ :: l) A (m ++ [k]) ls Q :=
  wo_storeL ha hx hc hg hn hle hd hk
theorem z0l {d : Option Nat} {l : List IOper} {Q : As → Mem → List LRec → Prop} {n : Option Nat} {a : Opd} {k : Blk} {g off : Nat} {v : MV} (hk : Wo P nt l (putA A d v) (m ++ [k]) ls Q) (ha : lk A a = some (.ptr m.length g off) := by exact rfl) (hg : k.gen = g := by exact rfl) (hv : loadFrom k.cells off n = some v := by exact rfl) (hd : okD nt d = true := by exact rfl) : Wo P nt (⟨d, none, .load n a⟩ :: l) A (m ++ [k]) ls Q :=
  wo_loadL ha hg hv hd hk
theorem z0n {d : Option Nat} {l : List IOper} {Q : As → Mem → List LRec → Prop} {n : Option Nat} {a : Opd} {b g off : Nat} {k : Blk} {v : MV} (hk : Wo P nt l (putA A d v) m ls Q) (ha : lk A a = some (.ptr b g off) := by exact rfl) (hb : m[b]? = some k := by first | assumption | exact get_set (by assumption) (by first | decide | omega) _ | exact get_app (by assumption) _ | exact get_set_self (by assumption) _ | exact get_set (get_app (by assumption) _) (by first | decide | omega) _ | exact get_set_self (get_app (by assumption) _) _ | exact get_app (get_app (by assumption) _) _ | exact get_set (get_set (by assumption) (by first | decide | omega) _) (by first | decide | omega) _ | exact get_set (get_set_self (by assumption) _) (by first | decide | omega) _) (hg : k.gen = g := by rfl) (hv : loadFrom k.cells off n = some v := by rfl) (hd : okD nt d = true := by exact rfl) : Wo P nt (⟨d, none, .load n a⟩ :: l) A m ls Q :=
  wo_load ha hb hg hv hd hk
theorem z0o {d : Option Nat} {l : List IOper} {Q : As → Mem → List LRec → Prop} {n : Nat} {a x : Opd} {b g off : Nat} {k : Blk} {v : MV} {cs : List MV} (hk : Wo P nt l (putA A d (.tup [])) (m.set b ⟨setAt k.cells off cs, k.gen, k.deep && deepVs cs⟩) ls Q) (ha : lk A a = some (.ptr b g off) := by exact rfl) (hx : lk A x = some v := by exact rfl) (hc : cellsOf v = some cs := by first | rfl | assumption) (hb : m[b]? = some k := by first | assumption | exact get_set (by assumption) (by first | decide | omega) _ | exact get_app (by assumption) _ | exact get_set_self (by assumption) _ | exact get_set (get_app (by assumption) _) (by first | decide | omega) _ | exact get_set_self (get_app (by assumption) _) _ | exact get_app (get_app (by assumption) _) _ | exact get_set (get_set (by assumption) (by first | decide | omega) _) (by first | decide | omega) _ | exact get_set (get_set_self (by assumption) _) (by first | decide | omega) _) (hg : k.gen = g := by rfl) (hn : cs.length = n := by rfl) (hle : off + n ≤ k.cells.length := by first | exact Nat.le_of_ble_eq_true rfl | (simp; done)) (hd : okD nt d = true := by exact rfl) : Wo P nt (⟨d, none, .store n a x⟩ :: l) A m ls Q :=
  wo_store ha hx hc hb hg hn hle hd hk
theorem z0p {d : Option Nat} {op : IOp} {t : Nat} {b : Bool} {l : List IOper} {Q : As → Mem → List LRec → Prop} (hk : Wo P nt (⟨d, none, op⟩ :: l) A m ls Q) (hg : look A t = some (.bool b) := by exact rfl) : Wo P nt (⟨d, some (t, b), op⟩ :: l) A m ls Q :=
  wo_go hg hk
theorem z0q {d : Option Nat} {l : List IOper} {Q : As → Mem → List LRec → Prop} {op : IOp} {t : Nat} (hk : Wo P nt l (putA A d (.tup [])) m ls Q) (hg : look A t = some (.bool false) := by exact rfl) (hd : okD nt d = true := by exact rfl) : Wo P nt (⟨d, some (t, true), op⟩ :: l) A m ls Q :=
  wo_skipF hg hd hk
theorem z0r {d : Option Nat} {l : List IOper} {Q : As → Mem → List LRec → Prop} {op : IOp} {t : Nat} (hk : Wo P nt l (putA A d (.tup [])) m ls Q) (hg : look A t = some (.bool true) := by exact rfl) (hd : okD nt d = true := by exact rfl) : Wo P nt (⟨d, some (t, false), op⟩ :: l) A m ls Q :=
  wo_skipT hg hd hk
theorem z0s {d : Option Nat} {l : List IOper} {Q : As → Mem → List LRec → Prop} {op : IOp} {t : Nat} {b : Bool} (hk : Wo P nt l (putA A d (.tup [])) m ls Q) (hg : look A t = some (.tup []) := by exact rfl) (hd : okD nt d = true := by exact rfl) : Wo P nt (⟨d, some (t, b), op⟩ :: l) A m ls Q :=
  wo_skipN hg hd hk
theorem z0v {α : Type} {d : Option Nat} {l : List IOper} {K : Enc α} {Q : As → Mem → List LRec → Prop} {x : Opd} {v : MV} {xs : List α} (hk : Wo P nt l (putA A d (.int .i64 (xs.length : Int))) m ls Q) (hx : lk A x = some v := by exact rfl) (hs : Sl K xs v := by assumption) (hd : okD nt d = true := by exact rfl) : Wo P nt (⟨d, none, .len x⟩ :: l) A m ls Q :=
  wo_lenS hx hs hd hk
theorem z0z {d : Option Nat} {l : List IOper} {Q : As → Mem → List LRec → Prop} {x : Opd} {v : MV} {cs : List MV} (hk : Wo P nt l (putA A d (.pimm cs 0)) m ls Q) (hx : lk A x = some v := by exact rfl) (hc : cellsOf v = some cs := by first | rfl | assumption) (hdp : deepVs cs = true := by first | rfl | assumption) (hd : okD nt d = true := by exact rfl) : Wo P nt (⟨d, none, .boxi x⟩ :: l) A m ls Q :=
  wo_boxi hx hc hdp hd hk
theorem z12 {d : Option Nat} {l : List IOper} {Q : As → Mem → List LRec → Prop} {n : Nat} {z cs : List MV} {ps : List (Nat × Nat × Opd)} (hk : Wo P nt l (putA A d (.lit cs n (some n))) m ls Q) (hf : fillA A z ps = some cs := by exact rfl) (hdp : deepVs cs = true := by first | rfl | assumption) (hd : okD nt d = true := by exact rfl) : Wo P nt (⟨d, none, .blit n z ps⟩ :: l) A m ls Q :=
  wo_blit hf hdp hd hk
theorem z14 {d : Option Nat} {l : List IOper} {Q : As → Mem → List LRec → Prop} {x : Opd} {p : Prop} [Decidable p] (hk : Wo P nt l (putA A d (.bool (decide (¬p)))) m ls Q) (hx : lk A x = some (.bool (decide p)) := by exact rfl) (hd : okD nt d = true := by exact rfl) : Wo P nt (⟨d, none, .un .not x⟩ :: l) A m ls Q :=
  wo_notD hx hd hk
theorem z15 {d : Option Nat} {l : List IOper} {x : Opd} {Q : As → Mem → List LRec → Prop} {t : Bool} (hk : Wo P nt l (putA A d (.bool (!t))) m ls Q) (hx : lk A x = some (.bool t) := by exact rfl) (hd : okD nt d = true := by exact rfl) : Wo P nt (⟨d, none, .un .not x⟩ :: l) A m ls Q :=
  wo_not hx hd hk
theorem z1e {α : Type} {d : Option Nat} {l : List IOper} {K : Enc α} {Q : As → Mem → List LRec → Prop} {sz : Nat} {x i : Opd} {v : MV} {xs : List α} {k : IntKind} {a : Int} (hk : Wo P nt l (putA A d (.pimm (flat K.E xs) (a.toNat * K.sz + 0))) m ls Q) (hx : lk A x = some v := by exact rfl) (hs : Sl K xs v := by assumption) (hi : lk A i = some (.int k a) := by exact rfl) (h0 : 0 ≤ a ∧ a.toNat < xs.length := by omega) (hz : K.sz = sz := by exact rfl) (hd : okD nt d = true := by exact rfl) : Wo P nt (⟨d, none, .iaddr sz x i⟩ :: l) A m ls Q :=
  wo_iaddrS hx hs hi h0 hz hd hk
theorem z1f {α : Type} {d : Option Nat} {l : List IOper} {K : Enc α} {Q : As → Mem → List LRec → Prop} {a : Opd} {n : Nat} {xs : List α} {i : Nat} (ha : lk A a = some (.pimm (flat K.E xs) (i * K.sz + 0)) := by exact rfl) (hi : i < xs.length := by first | assumption | omega) (hn : K.sz = n := by exact rfl) (hd : okD nt d = true := by exact rfl) (hk : Wo P nt l (putA A d (.agg (K.E (xs[i]'hi)))) m ls Q) : Wo P nt (⟨d, none, .load (some n) a⟩ :: l) A m ls Q :=
  wo_loade ha hi hn hd hk
theorem z1i {d : Option Nat} {l : List IOper} {Q : As → Mem → List LRec → Prop} {x : Opd} {a : Int} (hk : Wo P nt l (putA A d (.int .i64 (0 - a))) m ls Q) (hx : lk A x = some (.int .i64 a) := by exact rfl) (h : -9223372036854775808 ≤ 0 - a ∧ 0 - a ≤ 9223372036854775807 := by omega) (hd : okD nt d = true := by exact rfl) : Wo P nt (⟨d, none, .un .neg x⟩ :: l) A m ls Q :=
  wo_negO hx h hd hk
theorem z1j {d : Option Nat} {l : List IOper} {Q : As → Mem → List LRec → Prop} {j : IntKind} {x : Opd} {a : Int} (hk : Wo P nt l (putA A d (.int .i64 a)) m ls Q) (hx : lk A x = some (.int j a) := by exact rfl) (h : -9223372036854775808 ≤ a ∧ a ≤ 9223372036854775807 := by omega) (hd : okD nt d = true := by exact rfl) : Wo P nt (⟨d, none, .conv .i64 x⟩ :: l) A m ls Q :=
  wo_convO hx h hd hk
theorem z1k {d : Option Nat} {l : List IOper} {Q : As → Mem → List LRec → Prop} {op : IOp} {t : Nat} {p : Prop} [Decidable p] (h1 : Wo P nt (⟨d, none, op⟩ :: l) ((t, .bool true) :: A) m ls Q) (hg : look A t = some (.bool (decide p)) := by exact rfl) (hp : p := by first | omega | assumption) (hd : okD nt d = true := by exact rfl) : Wo P nt (⟨d, some (t, true), op⟩ :: l) A m ls Q :=
  wo_guardDT hg hp hd h1
theorem z1l {d : Option Nat} {l : List IOper} {Q : As → Mem → List LRec → Prop} {op : IOp} {t : Nat} {p : Prop} [Decidable p] (h1 : Wo P nt l (putA ((t, .bool false) :: A) d (.tup [])) m ls Q) (hg : look A t = some (.bool (decide p)) := by exact rfl) (hp : ¬p := by first | omega | assumption) (hd : okD nt d = true := by exact rfl) : Wo P nt (⟨d, some (t, true), op⟩ :: l) A m ls Q :=
  wo_guardDF hg hp hd h1
theorem z1m {d : Option Nat} {l : List IOper} {Q : As → Mem → List LRec → Prop} {op : IOp} {t : Nat} {p : Prop} [Decidable p] (h1 : Wo P nt l (putA ((t, .bool true) :: A) d (.tup [])) m ls Q) (hg : look A t = some (.bool (decide p)) := by exact rfl) (hp : p := by first | omega | assumption) (hd : okD nt d = true := by exact rfl) : Wo P nt (⟨d, some (t, false), op⟩ :: l) A m ls Q :=
  wo_guardET hg hp hd h1
theorem z1n {d : Option Nat} {l : List IOper} {Q : As → Mem → List LRec → Prop} {op : IOp} {t : Nat} {p : Prop} [Decidable p] (h1 : Wo P nt (⟨d, none, op⟩ :: l) ((t, .bool false) :: A) m ls Q) (hg : look A t = some (.bool (decide p)) := by exact rfl) (hp : ¬p := by first | omega | assumption) (hd : okD nt d = true := by exact rfl) : Wo P nt (⟨d, some (t, false), op⟩ :: l) A m ls Q :=
  wo_guardEF hg hp hd h1
theorem z1o {d : Option Nat} {l : List IOper} {Q : As → Mem → List LRec → Prop} {op : IOp} {t : Nat} {p : Prop} [Decidable p] (h1 : p → Wo P nt (⟨d, none, op⟩ :: l) ((t, .bool true) :: A) m ls Q) (h2 : ¬p → Wo P nt l (putA ((t, .bool false) :: A) d (.tup [])) m ls Q) (hg : look A t = some (.bool (decide p)) := by exact rfl) (hd : okD nt d = true := by exact rfl) : Wo P nt (⟨d, some (t, true), op⟩ :: l) A m ls Q :=
  wo_guardD hg hd h1 h2
theorem z1p {d : Option Nat} {l : List IOper} {Q : As → Mem → List LRec → Prop} {op : IOp} {t : Nat} {p : Prop} [Decidable p] (h1 : ¬p → Wo P nt (⟨d, none, op⟩ :: l) ((t, .bool false) :: A) m ls Q) (h2 : p → Wo P nt l (putA ((t, .bool true) :: A) d (.tup [])) m ls Q) (hg : look A t = some (.bool (decide p)) := by exact rfl) (hd : okD nt d = true := by exact rfl) : Wo P nt (⟨d, some (t, false), op⟩ :: l) A m ls Q :=
  wo_guardE hg hd h1 h2
theorem z1q {d : Option Nat} {l : List IOper} {Q : As → Mem → List LRec → Prop} {op : IOp} {t : Nat} {b c : Bool} (h1 : c = b → Wo P nt (⟨d, none, op⟩ :: l) ((t, .bool b) :: A) m ls Q) (h2 : c = (!b) → Wo P nt l (putA ((t, .bool (!b)) :: A) d (.tup [])) m ls Q) (hg : look A t = some (.bool c) := by exact rfl) (hd : okD nt d = true := by exact rfl) : Wo P nt (⟨d, some (t, b), op⟩ :: l) A m ls Q :=
  wo_guardB hg hd h1 h2
theorem z1r {id : Nat} {a : IC} {Q : Ex → As → Mem → List LRec → Prop} (h : Wx P nt a A m ls (blockK id Q)) : Wx P nt (.block id a) A m ls Q :=
  wx_block h
theorem z1s {Q : Ex → As → Mem → List LRec → Prop} (h : Q .normal A m ls) : Wx P nt .skip A m ls Q :=
  wx_skip h
theorem z1t {id : Nat} {Q : Ex → As → Mem → List LRec → Prop} (h : Q (.exit id) A m ls) : Wx P nt (.exit id) A m ls Q :=
  wx_exit h
theorem z1u {Q : Ex → As → Mem → List LRec → Prop} (h : Q .ret A m ls) : Wx P nt .ret A m ls Q :=
  wx_ret h
theorem z1v {b : IC} {id : Nat} {Q : Ex → As → Mem → List LRec → Prop} (h : Q (.exit id) A m ls) : thenK P nt b Q (.exit id) A m ls :=
  then_e h
theorem z1w {b : IC} {Q : Ex → As → Mem → List LRec → Prop} (h : Q .ret A m ls) : thenK P nt b Q .ret A m ls :=
  then_r h
theorem z1x {id : Nat} {Q : Ex → As → Mem → List LRec → Prop} (h : Q .normal A m ls) : blockK id Q .normal A m ls :=
  block_n h
theorem z1y {id : Nat} {Q : Ex → As → Mem → List LRec → Prop} (h : Q .ret A m ls) : blockK id Q .ret A m ls :=
  block_r h
theorem z1z {id i : Nat} {Q : Ex → As → Mem → List LRec → Prop} (h : Q .normal A m ls) (e : Nat.beq i id = true := by exact rfl) : blockK id Q (.exit i) A m ls :=
  block_e e h
theorem z20 {id i : Nat} {Q : Ex → As → Mem → List LRec → Prop} (h : Q (.exit i) A m ls) (e : Nat.beq i id = false := by exact rfl) : blockK id Q (.exit i) A m ls :=
  block_o e h
theorem z21 {live : List Bool} {a : IC} {Q : Ex → As → Mem → List LRec → Prop} (h : Wx P nt (.loop live a) A m ls Q) : againK P nt live a Q .normal A m ls :=
  again_n h
theorem z22 {live : List Bool} {a : IC} {id : Nat} {Q : Ex → As → Mem → List LRec → Prop} (h : Q (.exit id) A m ls) : againK P nt live a Q (.exit id) A m ls :=
  again_e h
theorem z23 {live : List Bool} {a : IC} {Q : Ex → As → Mem → List LRec → Prop} (h : Q .ret A m ls) : againK P nt live a Q .ret A m ls :=
  again_r h
theorem z24 {c : Opd} {a b : IC} {Q : Ex → As → Mem → List LRec → Prop} (h : Wx P nt a A m ls Q) (hc : lk A c = some (.bool true) := by exact rfl) : Wx P nt (.cond c a b) A m ls Q :=
  wx_ifT hc h
theorem z25 {c : Opd} {a b : IC} {Q : Ex → As → Mem → List LRec → Prop} (h : Wx P nt b A m ls Q) (hc : lk A c = some (.bool false) := by exact rfl) : Wx P nt (.cond c a b) A m ls Q :=
  wx_ifF hc h
theorem z26 {c : Opd} {a b : IC} {p : Prop} [Decidable p] {Q : Ex → As → Mem → List LRec → Prop} (h1 : Wx P nt a A m ls Q) (hc : lk A c = some (.bool (decide p)) := by exact rfl) (hp : p := by first | omega | assumption) : Wx P nt (.cond c a b) A m ls Q :=
  wx_ifDT hc hp h1
theorem z27 {c : Opd} {a b : IC} {p : Prop} [Decidable p] {Q : Ex → As → Mem → List LRec → Prop} (h1 : Wx P nt b A m ls Q) (hc : lk A c = some (.bool (decide p)) := by exact rfl) (hp : ¬p := by first | omega | assumption) : Wx P nt (.cond c a b) A m ls Q :=
  wx_ifDF hc hp h1
theorem z28 {c : Opd} {a b : IC} {p : Prop} [Decidable p] {Q : Ex → As → Mem → List LRec → Prop} (h1 : p → Wx P nt a A m ls Q) (h2 : ¬p → Wx P nt b A m ls Q) (hc : lk A c = some (.bool (decide p)) := by exact rfl) : Wx P nt (.cond c a b) A m ls Q :=
  wx_ifD hc h1 h2
theorem z29 {c : Opd} {a b : IC} {t : Bool} {Q : Ex → As → Mem → List LRec → Prop} (h1 : t = true → Wx P nt a A m ls Q) (h2 : t = false → Wx P nt b A m ls Q) (hc : lk A c = some (.bool t) := by exact rfl) : Wx P nt (.cond c a b) A m ls Q :=
  wx_if hc h1 h2
theorem z2a {rs : List IRes} {R : MV → Mem → List LRec → Prop} {vs : List MV} (hR : R (one vs) m ls) (h : resA A m rs = some vs := by exact rfl) : endK rs R .normal A m ls :=
  end_n h hR
theorem z2b {rs : List IRes} {R : MV → Mem → List LRec → Prop} {vs : List MV} (hR : R (one vs) m ls) (h : resA A m rs = some vs := by exact rfl) : endK rs R .ret A m ls :=
  end_r h hR

end
end Go.Mini
