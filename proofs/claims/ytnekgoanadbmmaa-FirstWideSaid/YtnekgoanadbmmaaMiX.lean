/-
The rules of a run, with what is found by computation left out.
-/
import Derived.Test.YtnekgoanadbmmaaMiV
namespace Go.Mini

section
variable {P : IProg} {nt : Nat} {A : As} {m : Mem} {ls : List LRec}

theorem z00 {a b : IC} {Q : Ex → As → Mem → List LRec → Prop} (h : Wx P nt a A m ls (thenK P nt b Q)) : Wx P nt (.seq a b) A m ls Q :=
  wx_seq h
theorem z01 {d : Bool} {l : List IOper} {Q : Ex → As → Mem → List LRec → Prop} (h : Wo P nt l A m ls fun A m ls => Q .normal A m ls) : Wx P nt (.reg d l) A m ls Q :=
  wx_reg h
theorem z02 {b : IC} {Q : Ex → As → Mem → List LRec → Prop} (h : Wx P nt b A m ls Q) : thenK P nt b Q .normal A m ls :=
  then_n h
theorem z03 {d : Option Nat} {l : List IOper} {Q : As → Mem → List LRec → Prop} {x : Opd} {v : MV} (hk : Wo P nt l (putA A d v) m ls Q) (hx : lk A x = some v := by exact rfl) (hd : okD nt d = true := by exact rfl) : Wo P nt (⟨d, none, .mv x⟩ :: l) A m ls Q :=
  wo_mv hx hd hk
theorem z04 {Q : As → Mem → List LRec → Prop} (h : Q A m ls) : Wo P nt [] A m ls Q :=
  wo_nil h
theorem z05 {α : Type} {d : Option Nat} {l : List IOper} {K : Enc α} {Q : As → Mem → List LRec → Prop} {a : Opd} {xs : List α} {i o : Nat} {u : MV} (hk : Wo P nt l (putA A d u) m ls Q) (ha : lk A a = some (.pimm (flat K.E xs) (i * K.sz + o)) := by exact rfl) (hi : i < xs.length := by first | assumption | omega) (hv : (K.E (xs[i]'hi))[o]? = some u := by exact rfl) (hd : okD nt d = true := by exact rfl) : Wo P nt (⟨d, none, .load none a⟩ :: l) A m ls Q :=
  wo_loadc ha hi hv hd hk
theorem z06 {d : Option Nat} {l : List IOper} {Q : As → Mem → List LRec → Prop} {n : Option Nat} {a : Opd} {cs : List MV} {off : Nat} {v : MV} (hk : Wo P nt l (putA A d v) m ls Q) (ha : lk A a = some (.pimm cs off) := by exact rfl) (hv : loadFrom cs off n = some v := by exact rfl) (hd : okD nt d = true := by exact rfl) : Wo P nt (⟨d, none, .loadi n a⟩ :: l) A m ls Q :=
  wo_loadi ha hv hd hk
theorem z07 {d : Option Nat} {l : List IOper} {Q : As → Mem → List LRec → Prop} {n : Option Nat} {a : Opd} {cs : List MV} {off : Nat} {v : MV} (hk : Wo P nt l (putA A d v) m ls Q) (ha : lk A a = some (.pimm cs off) := by exact rfl) (hv : loadFrom cs off n = some v := by exact rfl) (hd : okD nt d = true := by exact rfl) : Wo P nt (⟨d, none, .load n a⟩ :: l) A m ls Q :=
  wo_loadp ha hv hd hk
theorem z08 {α : Type} {d : Option Nat} {l : List IOper} {K : Enc α} {Q : As → Mem → List LRec → Prop} {a : Opd} {o o' f : Nat} {xs : List α} {i : Nat} (hk : Wo P nt l (putA A d (.pimm (flat K.E xs) (i * K.sz + o'))) m ls Q) (ha : lk A a = some (.pimm (flat K.E xs) (i * K.sz + o)) := by exact rfl) (ho : o + f = o' := by exact rfl) (hd : okD nt d = true := by exact rfl) : Wo P nt (⟨d, none, .faddr f a⟩ :: l) A m ls Q :=
  wo_faddrc ha ho hd hk
theorem z09 {d : Option Nat} {l : List IOper} {Q : As → Mem → List LRec → Prop} {o o' : Nat} {x : Opd} {cs : List MV} {off : Nat} (hk : Wo P nt l (putA A d (.pimm cs o')) m ls Q) (hx : lk A x = some (.pimm cs off) := by exact rfl) (ho : off + o = o' := by exact rfl) (hd : okD nt d = true := by exact rfl) : Wo P nt (⟨d, none, .faddr o x⟩ :: l) A m ls Q :=
  wo_faddri hx ho hd hk
theorem z0a {d : Option Nat} {l : List IOper} {x : Opd} {y : Opd} {k : IntKind} {a : Int} {b : Int} {Q : As → Mem → List LRec → Prop}  (hk : Wo P nt l (putA A d (.bool (decide (a < b)))) m ls Q) (hx : lk A x = some (.int k a) := by exact rfl) (hy : lk A y = some (.int k b) := by exact rfl) (hd : okD nt d = true := by exact rfl) : Wo P nt (⟨d, none, .bin .lss x y⟩ :: l) A m ls Q :=
  wo_lss hx hy hd hk
theorem z0b {d : Option Nat} {l : List IOper} {x : Opd} {y : Opd} {k : IntKind} {a : Int} {b : Int} {Q : As → Mem → List LRec → Prop}  (hk : Wo P nt l (putA A d (.bool (decide (a ≤ b)))) m ls Q) (hx : lk A x = some (.int k a) := by exact rfl) (hy : lk A y = some (.int k b) := by exact rfl) (hd : okD nt d = true := by exact rfl) : Wo P nt (⟨d, none, .bin .leq x y⟩ :: l) A m ls Q :=
  wo_leq hx hy hd hk
theorem z0c {d : Option Nat} {l : List IOper} {x : Opd} {y : Opd} {k : IntKind} {a : Int} {b : Int} {Q : As → Mem → List LRec → Prop}  (hk : Wo P nt l (putA A d (.bool (decide (b < a)))) m ls Q) (hx : lk A x = some (.int k a) := by exact rfl) (hy : lk A y = some (.int k b) := by exact rfl) (hd : okD nt d = true := by exact rfl) : Wo P nt (⟨d, none, .bin .gtr x y⟩ :: l) A m ls Q :=
  wo_gtr hx hy hd hk
theorem z0d {d : Option Nat} {l : List IOper} {x : Opd} {y : Opd} {k : IntKind} {a : Int} {b : Int} {Q : As → Mem → List LRec → Prop}  (hk : Wo P nt l (putA A d (.bool (decide (b ≤ a)))) m ls Q) (hx : lk A x = some (.int k a) := by exact rfl) (hy : lk A y = some (.int k b) := by exact rfl) (hd : okD nt d = true := by exact rfl) : Wo P nt (⟨d, none, .bin .geq x y⟩ :: l) A m ls Q :=
  wo_geq hx hy hd hk
theorem z0e {d : Option Nat} {l : List IOper} {x : Opd} {y : Opd} {k : IntKind} {a : Int} {b : Int} {Q : As → Mem → List LRec → Prop}  (hk : Wo P nt l (putA A d (.bool (decide (a = b)))) m ls Q) (hx : lk A x = some (.int k a) := by exact rfl) (hy : lk A y = some (.int k b) := by exact rfl) (hd : okD nt d = true := by exact rfl) : Wo P nt (⟨d, none, .bin .eql x y⟩ :: l) A m ls Q :=
  wo_eql hx hy hd hk
theorem z0f {d : Option Nat} {l : List IOper} {x : Opd} {y : Opd} {k : IntKind} {a : Int} {b : Int} {Q : As → Mem → List LRec → Prop}  (hk : Wo P nt l (putA A d (.bool (decide (a ≠ b)))) m ls Q) (hx : lk A x = some (.int k a) := by exact rfl) (hy : lk A y = some (.int k b) := by exact rfl) (hd : okD nt d = true := by exact rfl) : Wo P nt (⟨d, none, .bin .neq x y⟩ :: l) A m ls Q :=
  wo_neq hx hy hd hk
theorem z0g {d : Option Nat} {l : List IOper} {Q : As → Mem → List LRec → Prop} {x y : Opd} {a b : Int} (hk : Wo P nt l (putA A d (.int .i64 (a + b))) m ls Q) (hx : lk A x = some (.int .i64 a) := by exact rfl) (hy : lk A y = some (.int .i64 b) := by exact rfl) (h : -9223372036854775808 ≤ a + b ∧ a + b ≤ 9223372036854775807 := by omega) (hd : okD nt d = true := by exact rfl) : Wo P nt (⟨d, none, .bin .add x y⟩ :: l) A m ls Q :=
  wo_addO hx hy h hd hk
theorem z0h {d : Option Nat} {l : List IOper} {Q : As → Mem → List LRec → Prop} {x y : Opd} {a b : Int} (hk : Wo P nt l (putA A d (.int .i64 (a - b))) m ls Q) (hx : lk A x = some (.int .i64 a) := by exact rfl) (hy : lk A y = some (.int .i64 b) := by exact rfl) (h : -9223372036854775808 ≤ a - b ∧ a - b ≤ 9223372036854775807 := by omega) (hd : okD nt d = true := by exact rfl) : Wo P nt (⟨d, none, .bin .sub x y⟩ :: l) A m ls Q :=
  wo_subO hx hy h hd hk
theorem z0i {d : Option Nat} {l : List IOper} {Q : As → Mem → List LRec → Prop} {i : Nat} {x : Opd} {vs : List MV} {v : MV} (hk : Wo P nt l (putA A d v) m ls Q) (hx : lk A x = some (.tup vs) := by exact rfl) (hv : vs[i]? = some v := by exact rfl) (hd : okD nt d = true := by exact rfl) : Wo P nt (⟨d, none, .extr i x⟩ :: l) A m ls Q :=
  wo_extr hx hv hd hk
theorem z0j {d : Option Nat} {l : List IOper} {Q : As → Mem → List LRec → Prop} {z : List MV} (hk : Wo P nt l (putA A d (.ptr m.length 0 0)) (m ++ [⟨z, 0, deepVs z⟩]) ls Q) (hd : okD nt d = true := by exact rfl) : Wo P nt (⟨d, none, .alloc z⟩ :: l) A m ls Q :=
  wo_alloc hd hk
theorem z0k {d : Option Nat} {l : List IOper} {Q : As → Mem → List LRec → Prop} {n : Nat} {a x : Opd} {k : Blk} {g off : Nat} {v : MV} {cs : List MV} (hk : Wo P nt l (putA A d (.tup [])) (m ++ [⟨setAt k.cells off cs, k.gen, k.deep && deepVs cs⟩]) ls Q) (ha : lk A a = some (.ptr m.length g off) := by exact rfl) (hx : lk A x = some v := by exact rfl) (hc : cellsOf v = some cs := by first | rfl | assumption) (hg : k.gen = g := by exact rfl) (hn : cs.length = n := by exact rfl) (hle : off + n ≤ k.cells.length := by first | exact Nat.le_of_ble_eq_true rfl | (simp; done)) (hd : okD nt d = true := by exact rfl) : Wo P nt (⟨d, none, .store n a x⟩ :: l) A (m ++ [k]) ls Q :=
  wo_storeL ha hx hc hg hn hle hd hk
theorem z0l {d : Option Nat} {l : List IOper} {Q : As → Mem → List LRec → Prop} {n : Option Nat} {a : Opd} {k : Blk} {g off : Nat} {v : MV} (hk : Wo P nt l (putA A d v) (m ++ [k]) ls Q) (ha : lk A a = some (.ptr m.length g off) := by exact rfl) (hg : k.gen = g := by exact rfl) (hv : loadFrom k.cells off n = some v := by exact rfl) (hd : okD nt d = true := by exact rfl) : Wo P nt (⟨d, none, .load n a⟩ :: l) A (m ++ [k]) ls Q :=
  wo_loadL ha hg hv hd hk
theorem z0m {d : Option Nat} {l : List IOper} {Q : As → Mem → List LRec → Prop} {o o' : Nat} {x : Opd} {b g off : Nat} (hk : Wo P nt l (putA A d (.ptr b g o')) m ls Q) (hx : lk A x = some (.ptr b g off) := by exact rfl) (ho : off + o = o' := by exact rfl) (hd : okD nt d = true := by exact rfl) : Wo P nt (⟨d, none, .faddr o x⟩ :: l) A m ls Q :=
  wo_faddrp hx ho hd hk
theorem z0n {d : Option Nat} {l : List IOper} {Q : As → Mem → List LRec → Prop} {n : Option Nat} {a : Opd} {b g off : Nat} {k : Blk} {v : MV} (hk : Wo P nt l (putA A d v) m ls Q) (ha : lk A a = some (.ptr b g off) := by exact rfl) (hb : m[b]? = some k := by first | assumption | exact get_set (by assumption) (by first | decide | omega) _ | exact get_app (by assumption) _ | exact get_set_self (by assumption) _ | exact get_set (get_app (by assumption) _) (by first | decide | omega) _ | exact get_set_self (get_app (by assumption) _) _ | exact get_app (get_app (by assumption) _) _ | exact get_set (get_set (by assumption) (by first | decide | omega) _) (by first | decide | omega) _ | exact get_set (get_set_self (by assumption) _) (by first | decide | omega) _) (hg : k.gen = g := by rfl) (hv : loadFrom k.cells off n = some v := by rfl) (hd : okD nt d = true := by exact rfl) : Wo P nt (⟨d, none, .load n a⟩ :: l) A m ls Q :=
  wo_load ha hb hg hv hd hk
theorem z0o {d : Option Nat} {l : List IOper} {Q : As → Mem → List LRec → Prop} {n : Nat} {a x : Opd} {b g off : Nat} {k : Blk} {v : MV} {cs : List MV} (hk : Wo P nt l (putA A d (.tup [])) (m.set b ⟨setAt k.cells off cs, k.gen, k.deep && deepVs cs⟩) ls Q) (ha : lk A a = some (.ptr b g off) := by exact rfl) (hx : lk A x = some v := by exact rfl) (hc : cellsOf v = some cs := by first | rfl | assumption) (hb : m[b]? = some k := by first | assumption | exact get_set (by assumption) (by first | decide | omega) _ | exact get_app (by assumption) _ | exact get_set_self (by assumption) _ | exact get_set (get_app (by assumption) _) (by first | decide | omega) _ | exact get_set_self (get_app (by assumption) _) _ | exact get_app (get_app (by assumption) _) _ | exact get_set (get_set (by assumption) (by first | decide | omega) _) (by first | decide | omega) _ | exact get_set (get_set_self (by assumption) _) (by first | decide | omega) _) (hg : k.gen = g := by rfl) (hn : cs.length = n := by rfl) (hle : off + n ≤ k.cells.length := by first | exact Nat.le_of_ble_eq_true rfl | (simp; done)) (hd : okD nt d = true := by exact rfl) : Wo P nt (⟨d, none, .store n a x⟩ :: l) A m ls Q :=
  wo_store ha hx hc hb hg hn hle hd hk
theorem z0p {d : Option Nat} {op : IOp} {t : Nat} {b : Bool} {l : List IOper} {Q : As → Mem → List LRec → Prop} (hk : Wo P nt (⟨d, none, op⟩ :: l) A m ls Q) (hg : look A t = some (.bool b) := by exact rfl) : Wo P nt (⟨d, some (t, b), op⟩ :: l) A m ls Q :=
  wo_go hg hk
theorem z0q {d : Option Nat} {l : List IOper} {Q : As → Mem → List LRec → Prop} {op : IOp} {t : Nat} (hk : Wo P nt l (putA A d (.tup [])) m ls Q) (hg : look A t = some (.bool false) := by exact rfl) (hd : okD nt d = true := by exact rfl) : Wo P nt (⟨d, some (t, true), op⟩ :: l) A m ls Q :=
  wo_skipF hg hd hk
theorem z0r {d : Option Nat} {l : List IOper} {Q : As → Mem → List LRec → Prop} {op : IOp} {t : Nat} (hk : Wo P nt l (putA A d (.tup [])) m ls Q) (hg : look A t = some (.bool true) := by exact rfl) (hd : okD nt d = true := by exact rfl) : Wo P nt (⟨d, some (t, false), op⟩ :: l) A m ls Q :=
  wo_skipT hg hd hk
theorem z0s {d : Option Nat} {l : List IOper} {Q : As → Mem → List LRec → Prop} {op : IOp} {t : Nat} {b : Bool} (hk : Wo P nt l (putA A d (.tup [])) m ls Q) (hg : look A t = some (.tup []) := by exact rfl) (hd : okD nt d = true := by exact rfl) : Wo P nt (⟨d, some (t, b), op⟩ :: l) A m ls Q :=
  wo_skipN hg hd hk
theorem z0t {d : Option Nat} {l : List IOper} {Q : As → Mem → List LRec → Prop} {c x y : Opd} {v : MV} (hk : Wo P nt l (putA A d v) m ls Q) (hc : lk A c = some (.bool true) := by exact rfl) (hd : okD nt d = true := by exact rfl) (hx : lk A x = some v := by exact rfl) : Wo P nt (⟨d, none, .pick c x y⟩ :: l) A m ls Q :=
  wo_pickT hc hd hx hk
theorem z0u {d : Option Nat} {l : List IOper} {Q : As → Mem → List LRec → Prop} {c x y : Opd} {v : MV} (hk : Wo P nt l (putA A d v) m ls Q) (hc : lk A c = some (.bool false) := by exact rfl) (hd : okD nt d = true := by exact rfl) (hx : lk A y = some v := by exact rfl) : Wo P nt (⟨d, none, .pick c x y⟩ :: l) A m ls Q :=
  wo_pickF hc hd hx hk
theorem z0v {α : Type} {d : Option Nat} {l : List IOper} {K : Enc α} {Q : As → Mem → List LRec → Prop} {x : Opd} {v : MV} {xs : List α} (hk : Wo P nt l (putA A d (.int .i64 (xs.length : Int))) m ls Q) (hx : lk A x = some v := by exact rfl) (hs : Sl K xs v := by assumption) (hd : okD nt d = true := by exact rfl) : Wo P nt (⟨d, none, .len x⟩ :: l) A m ls Q :=
  wo_lenS hx hs hd hk
theorem z0w {d : Option Nat} {l : List IOper} {Q : As → Mem → List LRec → Prop} {x : Opd} {v : MV} {n : Nat} (hk : Wo P nt l (putA A d (.int .i64 (n : Int))) m ls Q) (hx : lk A x = some v := by exact rfl) (hn : lenM v = some n := by exact rfl) (hd : okD nt d = true := by exact rfl) : Wo P nt (⟨d, none, .len x⟩ :: l) A m ls Q :=
  wo_len hx hn hd hk
theorem z0x {d : Option Nat} {l : List IOper} {Q : As → Mem → List LRec → Prop} {x : Opd} {s : ByteArray} (hk : Wo P nt l (putA A d (.int .i64 (s.size : Int))) m ls Q) (hx : lk A x = some (.str s) := by exact rfl) (hd : okD nt d = true := by exact rfl) : Wo P nt (⟨d, none, .lens x⟩ :: l) A m ls Q :=
  wo_lens hx hd hk
theorem z0y {d : Option Nat} {l : List IOper} {Q : As → Mem → List LRec → Prop} {n : Nat} (hk : Wo P nt l (putA A d (.int .i64 (n : Int))) m ls Q) (hd : okD nt d = true := by exact rfl) : Wo P nt (⟨d, none, .lenc n⟩ :: l) A m ls Q :=
  wo_lenc hd hk
theorem z0z {d : Option Nat} {l : List IOper} {Q : As → Mem → List LRec → Prop} {x : Opd} {v : MV} {cs : List MV} (hk : Wo P nt l (putA A d (.pimm cs 0)) m ls Q) (hx : lk A x = some v := by exact rfl) (hc : cellsOf v = some cs := by first | rfl | assumption) (hdp : deepVs cs = true := by first | rfl | assumption) (hd : okD nt d = true := by exact rfl) : Wo P nt (⟨d, none, .boxi x⟩ :: l) A m ls Q :=
  wo_boxi hx hc hdp hd hk
theorem z10 {d : Option Nat} {l : List IOper} {Q : As → Mem → List LRec → Prop} {z : List MV} (hk : Wo P nt l (putA A d (.pimm z 0)) m ls Q) (hz : deepVs z = true := by exact rfl) (hd : okD nt d = true := by exact rfl) : Wo P nt (⟨d, none, .alloci z⟩ :: l) A m ls Q :=
  wo_alloci hz hd hk
theorem z11 {d : Option Nat} {l : List IOper} {Q : As → Mem → List LRec → Prop} {z cs : List MV} {ps : List (Nat × Nat × Opd)} (hk : Wo P nt l (putA A d (.agg cs)) m ls Q) (hf : fillA A z ps = some cs := by exact rfl) (hd : okD nt d = true := by exact rfl) : Wo P nt (⟨d, none, .build z ps⟩ :: l) A m ls Q :=
  wo_build hf hd hk
theorem z12 {d : Option Nat} {l : List IOper} {Q : As → Mem → List LRec → Prop} {n : Nat} {z cs : List MV} {ps : List (Nat × Nat × Opd)} (hk : Wo P nt l (putA A d (.lit cs n (some n))) m ls Q) (hf : fillA A z ps = some cs := by exact rfl) (hdp : deepVs cs = true := by first | rfl | assumption) (hd : okD nt d = true := by exact rfl) : Wo P nt (⟨d, none, .blit n z ps⟩ :: l) A m ls Q :=
  wo_blit hf hdp hd hk
theorem z13 {d : Option Nat} {l : List IOper} {Q : As → Mem → List LRec → Prop} {o : Nat} {n : Option Nat} {x : Opd} {cs : List MV} {v : MV} (hk : Wo P nt l (putA A d v) m ls Q) (hx : lk A x = some (.agg cs) := by exact rfl) (hv : loadFrom cs o n = some v := by exact rfl) (hd : okD nt d = true := by exact rfl) : Wo P nt (⟨d, none, .fld o n x⟩ :: l) A m ls Q :=
  wo_fld hx hv hd hk
theorem z14 {d : Option Nat} {l : List IOper} {Q : As → Mem → List LRec → Prop} {x : Opd} {p : Prop} [Decidable p] (hk : Wo P nt l (putA A d (.bool (decide (¬p)))) m ls Q) (hx : lk A x = some (.bool (decide p)) := by exact rfl) (hd : okD nt d = true := by exact rfl) : Wo P nt (⟨d, none, .un .not x⟩ :: l) A m ls Q :=
  wo_notD hx hd hk
theorem z15 {d : Option Nat} {l : List IOper} {x : Opd} {Q : As → Mem → List LRec → Prop} {t : Bool} (hk : Wo P nt l (putA A d (.bool (!t))) m ls Q) (hx : lk A x = some (.bool t) := by exact rfl) (hd : okD nt d = true := by exact rfl) : Wo P nt (⟨d, none, .un .not x⟩ :: l) A m ls Q :=
  wo_not hx hd hk
theorem z16 {d : Option Nat} {l : List IOper} {Q : As → Mem → List LRec → Prop} {x y : Opd} {s t : Bool} (hk : Wo P nt l (putA A d (.bool (decide (s = t)))) m ls Q) (hx : lk A x = some (.bool s) := by exact rfl) (hy : lk A y = some (.bool t) := by exact rfl) (hd : okD nt d = true := by exact rfl) : Wo P nt (⟨d, none, .eqb false x y⟩ :: l) A m ls Q :=
  wo_eqb0 hx hy hd hk
theorem z17 {d : Option Nat} {l : List IOper} {Q : As → Mem → List LRec → Prop} {x y : Opd} {s t : Bool} (hk : Wo P nt l (putA A d (.bool (decide (s ≠ t)))) m ls Q) (hx : lk A x = some (.bool s) := by exact rfl) (hy : lk A y = some (.bool t) := by exact rfl) (hd : okD nt d = true := by exact rfl) : Wo P nt (⟨d, none, .eqb true x y⟩ :: l) A m ls Q :=
  wo_eqb1 hx hy hd hk
theorem z18 {d : Option Nat} {l : List IOper} {x : Opd} {y : Opd} {Q : As → Mem → List LRec → Prop} {n : Nat} {neg t : Bool} {u v : MV} (hk : Wo P nt l (putA A d (.bool (t != neg))) m ls Q) (hx : lk A x = some u := by exact rfl) (hy : lk A y = some v := by exact rfl) (ht : eqNil n u v = some t := by exact rfl) (hd : okD nt d = true := by exact rfl) : Wo P nt (⟨d, none, .eqn n neg x y⟩ :: l) A m ls Q :=
  wo_eqn hx hy ht hd hk
theorem z19 {d : Option Nat} {l : List IOper} {Q : As → Mem → List LRec → Prop} {f : Nat} {a b : List Opd} {u v : List MV} (hk : Wo P nt l (putA A d (.fn f u v)) m ls Q) (ha : a.mapM (lk A) = some u := by exact rfl) (hb : b.mapM (lk A) = some v := by exact rfl) (hd : okD nt d = true := by exact rfl) : Wo P nt (⟨d, none, .mkfn f a b⟩ :: l) A m ls Q :=
  wo_mkfn ha hb hd hk
theorem z1a {d : Option Nat} {l : List IOper} {Q : As → Mem → List LRec → Prop} {x : Opd} {b g o : Nat} (hk : Wo P nt l (putA A d (.ptr b g o)) m ls Q) (hx : lk A x = some (.ptr b g o) := by exact rfl) (hd : okD nt d = true := by exact rfl) : Wo P nt (⟨d, none, .nchk x⟩ :: l) A m ls Q :=
  wo_nchkp hx hd hk
theorem z1b {d : Option Nat} {l : List IOper} {Q : As → Mem → List LRec → Prop} {x : Opd} {cs : List MV} {o : Nat} (hk : Wo P nt l (putA A d (.pimm cs o)) m ls Q) (hx : lk A x = some (.pimm cs o) := by exact rfl) (hd : okD nt d = true := by exact rfl) : Wo P nt (⟨d, none, .nchk x⟩ :: l) A m ls Q :=
  wo_nchki hx hd hk
theorem z1c {d : Option Nat} {l : List IOper} {Q : As → Mem → List LRec → Prop} {x : Opd} {f : Nat} {a b : List MV} (hk : Wo P nt l (putA A d (.fn f a b)) m ls Q) (hx : lk A x = some (.fn f a b) := by exact rfl) (hd : okD nt d = true := by exact rfl) : Wo P nt (⟨d, none, .nchk x⟩ :: l) A m ls Q :=
  wo_nchkf hx hd hk
theorem z1d {d : Option Nat} {l : List IOper} {Q : As → Mem → List LRec → Prop} {x : Opd} {j : Nat} (hk : Wo P nt l (putA A d (.yld j)) m ls Q) (hx : lk A x = some (.yld j) := by exact rfl) (hd : okD nt d = true := by exact rfl) : Wo P nt (⟨d, none, .nchk x⟩ :: l) A m ls Q :=
  wo_nchky hx hd hk
theorem z1e {α : Type} {d : Option Nat} {l : List IOper} {K : Enc α} {Q : As → Mem → List LRec → Prop} {sz : Nat} {x i : Opd} {v : MV} {xs : List α} {k : IntKind} {a : Int} (hk : Wo P nt l (putA A d (.pimm (flat K.E xs) (a.toNat * K.sz + 0))) m ls Q) (hx : lk A x = some v := by exact rfl) (hs : Sl K xs v := by assumption) (hi : lk A i = some (.int k a) := by exact rfl) (h0 : 0 ≤ a ∧ a.toNat < xs.length := by omega) (hz : K.sz = sz := by exact rfl) (hd : okD nt d = true := by exact rfl) : Wo P nt (⟨d, none, .iaddr sz x i⟩ :: l) A m ls Q :=
  wo_iaddrS hx hs hi h0 hz hd hk
theorem z1f {α : Type} {d : Option Nat} {l : List IOper} {K : Enc α} {Q : As → Mem → List LRec → Prop} {a : Opd} {n : Nat} {xs : List α} {i : Nat} (ha : lk A a = some (.pimm (flat K.E xs) (i * K.sz + 0)) := by exact rfl) (hi : i < xs.length := by first | assumption | omega) (hn : K.sz = n := by exact rfl) (hd : okD nt d = true := by exact rfl) (hk : Wo P nt l (putA A d (.agg (K.E (xs[i]'hi)))) m ls Q) : Wo P nt (⟨d, none, .load (some n) a⟩ :: l) A m ls Q :=
  wo_loade ha hi hn hd hk
theorem z1g {d : Option Nat} {l : List IOper} {x : Opd} {y : Opd} {k : IntKind} {j : IntKind} {a : Int} {b : Int} {Q : As → Mem → List LRec → Prop}  (hk : Wo P nt l (putA A d (.int k (max a b))) m ls Q) (hx : lk A x = some (.int k a) := by exact rfl) (hy : lk A y = some (.int j b) := by exact rfl) (hd : okD nt d = true := by exact rfl) : Wo P nt (⟨d, none, .mx x y⟩ :: l) A m ls Q :=
  wo_mx hx hy hd hk
theorem z1h {d : Option Nat} {l : List IOper} {x : Opd} {y : Opd} {k : IntKind} {j : IntKind} {a : Int} {b : Int} {Q : As → Mem → List LRec → Prop}  (hk : Wo P nt l (putA A d (.int k (min a b))) m ls Q) (hx : lk A x = some (.int k a) := by exact rfl) (hy : lk A y = some (.int j b) := by exact rfl) (hd : okD nt d = true := by exact rfl) : Wo P nt (⟨d, none, .mn x y⟩ :: l) A m ls Q :=
  wo_mn hx hy hd hk
theorem z1i {d : Option Nat} {l : List IOper} {Q : As → Mem → List LRec → Prop} {x : Opd} {a : Int} (hk : Wo P nt l (putA A d (.int .i64 (0 - a))) m ls Q) (hx : lk A x = some (.int .i64 a) := by exact rfl) (h : -9223372036854775808 ≤ 0 - a ∧ 0 - a ≤ 9223372036854775807 := by omega) (hd : okD nt d = true := by exact rfl) : Wo P nt (⟨d, none, .un .neg x⟩ :: l) A m ls Q :=
  wo_negO hx h hd hk
theorem z1j {d : Option Nat} {l : List IOper} {Q : As → Mem → List LRec → Prop} {j : IntKind} {x : Opd} {a : Int} (hk : Wo P nt l (putA A d (.int .i64 a)) m ls Q) (hx : lk A x = some (.int j a) := by exact rfl) (h : -9223372036854775808 ≤ a ∧ a ≤ 9223372036854775807 := by omega) (hd : okD nt d = true := by exact rfl) : Wo P nt (⟨d, none, .conv .i64 x⟩ :: l) A m ls Q :=
  wo_convO hx h hd hk
theorem z1k {d : Option Nat} {l : List IOper} {Q : As → Mem → List LRec → Prop} {op : IOp} {t : Nat} {p : Prop} [Decidable p] (h1 : Wo P nt (⟨d, none, op⟩ :: l) ((t, .bool true) :: A) m ls Q) (hg : look A t = some (.bool (decide p)) := by exact rfl) (hp : p := by first | omega | assumption) (hd : okD nt d = true := by exact rfl) : Wo P nt (⟨d, some (t, true), op⟩ :: l) A m ls Q :=
  wo_guardDT hg hp hd h1
theorem z1l {d : Option Nat} {l : List IOper} {Q : As → Mem → List LRec → Prop} {op : IOp} {t : Nat} {p : Prop} [Decidable p] (h1 : Wo P nt l (putA ((t, .bool false) :: A) d (.tup [])) m ls Q) (hg : look A t = some (.bool (decide p)) := by exact rfl) (hp : ¬p := by first | omega | assumption) (hd : okD nt d = true := by exact rfl) : Wo P nt (⟨d, some (t, true), op⟩ :: l) A m ls Q :=
  wo_guardDF hg hp hd h1
theorem z1m {d : Option Nat} {l : List IOper} {Q : As → Mem → List LRec → Prop} {op : IOp} {t : Nat} {p : Prop} [Decidable p] (h1 : Wo P nt l (putA ((t, .bool true) :: A) d (.tup [])) m ls Q) (hg : look A t = some (.bool (decide p)) := by exact rfl) (hp : p := by first | omega | assumption) (hd : okD nt d = true := by exact rfl) : Wo P nt (⟨d, some (t, false), op⟩ :: l) A m ls Q :=
  wo_guardET hg hp hd h1
theorem z1n {d : Option Nat} {l : List IOper} {Q : As → Mem → List LRec → Prop} {op : IOp} {t : Nat} {p : Prop} [Decidable p] (h1 : Wo P nt (⟨d, none, op⟩ :: l) ((t, .bool false) :: A) m ls Q) (hg : look A t = some (.bool (decide p)) := by exact rfl) (hp : ¬p := by first | omega | assumption) (hd : okD nt d = true := by exact rfl) : Wo P nt (⟨d, some (t, false), op⟩ :: l) A m ls Q :=
  wo_guardEF hg hp hd h1
theorem z1o {d : Option Nat} {l : List IOper} {Q : As → Mem → List LRec → Prop} {op : IOp} {t : Nat} {p : Prop} [Decidable p] (h1 : p → Wo P nt (⟨d, none, op⟩ :: l) ((t, .bool true) :: A) m ls Q) (h2 : ¬p → Wo P nt l (putA ((t, .bool false) :: A) d (.tup [])) m ls Q) (hg : look A t = some (.bool (decide p)) := by exact rfl) (hd : okD nt d = true := by exact rfl) : Wo P nt (⟨d, some (t, true), op⟩ :: l) A m ls Q :=
  wo_guardD hg hd h1 h2
theorem z1p {d : Option Nat} {l : List IOper} {Q : As → Mem → List LRec → Prop} {op : IOp} {t : Nat} {p : Prop} [Decidable p] (h1 : ¬p → Wo P nt (⟨d, none, op⟩ :: l) ((t, .bool false) :: A) m ls Q) (h2 : p → Wo P nt l (putA ((t, .bool true) :: A) d (.tup [])) m ls Q) (hg : look A t = some (.bool (decide p)) := by exact rfl) (hd : okD nt d = true := by exact rfl) : Wo P nt (⟨d, some (t, false), op⟩ :: l) A m ls Q :=
  wo_guardE hg hd h1 h2
theorem z1q {d : Option Nat} {l : List IOper} {Q : As → Mem → List LRec → Prop} {op : IOp} {t : Nat} {b c : Bool} (h1 : c = b → Wo P nt (⟨d, none, op⟩ :: l) ((t, .bool b) :: A) m ls Q) (h2 : c = (!b) → Wo P nt l (putA ((t, .bool (!b)) :: A) d (.tup [])) m ls Q) (hg : look A t = some (.bool c) := by exact rfl) (hd : okD nt d = true := by exact rfl) : Wo P nt (⟨d, some (t, b), op⟩ :: l) A m ls Q :=
  wo_guardB hg hd h1 h2
theorem z1r {id : Nat} {a : IC} {Q : Ex → As → Mem → List LRec → Prop} (h : Wx P nt a A m ls (blockK id Q)) : Wx P nt (.block id a) A m ls Q :=
  wx_block h
theorem z1s {Q : Ex → As → Mem → List LRec → Prop} (h : Q .normal A m ls) : Wx P nt .skip A m ls Q :=
  wx_skip h
theorem z1t {id : Nat} {Q : Ex → As → Mem → List LRec → Prop} (h : Q (.exit id) A m ls) : Wx P nt (.exit id) A m ls Q :=
  wx_exit h
theorem z1u {Q : Ex → As → Mem → List LRec → Prop} (h : Q .ret A m ls) : Wx P nt .ret A m ls Q :=
  wx_ret h
theorem z1v {b : IC} {id : Nat} {Q : Ex → As → Mem → List LRec → Prop} (h : Q (.exit id) A m ls) : thenK P nt b Q (.exit id) A m ls :=
  then_e h
theorem z1w {b : IC} {Q : Ex → As → Mem → List LRec → Prop} (h : Q .ret A m ls) : thenK P nt b Q .ret A m ls :=
  then_r h
theorem z1x {id : Nat} {Q : Ex → As → Mem → List LRec → Prop} (h : Q .normal A m ls) : blockK id Q .normal A m ls :=
  block_n h
theorem z1y {id : Nat} {Q : Ex → As → Mem → List LRec → Prop} (h : Q .ret A m ls) : blockK id Q .ret A m ls :=
  block_r h
theorem z1z {id i : Nat} {Q : Ex → As → Mem → List LRec → Prop} (h : Q .normal A m ls) (e : Nat.beq i id = true := by exact rfl) : blockK id Q (.exit i) A m ls :=
  block_e e h
theorem z20 {id i : Nat} {Q : Ex → As → Mem → List LRec → Prop} (h : Q (.exit i) A m ls) (e : Nat.beq i id = false := by exact rfl) : blockK id Q (.exit i) A m ls :=
  block_o e h
theorem z21 {live : List Bool} {a : IC} {Q : Ex → As → Mem → List LRec → Prop} (h : Wx P nt (.loop live a) A m ls Q) : againK P nt live a Q .normal A m ls :=
  again_n h
theorem z22 {live : List Bool} {a : IC} {id : Nat} {Q : Ex → As → Mem → List LRec → Prop} (h : Q (.exit id) A m ls) : againK P nt live a Q (.exit id) A m ls :=
  again_e h
theorem z23 {live : List Bool} {a : IC} {Q : Ex → As → Mem → List LRec → Prop} (h : Q .ret A m ls) : againK P nt live a Q .ret A m ls :=
  again_r h
theorem z24 {c : Opd} {a b : IC} {Q : Ex → As → Mem → List LRec → Prop} (h : Wx P nt a A m ls Q) (hc : lk A c = some (.bool true) := by exact rfl) : Wx P nt (.cond c a b) A m ls Q :=
  wx_ifT hc h
theorem z25 {c : Opd} {a b : IC} {Q : Ex → As → Mem → List LRec → Prop} (h : Wx P nt b A m ls Q) (hc : lk A c = some (.bool false) := by exact rfl) : Wx P nt (.cond c a b) A m ls Q :=
  wx_ifF hc h
theorem z26 {c : Opd} {a b : IC} {p : Prop} [Decidable p] {Q : Ex → As → Mem → List LRec → Prop} (h1 : Wx P nt a A m ls Q) (hc : lk A c = some (.bool (decide p)) := by exact rfl) (hp : p := by first | omega | assumption) : Wx P nt (.cond c a b) A m ls Q :=
  wx_ifDT hc hp h1
theorem z27 {c : Opd} {a b : IC} {p : Prop} [Decidable p] {Q : Ex → As → Mem → List LRec → Prop} (h1 : Wx P nt b A m ls Q) (hc : lk A c = some (.bool (decide p)) := by exact rfl) (hp : ¬p := by first | omega | assumption) : Wx P nt (.cond c a b) A m ls Q :=
  wx_ifDF hc hp h1
theorem z28 {c : Opd} {a b : IC} {p : Prop} [Decidable p] {Q : Ex → As → Mem → List LRec → Prop} (h1 : p → Wx P nt a A m ls Q) (h2 : ¬p → Wx P nt b A m ls Q) (hc : lk A c = some (.bool (decide p)) := by exact rfl) : Wx P nt (.cond c a b) A m ls Q :=
  wx_ifD hc h1 h2
theorem z29 {c : Opd} {a b : IC} {t : Bool} {Q : Ex → As → Mem → List LRec → Prop} (h1 : t = true → Wx P nt a A m ls Q) (h2 : t = false → Wx P nt b A m ls Q) (hc : lk A c = some (.bool t) := by exact rfl) : Wx P nt (.cond c a b) A m ls Q :=
  wx_if hc h1 h2
theorem z2a {rs : List IRes} {R : MV → Mem → List LRec → Prop} {vs : List MV} (hR : R (one vs) m ls) (h : resA A m rs = some vs := by exact rfl) : endK rs R .normal A m ls :=
  end_n h hR
theorem z2b {rs : List IRes} {R : MV → Mem → List LRec → Prop} {vs : List MV} (hR : R (one vs) m ls) (h : resA A m rs = some vs := by exact rfl) : endK rs R .ret A m ls :=
  end_r h hR

end
end Go.Mini
