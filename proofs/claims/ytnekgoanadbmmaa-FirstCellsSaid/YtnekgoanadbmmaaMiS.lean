/-
Operation by operation, on slots by number. An operand's value is found by 'rfl'; what is asked of numbers is left.
-/
import Derived.Test.YtnekgoanadbmmaaMiR
namespace Go.Mini

section
variable {P : IProg} {nt : Nat} {A : As} {m : Mem} {ls : List LRec} {d : Option Nat} {l : List IOper} {Q : As → Mem → List LRec → Prop}

theorem wo_mv {x : Opd} {v : MV} (hx : lk A x = some v) (hd : okD nt d = true) (hk : Wo P nt l (putA A d v) m ls Q) : Wo P nt (⟨d, none, .mv x⟩ :: l) A m ls Q :=
  wo_op hd (fun _ _ => by simp) (fun T hA => by simp only [evOp0, hA.o hx]) hk

theorem wo_pick {c x y : Opd} {t : Bool} (hc : lk A c = some (.bool t)) (hd : okD nt d = true) (h1 : t = true → ∃ v, lk A x = some v ∧ Wo P nt l (putA A d v) m ls Q) (h2 : t = false → ∃ v, lk A y = some v ∧ Wo P nt l (putA A d v) m ls Q) :
    Wo P nt (⟨d, none, .pick c x y⟩ :: l) A m ls Q := by
  cases t with
  | true => obtain ⟨v, hv, hk⟩ := h1 rfl; exact wo_op hd (fun _ _ => by simp) (fun T hA => by simp only [evOp0, hA.o hc, hA.o hv]) hk
  | false => obtain ⟨v, hv, hk⟩ := h2 rfl; exact wo_op hd (fun _ _ => by simp) (fun T hA => by simp only [evOp0, hA.o hc, hA.o hv]) hk

theorem wo_pickT {c x y : Opd} {v : MV} (hc : lk A c = some (.bool true)) (hd : okD nt d = true) (hx : lk A x = some v) (hk : Wo P nt l (putA A d v) m ls Q) : Wo P nt (⟨d, none, .pick c x y⟩ :: l) A m ls Q :=
  wo_op hd (fun _ _ => by simp) (fun T hA => by simp only [evOp0, hA.o hc, hA.o hx]) hk
theorem wo_pickF {c x y : Opd} {v : MV} (hc : lk A c = some (.bool false)) (hd : okD nt d = true) (hx : lk A y = some v) (hk : Wo P nt l (putA A d v) m ls Q) : Wo P nt (⟨d, none, .pick c x y⟩ :: l) A m ls Q :=
  wo_op hd (fun _ _ => by simp) (fun T hA => by simp only [evOp0, hA.o hc, hA.o hx]) hk

theorem wo_alloc {z : List MV} (hd : okD nt d = true) (hk : Wo P nt l (putA A d (.ptr m.length 0 0)) (m ++ [⟨z, 0, deepVs z⟩]) ls Q) : Wo P nt (⟨d, none, .alloc z⟩ :: l) A m ls Q :=
  wo_op hd (fun _ _ => by simp) (fun T hA => by simp only [evOp0]) hk

theorem wo_alloci {z : List MV} (hz : deepVs z = true) (hd : okD nt d = true) (hk : Wo P nt l (putA A d (.pimm z 0)) m ls Q) : Wo P nt (⟨d, none, .alloci z⟩ :: l) A m ls Q :=
  wo_op hd (fun _ _ => by simp) (fun T hA => by simp only [evOp0, hz, if_true]) hk

theorem wo_box {x : Opd} {v : MV} {cs : List MV} (hx : lk A x = some v) (hc : cellsOf v = some cs) (hd : okD nt d = true) (hk : Wo P nt l (putA A d (.ptr m.length 0 0)) (m ++ [⟨cs, 0, deepVs cs⟩]) ls Q) : Wo P nt (⟨d, none, .box x⟩ :: l) A m ls Q :=
  wo_op hd (fun _ _ => by simp) (fun T hA => by simp only [evOp0, hA.o hx, hc]) hk

theorem wo_boxi {x : Opd} {v : MV} {cs : List MV} (hx : lk A x = some v) (hc : cellsOf v = some cs) (hdp : deepVs cs = true) (hd : okD nt d = true) (hk : Wo P nt l (putA A d (.pimm cs 0)) m ls Q) : Wo P nt (⟨d, none, .boxi x⟩ :: l) A m ls Q :=
  wo_op hd (fun _ _ => by simp) (fun T hA => by simp only [evOp0, hA.o hx, hc, hdp, if_true]) hk

/-- A struct's parts, laid one by one. -/
def fillA (A : As) : List MV → List (Nat × Nat × Opd) → Option (List MV)
  | z, [] => some z
  | z, (off, sz, x) :: rest =>
    match lk A x with
    | none => none
    | some v => match cellsOf v with
      | none => none
      | some cs => bif Nat.beq cs.length sz && Nat.ble (off + sz) z.length then fillA A (setAt z off cs) rest else none

theorem fillA_ok {T : List MV} (hA : Rep A T) : ∀ {ps : List (Nat × Nat × Opd)} {z cs : List MV}, fillA A z ps = some cs → fillM T z ps = some cs
  | [], _, _, h => by simpa [fillA, fillM] using h
  | (off, sz, x) :: rest, z, cs, h => by
    simp only [fillA] at h
    split at h
    · cases h
    · rename_i v hv
      split at h
      · cases h
      · rename_i c hc
        cases e : Nat.beq c.length sz && Nat.ble (off + sz) z.length with
        | false => rw [e] at h; cases h
        | true =>
          rw [e] at h
          simp only [Bool.and_eq_true] at e
          have h1 := Nat.eq_of_beq_eq_true e.1
          have h2 := Nat.le_of_ble_eq_true e.2
          simp only [fillM, hA.o hv, hc, h1, h2, and_self, if_true]
          exact fillA_ok hA h

theorem wo_build {z cs : List MV} {ps : List (Nat × Nat × Opd)} (hf : fillA A z ps = some cs) (hd : okD nt d = true) (hk : Wo P nt l (putA A d (.agg cs)) m ls Q) : Wo P nt (⟨d, none, .build z ps⟩ :: l) A m ls Q :=
  wo_op hd (fun _ _ => by simp) (fun T hA => by simp only [evOp0, fillA_ok hA hf, Option.map_some]) hk

theorem wo_blit {n : Nat} {z cs : List MV} {ps : List (Nat × Nat × Opd)} (hf : fillA A z ps = some cs) (hdp : deepVs cs = true) (hd : okD nt d = true) (hk : Wo P nt l (putA A d (.lit cs n (some n))) m ls Q) : Wo P nt (⟨d, none, .blit n z ps⟩ :: l) A m ls Q :=
  wo_op hd (fun _ _ => by simp) (fun T hA => by simp only [evOp0, fillA_ok hA hf, hdp, if_true]) hk

theorem wo_blitm {n sz : Nat} {z cs : List MV} {ps : List (Nat × Nat × Opd)} (hf : fillA A z ps = some cs) (hl : cs.length = n * sz) (hd : okD nt d = true) (hk : Wo P nt l (putA A d (.sl m.length 0 0 n sz (some n))) (m ++ [⟨cs, 0, deepVs cs⟩]) ls Q) : Wo P nt (⟨d, none, .blitm n sz z ps⟩ :: l) A m ls Q :=
  wo_op hd (fun _ _ => by simp) (fun T hA => by simp only [evOp0, fillA_ok hA hf, hl, if_true]) hk

/-- A load from what nobody writes. -/
theorem wo_loadp {n : Option Nat} {a : Opd} {cs : List MV} {off : Nat} {v : MV} (ha : lk A a = some (.pimm cs off)) (hv : loadFrom cs off n = some v) (hd : okD nt d = true) (hk : Wo P nt l (putA A d v) m ls Q) : Wo P nt (⟨d, none, .load n a⟩ :: l) A m ls Q :=
  wo_op hd (fun _ _ => by simp) (fun T hA => by simp only [evOp0, hA.o ha, loadV, hv, Option.map_some]) hk
theorem wo_loadi {n : Option Nat} {a : Opd} {cs : List MV} {off : Nat} {v : MV} (ha : lk A a = some (.pimm cs off)) (hv : loadFrom cs off n = some v) (hd : okD nt d = true) (hk : Wo P nt l (putA A d v) m ls Q) : Wo P nt (⟨d, none, .loadi n a⟩ :: l) A m ls Q :=
  wo_op hd (fun _ _ => by simp) (fun T hA => by simp only [evOp0, hA.o ha, hv, Option.map_some]) hk

theorem blk_of {b g : Nat} {k : Blk} (hk : m[b]? = some k) (hg : k.gen = g) : blk? m b g = some k := by simp [blk?, hk, hg]

theorem wo_load {n : Option Nat} {a : Opd} {b g off : Nat} {k : Blk} {v : MV} (ha : lk A a = some (.ptr b g off)) (hb : m[b]? = some k) (hg : k.gen = g) (hv : loadFrom k.cells off n = some v) (hd : okD nt d = true) (hk : Wo P nt l (putA A d v) m ls Q) : Wo P nt (⟨d, none, .load n a⟩ :: l) A m ls Q :=
  wo_op hd (fun _ _ => by simp) (fun T hA => by simp only [evOp0, hA.o ha, loadV, blk_of hb hg, hv, Option.map_some]) hk

theorem wo_store {n : Nat} {a x : Opd} {b g off : Nat} {k : Blk} {v : MV} {cs : List MV} (ha : lk A a = some (.ptr b g off)) (hx : lk A x = some v) (hc : cellsOf v = some cs) (hb : m[b]? = some k) (hg : k.gen = g) (hn : cs.length = n) (hle : off + n ≤ k.cells.length) (hd : okD nt d = true)
    (hk : Wo P nt l (putA A d (.tup [])) (m.set b ⟨setAt k.cells off cs, k.gen, k.deep && deepVs cs⟩) ls Q) : Wo P nt (⟨d, none, .store n a x⟩ :: l) A m ls Q :=
  wo_op hd (fun _ _ => by simp) (fun T hA => by simp only [evOp0, hA.o ha, hA.o hx, storeV, blk_of hb hg, hc]; rw [if_pos ⟨hn, hle⟩]; rfl) hk

theorem wo_nchkp {x : Opd} {b g o : Nat} (hx : lk A x = some (.ptr b g o)) (hd : okD nt d = true) (hk : Wo P nt l (putA A d (.ptr b g o)) m ls Q) : Wo P nt (⟨d, none, .nchk x⟩ :: l) A m ls Q :=
  wo_op hd (fun _ _ => by simp) (fun T hA => by simp only [evOp0, hA.o hx]) hk
theorem wo_nchki {x : Opd} {cs : List MV} {o : Nat} (hx : lk A x = some (.pimm cs o)) (hd : okD nt d = true) (hk : Wo P nt l (putA A d (.pimm cs o)) m ls Q) : Wo P nt (⟨d, none, .nchk x⟩ :: l) A m ls Q :=
  wo_op hd (fun _ _ => by simp) (fun T hA => by simp only [evOp0, hA.o hx]) hk
theorem wo_nchkf {x : Opd} {f : Nat} {a b : List MV} (hx : lk A x = some (.fn f a b)) (hd : okD nt d = true) (hk : Wo P nt l (putA A d (.fn f a b)) m ls Q) : Wo P nt (⟨d, none, .nchk x⟩ :: l) A m ls Q :=
  wo_op hd (fun _ _ => by simp) (fun T hA => by simp only [evOp0, hA.o hx]) hk
theorem wo_nchky {x : Opd} {j : Nat} (hx : lk A x = some (.yld j)) (hd : okD nt d = true) (hk : Wo P nt l (putA A d (.yld j)) m ls Q) : Wo P nt (⟨d, none, .nchk x⟩ :: l) A m ls Q :=
  wo_op hd (fun _ _ => by simp) (fun T hA => by simp only [evOp0, hA.o hx]) hk

/-! Numbers -/
theorem wo_bin {op : BinOp} {x y : Opd} {u v r : MV} (hx : lk A x = some u) (hy : lk A y = some v) (h : binM op u v = some r) (hd : okD nt d = true) (hk : Wo P nt l (putA A d r) m ls Q) : Wo P nt (⟨d, none, .bin op x y⟩ :: l) A m ls Q :=
  wo_op hd (fun _ _ => by simp) (fun T hA => by simp only [evOp0, hA.o hx, hA.o hy, h, Option.map_some]) hk

section bin
variable {x y : Opd} {k j : IntKind} {a b : Int}

theorem wo_add {r : Int} (hx : lk A x = some (.int k a)) (hy : lk A y = some (.int k b)) (hr : k.wrap (a + b) = r) (hd : okD nt d = true) (hk : Wo P nt l (putA A d (.int k r)) m ls Q) : Wo P nt (⟨d, none, .bin .add x y⟩ :: l) A m ls Q :=
  wo_bin hx hy (by subst hr; simp [binM, isShift, binI]) hd hk
theorem wo_sub {r : Int} (hx : lk A x = some (.int k a)) (hy : lk A y = some (.int k b)) (hr : k.wrap (a - b) = r) (hd : okD nt d = true) (hk : Wo P nt l (putA A d (.int k r)) m ls Q) : Wo P nt (⟨d, none, .bin .sub x y⟩ :: l) A m ls Q :=
  wo_bin hx hy (by subst hr; simp [binM, isShift, binI]) hd hk
theorem wo_mul {r : Int} (hx : lk A x = some (.int k a)) (hy : lk A y = some (.int k b)) (hr : k.wrap (a * b) = r) (hd : okD nt d = true) (hk : Wo P nt l (putA A d (.int k r)) m ls Q) : Wo P nt (⟨d, none, .bin .mul x y⟩ :: l) A m ls Q :=
  wo_bin hx hy (by subst hr; simp [binM, isShift, binI]) hd hk
theorem wo_quo {r : Int} (hx : lk A x = some (.int k a)) (hy : lk A y = some (.int k b)) (h0 : b ≠ 0) (hr : k.wrap (a.tdiv b) = r) (hd : okD nt d = true) (hk : Wo P nt l (putA A d (.int k r)) m ls Q) : Wo P nt (⟨d, none, .bin .quo x y⟩ :: l) A m ls Q :=
  wo_bin hx hy (by subst hr; simp [binM, isShift, binI, h0]) hd hk
theorem wo_rem (hx : lk A x = some (.int k a)) (hy : lk A y = some (.int k b)) (h0 : b ≠ 0) (hd : okD nt d = true) (hk : Wo P nt l (putA A d (.int k (a.tmod b))) m ls Q) : Wo P nt (⟨d, none, .bin .rem x y⟩ :: l) A m ls Q :=
  wo_bin hx hy (by simp [binM, isShift, binI, h0]) hd hk
theorem wo_lss (hx : lk A x = some (.int k a)) (hy : lk A y = some (.int k b)) (hd : okD nt d = true) (hk : Wo P nt l (putA A d (.bool (decide (a < b)))) m ls Q) : Wo P nt (⟨d, none, .bin .lss x y⟩ :: l) A m ls Q :=
  wo_bin hx hy (by simp [binM, isShift, binI]) hd hk
theorem wo_leq (hx : lk A x = some (.int k a)) (hy : lk A y = some (.int k b)) (hd : okD nt d = true) (hk : Wo P nt l (putA A d (.bool (decide (a ≤ b)))) m ls Q) : Wo P nt (⟨d, none, .bin .leq x y⟩ :: l) A m ls Q :=
  wo_bin hx hy (by simp [binM, isShift, binI]) hd hk
theorem wo_gtr (hx : lk A x = some (.int k a)) (hy : lk A y = some (.int k b)) (hd : okD nt d = true) (hk : Wo P nt l (putA A d (.bool (decide (b < a)))) m ls Q) : Wo P nt (⟨d, none, .bin .gtr x y⟩ :: l) A m ls Q :=
  wo_bin hx hy (by simp [binM, isShift, binI]) hd hk
theorem wo_geq (hx : lk A x = some (.int k a)) (hy : lk A y = some (.int k b)) (hd : okD nt d = true) (hk : Wo P nt l (putA A d (.bool (decide (b ≤ a)))) m ls Q) : Wo P nt (⟨d, none, .bin .geq x y⟩ :: l) A m ls Q :=
  wo_bin hx hy (by simp [binM, isShift, binI]) hd hk
theorem wo_eql (hx : lk A x = some (.int k a)) (hy : lk A y = some (.int k b)) (hd : okD nt d = true) (hk : Wo P nt l (putA A d (.bool (decide (a = b)))) m ls Q) : Wo P nt (⟨d, none, .bin .eql x y⟩ :: l) A m ls Q :=
  wo_bin hx hy (by simp [binM, isShift, binI]; rfl) hd hk
theorem wo_neq (hx : lk A x = some (.int k a)) (hy : lk A y = some (.int k b)) (hd : okD nt d = true) (hk : Wo P nt l (putA A d (.bool (decide (a ≠ b)))) m ls Q) : Wo P nt (⟨d, none, .bin .neq x y⟩ :: l) A m ls Q :=
  wo_bin hx hy (by simp [binM, isShift, binI, bne]; rfl) hd hk
theorem wo_shr (hx : lk A x = some (.int k a)) (hy : lk A y = some (.int j b)) (h0 : 0 ≤ b) {r : Int} (hr : a.fdiv (2 ^ min b.toNat k.bits) = r) (hd : okD nt d = true) (hk : Wo P nt l (putA A d (.int k r)) m ls Q) : Wo P nt (⟨d, none, .bin .shr x y⟩ :: l) A m ls Q :=
  wo_bin hx hy (by subst hr; simp [binM, isShift, shiftI]; omega) hd hk
theorem wo_shl (hx : lk A x = some (.int k a)) (hy : lk A y = some (.int j b)) (h0 : 0 ≤ b) {r : Int} (hr : k.wrap (a * 2 ^ min b.toNat k.bits) = r) (hd : okD nt d = true) (hk : Wo P nt l (putA A d (.int k r)) m ls Q) : Wo P nt (⟨d, none, .bin .shl x y⟩ :: l) A m ls Q :=
  wo_bin hx hy (by subst hr; simp [binM, isShift, shiftI]; omega) hd hk
theorem wo_mx (hx : lk A x = some (.int k a)) (hy : lk A y = some (.int j b)) (hd : okD nt d = true) (hk : Wo P nt l (putA A d (.int k (max a b))) m ls Q) : Wo P nt (⟨d, none, .mx x y⟩ :: l) A m ls Q :=
  wo_op hd (fun _ _ => by simp) (fun T hA => by simp only [evOp0, hA.o hx, hA.o hy]; congr 3; simp only [Int.max_def]; split <;> split <;> omega) hk
theorem wo_mn (hx : lk A x = some (.int k a)) (hy : lk A y = some (.int j b)) (hd : okD nt d = true) (hk : Wo P nt l (putA A d (.int k (min a b))) m ls Q) : Wo P nt (⟨d, none, .mn x y⟩ :: l) A m ls Q :=
  wo_op hd (fun _ _ => by simp) (fun T hA => by simp only [evOp0, hA.o hx, hA.o hy]; congr 3; simp only [Int.min_def]; split <;> split <;> omega) hk
theorem wo_neg {r : Int} (hx : lk A x = some (.int k a)) (hr : k.wrap (0 - a) = r) (hd : okD nt d = true) (hk : Wo P nt l (putA A d (.int k r)) m ls Q) : Wo P nt (⟨d, none, .un .neg x⟩ :: l) A m ls Q :=
  wo_op hd (fun _ _ => by simp) (fun T hA => by subst hr; simp only [evOp0, hA.o hx, unM, Option.map_some]) hk
theorem wo_not {t : Bool} (hx : lk A x = some (.bool t)) (hd : okD nt d = true) (hk : Wo P nt l (putA A d (.bool (!t))) m ls Q) : Wo P nt (⟨d, none, .un .not x⟩ :: l) A m ls Q :=
  wo_op hd (fun _ _ => by simp) (fun T hA => by simp only [evOp0, hA.o hx, unM, Option.map_some]) hk
theorem wo_conv {r : Int} (hx : lk A x = some (.int j a)) (hr : k.wrap a = r) (hd : okD nt d = true) (hk : Wo P nt l (putA A d (.int k r)) m ls Q) : Wo P nt (⟨d, none, .conv k x⟩ :: l) A m ls Q :=
  wo_op hd (fun _ _ => by simp) (fun T hA => by subst hr; simp only [evOp0, hA.o hx]) hk
theorem wo_convs {s : ByteArray} (hx : lk A x = some (.str s)) (hd : okD nt d = true) (hk : Wo P nt l (putA A d (.str s)) m ls Q) : Wo P nt (⟨d, none, .convs x⟩ :: l) A m ls Q :=
  wo_op hd (fun _ _ => by simp) (fun T hA => by simp only [evOp0, hA.o hx]) hk
theorem wo_eqb {neg s t : Bool} (hx : lk A x = some (.bool s)) (hy : lk A y = some (.bool t)) (hd : okD nt d = true) (hk : Wo P nt l (putA A d (.bool ((s == t) != neg))) m ls Q) : Wo P nt (⟨d, none, .eqb neg x y⟩ :: l) A m ls Q :=
  wo_op hd (fun _ _ => by simp) (fun T hA => by simp only [evOp0, hA.o hx, hA.o hy]) hk
theorem wo_eqn {n : Nat} {neg t : Bool} {u v : MV} (hx : lk A x = some u) (hy : lk A y = some v) (ht : eqNil n u v = some t) (hd : okD nt d = true) (hk : Wo P nt l (putA A d (.bool (t != neg))) m ls Q) : Wo P nt (⟨d, none, .eqn n neg x y⟩ :: l) A m ls Q :=
  wo_op hd (fun _ _ => by simp) (fun T hA => by simp only [evOp0, hA.o hx, hA.o hy, ht, Option.map_some]) hk
theorem wo_eqa {ks : List Nat} {neg t : Bool} {u v : List MV} (hx : lk A x = some (.agg u)) (hy : lk A y = some (.agg v)) (ht : eqCells ks u v = some t) (hd : okD nt d = true) (hk : Wo P nt l (putA A d (.bool (t != neg))) m ls Q) : Wo P nt (⟨d, none, .eqa ks neg x y⟩ :: l) A m ls Q :=
  wo_op hd (fun _ _ => by simp) (fun T hA => by simp only [evOp0, hA.o hx, hA.o hy, ht, Option.map_some]) hk
end bin

theorem getOs_ok {T : List MV} (hA : Rep A T) : ∀ {ys : List Opd} {vs : List MV}, ys.mapM (lk A) = some vs → ys.map (getO T) = vs := by
  intro ys
  induction ys with
  | nil => intro vs h; simp at h; simp [h]
  | cons y ys ih =>
    intro vs h
    simp only [List.mapM_cons, Option.bind_eq_bind, Option.bind_eq_some_iff, Option.pure_def, Option.some.injEq] at h
    obtain ⟨u, hu, us, hus, rfl⟩ := h
    simp [hA.o hu, ih hus]

theorem wo_mkfn {f : Nat} {a b : List Opd} {u v : List MV} (ha : a.mapM (lk A) = some u) (hb : b.mapM (lk A) = some v) (hd : okD nt d = true) (hk : Wo P nt l (putA A d (.fn f u v)) m ls Q) : Wo P nt (⟨d, none, .mkfn f a b⟩ :: l) A m ls Q :=
  wo_op hd (fun _ _ => by simp) (fun T hA => by simp only [evOp0, getOs_ok hA ha, getOs_ok hA hb]) hk

theorem wo_extr {i : Nat} {x : Opd} {vs : List MV} {v : MV} (hx : lk A x = some (.tup vs)) (hv : vs[i]? = some v) (hd : okD nt d = true) (hk : Wo P nt l (putA A d v) m ls Q) : Wo P nt (⟨d, none, .extr i x⟩ :: l) A m ls Q :=
  wo_op hd (fun _ _ => by simp) (fun T hA => by simp only [evOp0, hA.o hx, hv, Option.map_some]) hk

theorem wo_len {x : Opd} {v : MV} {n : Nat} (hx : lk A x = some v) (hn : lenM v = some n) (hd : okD nt d = true) (hk : Wo P nt l (putA A d (.int .i64 (n : Int))) m ls Q) : Wo P nt (⟨d, none, .len x⟩ :: l) A m ls Q :=
  wo_op hd (fun _ _ => by simp) (fun T hA => by simp only [evOp0, hA.o hx, hn, Option.map_some]) hk
theorem wo_lens {x : Opd} {s : ByteArray} (hx : lk A x = some (.str s)) (hd : okD nt d = true) (hk : Wo P nt l (putA A d (.int .i64 (s.size : Int))) m ls Q) : Wo P nt (⟨d, none, .lens x⟩ :: l) A m ls Q :=
  wo_op hd (fun _ _ => by simp) (fun T hA => by simp only [evOp0, hA.o hx]) hk
theorem wo_lenc {n : Nat} (hd : okD nt d = true) (hk : Wo P nt l (putA A d (.int .i64 (n : Int))) m ls Q) : Wo P nt (⟨d, none, .lenc n⟩ :: l) A m ls Q :=
  wo_op hd (fun _ _ => by simp) (fun T hA => by simp only [evOp0]) hk

/-! Addresses, parts -/
theorem wo_faddrp {o o' : Nat} {x : Opd} {b g off : Nat} (hx : lk A x = some (.ptr b g off)) (ho : off + o = o') (hd : okD nt d = true) (hk : Wo P nt l (putA A d (.ptr b g o')) m ls Q) : Wo P nt (⟨d, none, .faddr o x⟩ :: l) A m ls Q :=
  wo_op hd (fun _ _ => by simp) (fun T hA => by subst ho; simp only [evOp0, hA.o hx]) hk
theorem wo_faddri {o o' : Nat} {x : Opd} {cs : List MV} {off : Nat} (hx : lk A x = some (.pimm cs off)) (ho : off + o = o') (hd : okD nt d = true) (hk : Wo P nt l (putA A d (.pimm cs o')) m ls Q) : Wo P nt (⟨d, none, .faddr o x⟩ :: l) A m ls Q :=
  wo_op hd (fun _ _ => by simp) (fun T hA => by subst ho; simp only [evOp0, hA.o hx]) hk
theorem wo_fld {o : Nat} {n : Option Nat} {x : Opd} {cs : List MV} {v : MV} (hx : lk A x = some (.agg cs)) (hv : loadFrom cs o n = some v) (hd : okD nt d = true) (hk : Wo P nt l (putA A d v) m ls Q) : Wo P nt (⟨d, none, .fld o n x⟩ :: l) A m ls Q :=
  wo_op hd (fun _ _ => by simp) (fun T hA => by simp only [evOp0, hA.o hx, partM, hv, Option.map_some]) hk

theorem nat_of {k : IntKind} {i : Int} (h : 0 ≤ i) : natOf (.int k i) = some i.toNat := by simp [natOf, h]

theorem wo_iaddrs {sz : Nat} {x i : Opd} {b g off n : Nat} {kc : Option Nat} {k : IntKind} {a : Int} {o' : Nat} (hx : lk A x = some (.sl b g off n sz kc)) (hi : lk A i = some (.int k a)) (h0 : 0 ≤ a) (h1 : a.toNat < n) (ho : off + a.toNat * sz = o') (hd : okD nt d = true)
    (hk : Wo P nt l (putA A d (.ptr b g o')) m ls Q) : Wo P nt (⟨d, none, .iaddr sz x i⟩ :: l) A m ls Q :=
  wo_op hd (fun _ _ => by simp) (fun T hA => by subst ho; simp [evOp0, hA.o hx, hA.o hi, nat_of h0, h1]) hk
theorem wo_iaddrl {sz : Nat} {x i : Opd} {cs : List MV} {n : Nat} {kc : Option Nat} {k : IntKind} {a : Int} {o' : Nat} (hx : lk A x = some (.lit cs n kc)) (hi : lk A i = some (.int k a)) (h0 : 0 ≤ a) (h1 : a.toNat < n) (ho : a.toNat * sz + 0 = o') (hd : okD nt d = true)
    (hk : Wo P nt l (putA A d (.pimm cs o')) m ls Q) : Wo P nt (⟨d, none, .iaddr sz x i⟩ :: l) A m ls Q :=
  wo_op hd (fun _ _ => by simp) (fun T hA => by subst ho; simp [evOp0, hA.o hx, hA.o hi, nat_of h0, h1]) hk
theorem wo_iaddrap {n sz : Nat} {x i : Opd} {b g off : Nat} {k : IntKind} {a : Int} {o' : Nat} (hx : lk A x = some (.ptr b g off)) (hi : lk A i = some (.int k a)) (h0 : 0 ≤ a) (h1 : a.toNat < n) (ho : off + a.toNat * sz = o') (hd : okD nt d = true)
    (hk : Wo P nt l (putA A d (.ptr b g o')) m ls Q) : Wo P nt (⟨d, none, .iaddra n sz x i⟩ :: l) A m ls Q :=
  wo_op hd (fun _ _ => by simp) (fun T hA => by subst ho; simp [evOp0, hA.o hx, hA.o hi, nat_of h0, h1]) hk
theorem wo_iaddrai {n sz : Nat} {x i : Opd} {cs : List MV} {off : Nat} {k : IntKind} {a : Int} {o' : Nat} (hx : lk A x = some (.pimm cs off)) (hi : lk A i = some (.int k a)) (h0 : 0 ≤ a) (h1 : a.toNat < n) (ho : off + a.toNat * sz = o') (hd : okD nt d = true)
    (hk : Wo P nt l (putA A d (.pimm cs o')) m ls Q) : Wo P nt (⟨d, none, .iaddra n sz x i⟩ :: l) A m ls Q :=
  wo_op hd (fun _ _ => by simp) (fun T hA => by subst ho; simp [evOp0, hA.o hx, hA.o hi, nat_of h0, h1]) hk
theorem wo_idx {n sz : Nat} {ag : Bool} {x i : Opd} {cs : List MV} {k : IntKind} {a : Int} {v : MV} (hx : lk A x = some (.agg cs)) (hi : lk A i = some (.int k a)) (h0 : 0 ≤ a) (h1 : a.toNat < n) (hv : loadFrom cs (a.toNat * sz) (if ag = true then some sz else none) = some v) (hd : okD nt d = true)
    (hk : Wo P nt l (putA A d v) m ls Q) : Wo P nt (⟨d, none, .idx n sz ag x i⟩ :: l) A m ls Q :=
  wo_op hd (fun _ _ => by simp) (fun T hA => by simp [evOp0, hA.o hx, hA.o hi, nat_of h0, h1, partM, hv]) hk
theorem wo_idxs {x i : Opd} {s : ByteArray} {k : IntKind} {a : Int} {v : UInt8} (hx : lk A x = some (.str s)) (hi : lk A i = some (.int k a)) (h0 : 0 ≤ a) (hv : s[a.toNat]? = some v) (hd : okD nt d = true)
    (hk : Wo P nt l (putA A d (.int .u8 v.toNat)) m ls Q) : Wo P nt (⟨d, none, .idxs x i⟩ :: l) A m ls Q :=
  wo_op hd (fun _ _ => by simp) (fun T hA => by simp only [evOp0, hA.o hx, hA.o hi, nat_of h0, hv]) hk

/-! Slices -/
/-- A bound: said, or not. -/
def bdA (A : As) : Option Opd → Nat → Option Int
  | none, n => some (n : Int)
  | some x, _ => match lk A x with
    | some (.int _ a) => some a
    | _ => none

theorem bdA_ok {T : List MV} (hA : Rep A T) {o : Opd} {n : Nat} {a : Int} (h : bdA A (some o) n = some a) (h0 : 0 ≤ a) : natOf (getO T o) = some a.toNat := by
  simp only [bdA] at h
  split at h
  · rename_i k c hc; simp at h; subst h; rw [hA.o hc]; exact nat_of h0
  · cases h

theorem bnd_ok {T : List MV} (hA : Rep A T) {lo hi : Option Opd} {n : Nat} {a b : Int} (hl : bdA A lo 0 = some a) (hh : bdA A hi n = some b) (h0 : 0 ≤ a) (h1 : a ≤ b) (h2 : b ≤ n) : bndM T lo hi none n = some (a.toNat, b.toNat, none) := by
  cases lo with
  | none =>
    simp only [bdA, Option.some.injEq] at hl
    subst hl
    cases hi with
    | none => simp only [bdA, Option.some.injEq] at hh; subst hh; simp [bndM, mxOk]
    | some o => simp [bndM, bdA_ok hA hh (by omega), mxOk]; omega
  | some p =>
    cases hi with
    | none => simp only [bdA, Option.some.injEq] at hh; subst hh; simp [bndM, bdA_ok hA hl h0, mxOk]; omega
    | some o => simp [bndM, bdA_ok hA hl h0, bdA_ok hA hh (by omega), mxOk]; omega

theorem bnd_ok3 {T : List MV} (hA : Rep A T) {lo hi : Option Opd} {mx : Opd} {n : Nat} {a b c : Int} (hl : bdA A lo 0 = some a) (hh : bdA A hi n = some b) (hm : bdA A (some mx) 0 = some c) (h0 : 0 ≤ a) (h1 : a ≤ b) (h2 : b ≤ c) (h3 : c ≤ n) (his : hi.isSome = true) :
    bndM T lo hi (some mx) n = some (a.toNat, b.toNat, some c.toNat) := by
  have e3 := bdA_ok hA hm (by omega)
  cases hi with
  | none => cases his
  | some o =>
    cases lo with
    | none =>
      simp only [bdA, Option.some.injEq] at hl
      subst hl
      simp [bndM, bdA_ok hA hh (by omega), e3, mxOk]; omega
    | some p => simp [bndM, bdA_ok hA hl h0, bdA_ok hA hh (by omega), e3, mxOk]; omega

/-- A slice that nobody writes, cut. -/
theorem wo_slicel {sz : Nat} {x : Opd} {lo hi : Option Opd} {cs : List MV} {n : Nat} {kc : Option Nat} {a b : Int} (hx : lk A x = some (.lit cs n kc)) (hl : bdA A lo 0 = some a) (hh : bdA A hi n = some b) (h0 : 0 ≤ a) (h1 : a ≤ b) (h2 : b ≤ n) (hc : cs.length = n * sz) (hd : okD nt d = true)
    (hk : Wo P nt l (putA A d (.lit ((cs.drop (a.toNat * sz)).take ((b.toNat - a.toNat) * sz)) (b.toNat - a.toNat) (kc.map (· - a.toNat)))) m ls Q) : Wo P nt (⟨d, none, .slice sz x lo hi none⟩ :: l) A m ls Q :=
  wo_op hd (fun _ _ => by simp) (fun T hA => by simp only [evOp0, hA.o hx, lenM, bnd_ok hA hl hh h0 h1 h2, sliceM, hc, if_true, capOf, Option.map_some]) hk
theorem wo_slicel3 {sz : Nat} {x mx : Opd} {lo hi : Option Opd} {cs : List MV} {n : Nat} {kc : Option Nat} {a b c : Int} (hx : lk A x = some (.lit cs n kc)) (hl : bdA A lo 0 = some a) (hh : bdA A hi n = some b) (hm : bdA A (some mx) 0 = some c) (h0 : 0 ≤ a) (h1 : a ≤ b) (h2 : b ≤ c) (h3 : c ≤ n) (his : hi.isSome = true) (hc : cs.length = n * sz) (hd : okD nt d = true)
    (hk : Wo P nt l (putA A d (.lit ((cs.drop (a.toNat * sz)).take ((b.toNat - a.toNat) * sz)) (b.toNat - a.toNat) (some (c.toNat - a.toNat)))) m ls Q) : Wo P nt (⟨d, none, .slice sz x lo hi (some mx)⟩ :: l) A m ls Q :=
  wo_op hd (fun _ _ => by simp) (fun T hA => by simp only [evOp0, hA.o hx, lenM, bnd_ok3 hA hl hh hm h0 h1 h2 h3 his, sliceM, hc, if_true, capOf, Option.map_some]) hk
theorem wo_slicen {sz : Nat} {x : Opd} {lo hi : Option Opd} {a b : Int} (hx : lk A x = some .nils) (hl : bdA A lo 0 = some a) (hh : bdA A hi 0 = some b) (h0 : 0 ≤ a) (h1 : a ≤ b) (h2 : b ≤ (0 : Nat)) (hd : okD nt d = true)
    (hk : Wo P nt l (putA A d .nils) m ls Q) : Wo P nt (⟨d, none, .slice sz x lo hi none⟩ :: l) A m ls Q :=
  wo_op hd (fun _ _ => by simp) (fun T hA => by simp only [evOp0, hA.o hx, lenM, bnd_ok hA hl hh h0 h1 h2, sliceM, Option.map_some]) hk
theorem wo_slicen3 {sz : Nat} {x mx : Opd} {lo hi : Option Opd} {a b c : Int} (hx : lk A x = some .nils) (hl : bdA A lo 0 = some a) (hh : bdA A hi 0 = some b) (hm : bdA A (some mx) 0 = some c) (h0 : 0 ≤ a) (h1 : a ≤ b) (h2 : b ≤ c) (h3 : c ≤ (0 : Nat)) (his : hi.isSome = true) (hd : okD nt d = true)
    (hk : Wo P nt l (putA A d .nils) m ls Q) : Wo P nt (⟨d, none, .slice sz x lo hi (some mx)⟩ :: l) A m ls Q :=
  wo_op hd (fun _ _ => by simp) (fun T hA => by simp only [evOp0, hA.o hx, lenM, bnd_ok3 hA hl hh hm h0 h1 h2 h3 his, sliceM, Option.map_some]) hk
theorem wo_slices {sz : Nat} {x : Opd} {lo hi : Option Opd} {b g off n : Nat} {kc : Option Nat} {a c : Int} (hx : lk A x = some (.sl b g off n sz kc)) (hl : bdA A lo 0 = some a) (hh : bdA A hi n = some c) (h0 : 0 ≤ a) (h1 : a ≤ c) (h2 : c ≤ n) (h3 : a = 0 ∨ a < c) (hd : okD nt d = true)
    (hk : Wo P nt l (putA A d (.sl b g (off + a.toNat * sz) (c.toNat - a.toNat) sz (kc.map (· - a.toNat)))) m ls Q) : Wo P nt (⟨d, none, .slice sz x lo hi none⟩ :: l) A m ls Q := by
  refine wo_op hd (fun _ _ => by simp) (fun T hA => ?_) hk
  simp only [evOp0, hA.o hx, lenM, bnd_ok hA hl hh h0 h1 h2, sliceM, if_true, capOf]
  by_cases e : a.toNat = 0
  · simp [e]
  · rw [if_neg e, if_pos (by omega)]; rfl

theorem wo_slstr {x : Opd} {lo hi : Option Opd} {s : ByteArray} {a b : Int} (hx : lk A x = some (.str s)) (hl : bdA A lo 0 = some a) (hh : bdA A hi s.size = some b) (h0 : 0 ≤ a) (h1 : a ≤ b) (h2 : b ≤ s.size) (hd : okD nt d = true)
    (hk : Wo P nt l (putA A d (.str (s.extract a.toNat b.toNat))) m ls Q) : Wo P nt (⟨d, none, .slstr x lo hi⟩ :: l) A m ls Q :=
  wo_op hd (fun _ _ => by simp) (fun T hA => by simp only [evOp0, hA.o hx, bnd_ok hA hl hh h0 h1 h2]) hk

theorem wo_slarri {n sz : Nat} {x : Opd} {lo hi : Option Opd} {cs cs' : List MV} {off : Nat} {a b : Int} (hx : lk A x = some (.pimm cs off)) (hl : bdA A lo 0 = some a) (hh : bdA A hi n = some b) (h0 : 0 ≤ a) (h1 : a ≤ b) (h2 : b ≤ n) (ht : takeAt cs off (n * sz) = some cs') (hd : okD nt d = true)
    (hk : Wo P nt l (putA A d (.lit ((cs'.drop (a.toNat * sz)).take ((b.toNat - a.toNat) * sz)) (b.toNat - a.toNat) (some (n - a.toNat)))) m ls Q) : Wo P nt (⟨d, none, .slarr n sz x lo hi⟩ :: l) A m ls Q :=
  wo_op hd (fun _ _ => by simp) (fun T hA => by simp only [evOp0, hA.o hx, bnd_ok hA hl hh h0 h1 h2, ht]) hk
theorem wo_slarrp {n sz : Nat} {x : Opd} {lo hi : Option Opd} {b g off : Nat} {k : Blk} {c : Int} (hx : lk A x = some (.ptr b g off)) (hl : bdA A lo 0 = some 0) (hh : bdA A hi n = some c) (h1 : 0 ≤ c) (h2 : c ≤ n) (hb : m[b]? = some k) (hg : k.gen = g) (hle : off + n * sz ≤ k.cells.length) (hd : okD nt d = true)
    (hk : Wo P nt l (putA A d (.sl b g off c.toNat sz (some n))) m ls Q) : Wo P nt (⟨d, none, .slarr n sz x lo hi⟩ :: l) A m ls Q :=
  wo_op hd (fun _ _ => by simp) (fun T hA => by simp only [evOp0, hA.o hx, bnd_ok hA hl hh (Int.le_refl 0) h1 h2, blk_of hb hg]; rw [if_pos ⟨rfl, hle⟩]) hk

theorem wo_mksl {z : List MV} {sz bytes : Nat} {x y : Opd} {k j : IntKind} {a b : Int} (hx : lk A x = some (.int k a)) (hy : lk A y = some (.int j b)) (h0 : 0 ≤ a) (h1 : a ≤ b) (h2 : b.toNat * bytes ≤ 35184372088832) (h3 : b ≤ 9007199254740992) (hz : z.length = sz) (hd : okD nt d = true)
    (hk : Wo P nt l (putA A d (.sl m.length 0 0 a.toNat sz (some b.toNat))) (m ++ [⟨(List.replicate b.toNat z).flatten, 0, deepVs z⟩]) ls Q) : Wo P nt (⟨d, none, .mksl z sz bytes x y⟩ :: l) A m ls Q :=
  wo_op hd (fun _ _ => by simp) (fun T hA => by
    simp only [evOp0, hA.o hx, hA.o hy, nat_of h0, nat_of (show 0 ≤ b by omega)]
    rw [if_pos ⟨by omega, by simp [roomy, h2], by omega, hz⟩]) hk

theorem wo_app {sz bytes : Nat} {x y : Opd} {u v r : MV} {m' : Mem} (hx : lk A x = some u) (hy : lk A y = some v) (h : appM m sz bytes u v = some (r, m')) (hd : okD nt d = true) (hk : Wo P nt l (putA A d r) m' ls Q) : Wo P nt (⟨d, none, .app sz bytes x y⟩ :: l) A m ls Q :=
  wo_op hd (fun _ _ => by simp) (fun T hA => by simp only [evOp0, hA.o hx, hA.o hy, h]) hk

end
end Go.Mini
