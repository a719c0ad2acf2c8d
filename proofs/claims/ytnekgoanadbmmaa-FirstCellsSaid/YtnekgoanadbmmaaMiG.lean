/-
Operation by operation: the rest of those that leave memory alone.
-/
import Derived.Test.YtnekgoanadbmmaaMiF
namespace Go.Mini
open Go.RowKit
set_option linter.unusedSimpArgs false

section ops
variable {P : Program} {pm : Nat → Bool} {E : Env} {m : Mem} {ls : List LRec} {base : Nat} {w : World} {T : List MV} {a : Act} {o : Oper}

theorem ok_un (hs : Sim P pm E m ls base w.heap) (hT : Vs E T a.tmps.toList) {op : UnOp} {t : TypeId} {x : Operand} {x' : Opd} (ho : o.op = .unOp op t x) (hx : trOpd x = some x') {v : MV} (hv : unM op (getO T x') = some v) :
    OpOk P pm E m ls base w ((execOp a.eval o).run P w) v := by
  have h1 := getO_V hT hx
  generalize getO T x' = p at *
  unfold unM at hv
  split at hv
  · have e1 := h1.inv_bool
    cases op <;> simp only at hv <;> first | (simp at hv; done) | skip
    obtain rfl := Option.some.inj hv
    exact .pure hs (by simp only [execOp, ho, e1]; simp [Op.unary]) .bool
  · have e1 := h1.inv_int
    cases op <;> simp only at hv <;> first | (simp at hv; done) | skip
    obtain rfl := Option.some.inj hv
    exact .pure hs (by simp only [execOp, ho, e1]; simp [Op.unary, Op.intArith]) .int
  · simp at hv

theorem ok_conv (hs : Sim P pm E m ls base w.heap) (hT : Vs E T a.tmps.toList) {s d : TypeId} {x : Operand} {x' : Opd} (ho : o.op = .convert s d x) (hx : trOpd x = some x') {ds : TypeDesc} {k j : IntKind} {n : Int}
    (hs' : P.underlying s = some ds) (hd : P.underlying d = some (.int k)) (hp : getO T x' = .int j n) : OpOk P pm E m ls base w ((execOp a.eval o).run P w) (.int k (k.wrap n)) := by
  have h1 := getO_V hT hx
  rw [hp] at h1
  have e1 := h1.inv_int
  exact .pure hs (by simp only [execOp, ho, e1]; simp [convert, run_underlying hs', run_underlying hd, Conv.intToInt]) .int

theorem ok_convs (hs : Sim P pm E m ls base w.heap) (hT : Vs E T a.tmps.toList) {s d : TypeId} {x : Operand} {x' : Opd} (ho : o.op = .convert s d x) (hx : trOpd x = some x') {b : ByteArray}
    (hs' : P.underlying s = some .string) (hd : P.underlying d = some .string) (hp : getO T x' = .str b) : OpOk P pm E m ls base w ((execOp a.eval o).run P w) (.str b) := by
  have h1 := getO_V hT hx
  rw [hp] at h1
  have e1 := h1.inv_str
  exact .pure hs (by simp only [execOp, ho, e1]; simp [convert, run_underlying hs', run_underlying hd]) .str

theorem ok_mkfn (hs : Sim P pm E m ls base w.heap) (hT : Vs E T a.tmps.toList) {f : Nat} {x y : Array Operand} {x' y' : List Opd} (ho : o.op = .makeFunc (.func f) x y) (hx : trOpds x.toList = some x') (hy : trOpds y.toList = some y') :
    OpOk P pm E m ls base w ((execOp a.eval o).run P w) (.fn f (x'.map (getO T)) (y'.map (getO T))) := by
  refine .pure hs (x := .func (.func f) (x.map a.eval) (y.map a.eval)) (by simp only [execOp, ho]; simp [Instr.makeFunc]) ?_
  have e : ∀ z : Array Operand, z.map a.eval = (z.toList.map a.eval).toArray := fun z => by apply Array.ext'; simp
  rw [e x, e y]
  exact V.fn (f := f) (getOs_V hT hx) (getOs_V hT hy)

theorem ok_extr (hs : Sim P pm E m ls base w.heap) (hT : Vs E T a.tmps.toList) {i : Nat} {x : Operand} {x' : Opd} (ho : o.op = .extract x i) (hx : trOpd x = some x') {vs : List MV} {v : MV} (hp : getO T x' = .tup vs) (hv : vs[i]? = some v) :
    OpOk P pm E m ls base w ((execOp a.eval o).run P w) v := by
  have h1 := getO_V hT hx
  rw [hp] at h1
  obtain ⟨cs, e1, h2⟩ := h1.inv_tup
  obtain ⟨r, h3, h4⟩ := h2.get hv
  exact .pure hs (by simp only [execOp, ho, e1]; simp [Instr.extract, h3]) h4

theorem ok_nchk (hs : Sim P pm E m ls base w.heap) (hT : Vs E T a.tmps.toList) {x : Operand} {x' : Opd} (ho : o.op = .nilCheck x) (hx : trOpd x = some x') {v : MV}
    (hv : (match getO T x' with | .ptr b g off => some (.ptr b g off) | .pimm cs off => some (.pimm cs off) | .fn f a b => some (.fn f a b) | .yld j => some (.yld j) | _ => none : Option MV) = some v) :
    OpOk P pm E m ls base w ((execOp a.eval o).run P w) v := by
  have h1 := getO_V hT hx
  generalize getO T x' = p at *
  generalize hq : a.eval x = q at *
  cases h1 <;> simp only [Option.some.injEq, reduceCtorEq] at hv <;> subst hv
  case ptr hb hg h => exact .pure hs (by simp only [execOp, ho, hq]; rfl) (.ptr hb hg h)
  case pimm => exact .pure hs (by simp only [execOp, ho, hq]; rfl) (.pimm (by assumption) (by assumption) (by assumption) (by assumption))
  case fn ha hb => exact .pure hs (by simp only [execOp, ho, hq]; rfl) (.fn ha hb)
  case yld h => exact .pure hs (by simp only [execOp, ho, hq]; rfl) (.yld h)

/-- A call of a builtin that answers a value, as its function has it. -/
theorem run_builtin (c : Call) (b : Builtin) (hc : c.callee = .builtin b) (ho : o.op = .call c) (bs : Array Bool) (hb : bs = c.args.map fun | .const _ => true | _ => false) :
    (execOp a.eval o).run P w = (builtin b c.argTypes o.type bs (c.args.map a.eval)).run P w := by
  simp only [execOp, ho, resolve, hc, Sem.run_bind, Sem.run_pure, Result.andThen_ok, invoke, hb]
  rfl

theorem args1 {c : Call} {x : Operand} (h : c.args.toList = [x]) : c.args.map a.eval = #[a.eval x] := by
  apply Array.ext'; simp [h]

theorem args2 {c : Call} {x y : Operand} (h : c.args.toList = [x, y]) : c.args.map a.eval = #[a.eval x, a.eval y] := by
  apply Array.ext'; simp [h]

theorem arr1 {α : Type} {c : Array α} {x : α} (h : c.toList = [x]) : c = #[x] := by apply Array.ext'; simp [h]
theorem arr2 {α : Type} {c : Array α} {x y : α} (h : c.toList = [x, y]) : c = #[x, y] := by apply Array.ext'; simp [h]

theorem lenM_V {x : MV} {r : Value} {n : Nat} (h : V E x r) (hn : lenM x = some n) : ∃ b c, r = .slice b n c ∧ n ≤ c := by
  cases h <;> simp [lenM] at hn <;> subst hn
  · exact ⟨_, _, rfl, Nat.le_refl _⟩
  · exact ⟨_, _, rfl, by assumption⟩
  · exact ⟨_, _, rfl, by assumption⟩

theorem ok_len (hs : Sim P pm E m ls base w.heap) (hT : Vs E T a.tmps.toList) {x : Operand} {x' : Opd} {c : Call} (ho : o.op = .call c) (hc : c.callee = .builtin .len) (ha : c.args.toList = [x]) {t e : TypeId} (ht : c.argTypes.toList = [t])
    (hu : P.underlying t = some (.slice e)) (hx : trOpd x = some x') {n : Nat} (hn : lenM (getO T x') = some n) : OpOk P pm E m ls base w ((execOp a.eval o).run P w) (.int .i64 n) := by
  obtain ⟨b, cc, hr, _⟩ := lenM_V (getO_V hT hx) hn
  exact .pure hs (x := .int .i64 n) (by rw [run_builtin c .len hc ho _ rfl, args1 ha, arr1 ht, hr]; simp [builtin, Builtin.len_, run_underlying hu, goInt]) .int

theorem ok_lens (hs : Sim P pm E m ls base w.heap) (hT : Vs E T a.tmps.toList) {x : Operand} {x' : Opd} {c : Call} (ho : o.op = .call c) (hc : c.callee = .builtin .len) (ha : c.args.toList = [x]) {t : TypeId} (ht : c.argTypes.toList = [t])
    (hu : P.underlying t = some .string) (hx : trOpd x = some x') {s : ByteArray} (hn : getO T x' = .str s) : OpOk P pm E m ls base w ((execOp a.eval o).run P w) (.int .i64 s.size) := by
  have h1 := getO_V hT hx
  rw [hn] at h1
  exact .pure hs (x := .int .i64 s.size) (by rw [run_builtin c .len hc ho _ rfl, args1 ha, arr1 ht, h1.inv_str]; simp [builtin, Builtin.len_, run_underlying hu, goInt]) .int

theorem ok_lenc (hs : Sim P pm E m ls base w.heap) {x : Operand} {c : Call} (ho : o.op = .call c) (hc : c.callee = .builtin .len) (ha : c.args.toList = [x]) {t : TypeId} (ht : c.argTypes.toList = [t]) {n : Nat}
    (hu : (∃ e, P.underlying t = some (.array n e)) ∨ (∃ p e, P.underlying t = some (.pointer p) ∧ P.underlying p = some (.array n e))) : OpOk P pm E m ls base w ((execOp a.eval o).run P w) (.int .i64 n) := by
  refine .pure hs (x := .int .i64 n) ?_ .int
  rw [run_builtin c .len hc ho _ rfl, args1 ha, arr1 ht]
  rcases hu with ⟨e, hu⟩ | ⟨p, e, hu, hp⟩
  · simp [builtin, Builtin.len_, run_underlying hu, goInt]
  · simp [builtin, Builtin.len_, run_underlying hu, run_underlying hp, goInt]

theorem ok_mx (hs : Sim P pm E m ls base w.heap) (hT : Vs E T a.tmps.toList) {x y : Operand} {x' y' : Opd} {c : Call} (ho : o.op = .call c) (hc : c.callee = .builtin .max) (ha : c.args.toList = [x, y]) (hx : trOpd x = some x') (hy : trOpd y = some y')
    {k j : IntKind} {p q : Int} (hp : getO T x' = .int k p) (hq : getO T y' = .int j q) : OpOk P pm E m ls base w ((execOp a.eval o).run P w) (.int k (if q > p then q else p)) := by
  have h1 := getO_V hT hx
  have h2 := getO_V hT hy
  rw [hp] at h1
  rw [hq] at h2
  refine .pure hs (x := .int k (if q > p then q else p)) ?_ .int
  rw [run_builtin c .max hc ho _ rfl, args2 ha, h1.inv_int, h2.inv_int]
  simp [builtin, Builtin.max_, Builtin.max2]

theorem ok_mn (hs : Sim P pm E m ls base w.heap) (hT : Vs E T a.tmps.toList) {x y : Operand} {x' y' : Opd} {c : Call} (ho : o.op = .call c) (hc : c.callee = .builtin .min) (ha : c.args.toList = [x, y]) (hx : trOpd x = some x') (hy : trOpd y = some y')
    {k j : IntKind} {p q : Int} (hp : getO T x' = .int k p) (hq : getO T y' = .int j q) : OpOk P pm E m ls base w ((execOp a.eval o).run P w) (.int k (if q < p then q else p)) := by
  have h1 := getO_V hT hx
  have h2 := getO_V hT hy
  rw [hp] at h1
  rw [hq] at h2
  refine .pure hs (x := .int k (if q < p then q else p)) ?_ .int
  rw [run_builtin c .min hc ho _ rfl, args2 ha, h1.inv_int, h2.inv_int]
  simp [builtin, Builtin.min_, Builtin.min2]

/-! Addresses -/

theorem natOf_V {x : MV} {r : Value} {n : Nat} (h : V E x r) (hn : natOf x = some n) : ∃ k, r = .int k n := by
  cases h <;> simp [natOf] at hn
  rename_i k i
  exact ⟨k, by rw [← hn.2]; simp [Int.toNat_of_nonneg hn.1]⟩

theorem ok_faddr (hs : Sim P pm E m ls base w.heap) (hT : Vs E T a.tmps.toList) {s : TypeId} {x : Operand} {x' : Opd} {f : Nat} (ho : o.op = .fieldAddr s x f) (hx : trOpd x = some x') {fs : Array Field} (hu : P.underlying s = some (.struct fs))
    {g : Field} (hg : fs[f]? = some g) {n : Nat} (hn : sizeP P g.type = some n) (h0 : n ≠ 0) {v : MV}
    (hv : (match getO T x' with | .ptr b gg off => some (.ptr b gg (off + g.offset)) | .pimm cs off => some (.pimm cs (off + g.offset)) | _ => none : Option MV) = some v) : OpOk P pm E m ls base w ((execOp a.eval o).run P w) v := by
  have h1 := getO_V hT hx
  generalize getO T x' = p at *
  generalize hq : a.eval x = q at *
  have hr : ∀ ad : Addr, q = .pointer (some ad) → (execOp a.eval o).run P w = .ok (.value (.pointer (some (ad.add g.offset)))) w := by
    rintro ad rfl
    simp [execOp, ho, hq, Instr.fieldAt, run_underlying hu, hg, Instr.sureAddr, fieldPlace, run_sizeOf hn w, h0]
  cases h1 <;> simp only [Option.some.injEq, reduceCtorEq] at hv <;> subst hv
  case ptr ad hb hgn h =>
    refine .pure hs (hr _ rfl) (.ptr hb hgn fun e => ?_)
    rw [h e, addr_add]
  case pimm =>
    refine .pure hs (hr _ rfl) ?_
    rw [addr_add, Nat.add_assoc]
    exact .pimm (by assumption) (by assumption) (by assumption) (by assumption)

theorem ok_iaddr (hs : Sim P pm E m ls base w.heap) (hT : Vs E T a.tmps.toList) {t e : TypeId} {x i : Operand} {x' i' : Opd} (ho : o.op = .indexAddr t x i) (hx : trOpd x = some x') (hi : trOpd i = some i') (hu : P.underlying t = some (.slice e))
    {sz : Nat} (hz : sizeP P e = some sz) {k : Nat} (hk : natOf (getO T i') = some k) {v : MV}
    (hv : (match getO T x' with | .sl b g off n sz' _ => if k < n ∧ sz' = sz then some (.ptr b g (off + k * sz)) else none | .lit cs n _ => if k < n then some (.pimm cs (k * sz)) else none | _ => none : Option MV) = some v) :
    OpOk P pm E m ls base w ((execOp a.eval o).run P w) v := by
  have h1 := getO_V hT hx
  obtain ⟨kk, hi'⟩ := natOf_V (getO_V hT hi) hk
  generalize getO T x' = p at *
  generalize hq : a.eval x = q at *
  have hr : ∀ (ad : Addr) (n c : Nat), q = .slice (some ad) n c → k < n → (execOp a.eval o).run P w = .ok (.value (.pointer (some (ad.add (k * sz))))) w := by
    rintro ad n c rfl hlt
    have : (0 : Int) ≤ k ∧ (k : Int) < n := ⟨by omega, by omega⟩
    simp [execOp, ho, hq, hi', Instr.indexAt, asIntOf, run_underlying hu, run_sizeOf hz w, this]
    omega
  cases h1 <;> simp only [Option.some.injEq, reduceCtorEq] at hv
  case sl b g off n sz' cap kc ad hb hgn hl hkc h =>
    split at hv
    · rename_i hc
      obtain rfl := Option.some.inj hv
      refine .pure hs (hr _ _ _ rfl hc.1) (.ptr hb hgn fun e => ?_)
      rw [(h e).1, addr_add]
    · simp at hv
  case lit =>
    split at hv
    · rename_i hc
      obtain rfl := Option.some.inj hv
      refine .pure hs (hr _ _ _ rfl hc) ?_
      rw [addr_add]
      rename_i hseg _ _ _ _ _
      rcases hseg with ⟨_, h0⟩ | hseg
      · omega
      exact .pimm hseg (by assumption) (by assumption) (by assumption)
    · simp at hv

theorem ok_iaddra (hs : Sim P pm E m ls base w.heap) (hT : Vs E T a.tmps.toList) {t e : TypeId} {x i : Operand} {x' i' : Opd} (ho : o.op = .indexAddr t x i) (hx : trOpd x = some x') (hi : trOpd i = some i') {n : Nat} (hu : P.underlying t = some (.array n e))
    {sz : Nat} (hz : sizeP P e = some sz) {k : Nat} (hk : natOf (getO T i') = some k) {v : MV}
    (hv : (match getO T x' with | .ptr b g off => if k < n then some (.ptr b g (off + k * sz)) else none | .pimm cs off => if k < n then some (.pimm cs (off + k * sz)) else none | _ => none : Option MV) = some v) :
    OpOk P pm E m ls base w ((execOp a.eval o).run P w) v := by
  have h1 := getO_V hT hx
  obtain ⟨kk, hi'⟩ := natOf_V (getO_V hT hi) hk
  generalize getO T x' = p at *
  generalize hq : a.eval x = q at *
  have hr : ∀ (ad : Addr), q = .pointer (some ad) → k < n → (execOp a.eval o).run P w = .ok (.value (.pointer (some (ad.add (k * sz))))) w := by
    rintro ad rfl hlt
    have : (0 : Int) ≤ k ∧ (k : Int) < n := ⟨by omega, by omega⟩
    simp [execOp, ho, hq, hi', Instr.indexAt, asIntOf, Instr.sureAddr, run_underlying hu, run_sizeOf hz w, this]
    omega
  cases h1 <;> simp only [Option.some.injEq, reduceCtorEq] at hv
  case ptr ad hb hgn h =>
    split at hv
    · rename_i hc
      obtain rfl := Option.some.inj hv
      refine .pure hs (hr _ rfl hc) (.ptr hb hgn fun e => ?_)
      rw [h e, addr_add]
    · simp at hv
  case pimm =>
    split at hv
    · rename_i hc
      obtain rfl := Option.some.inj hv
      refine .pure hs (hr _ rfl hc) ?_
      rw [addr_add, Nat.add_assoc]
      exact .pimm (by assumption) (by assumption) (by assumption) (by assumption)
    · simp at hv

theorem ok_fld (hs : Sim P pm E m ls base w.heap) (hT : Vs E T a.tmps.toList) {s : TypeId} {x : Operand} {x' : Opd} {f : Nat} (ho : o.op = .field s x f) (hx : trOpd x = some x') {fs : Array Field} (hu : P.underlying s = some (.struct fs))
    {g : Field} (hg : fs[f]? = some g) {n : Option Nat} (hn : howP P g.type = some n) {cs : List MV} (hp : getO T x' = .agg cs) {v : MV} (hv : partM cs g.offset n = some v) : OpOk P pm E m ls base w ((execOp a.eval o).run P w) v := by
  have h1 := getO_V hT hx
  rw [hp] at h1
  obtain ⟨L, e1, hL, hsc⟩ := h1.inv_agg
  obtain ⟨r, hr, hV⟩ := part_ok (w := w) hn hL hsc hv
  exact .pure hs (by simp only [execOp, ho, e1]; simp [Instr.field, run_underlying hu, hg, asAgg, hr]) hV

theorem ok_idx (hs : Sim P pm E m ls base w.heap) (hT : Vs E T a.tmps.toList) {t e : TypeId} {x i : Operand} {x' i' : Opd} (ho : o.op = .index t x i) (hx : trOpd x = some x') (hi : trOpd i = some i') {n : Nat} (hu : P.underlying t = some (.array n e))
    {sz : Nat} (hz : sizeP P e = some sz) {ag : Bool} (hag : aggP P e = some ag) (h1 : ag = false → sz = 1) {k : Nat} (hk : natOf (getO T i') = some k) {cs : List MV} (hp : getO T x' = .agg cs) (hlt : k < n) {v : MV}
    (hv : partM cs (k * sz) (if ag then some sz else none) = some v) : OpOk P pm E m ls base w ((execOp a.eval o).run P w) v := by
  have hx' := getO_V hT hx
  rw [hp] at hx'
  obtain ⟨L, e1, hL, hsc⟩ := hx'.inv_agg
  obtain ⟨kk, hi'⟩ := natOf_V (getO_V hT hi) hk
  have hhow : howP P e = some (if ag then some sz else none) := by
    cases ag with
    | true => simp [howP, hag, hz]
    | false => simp [howP, hag, hz, h1 rfl]
  obtain ⟨r, hr, hV⟩ := part_ok (w := w) hhow hL hsc hv
  have hb : (0 : Int) ≤ k ∧ (k : Int) < n := ⟨by omega, by omega⟩
  refine .pure hs (x := r) ?_ hV
  simp only [execOp, ho, e1, hi']
  simp [Instr.index, asIntOf, run_underlying hu, run_sizeOf hz w, hb, hr]
  omega

theorem ok_idxs (hs : Sim P pm E m ls base w.heap) (hT : Vs E T a.tmps.toList) {t : TypeId} {x i : Operand} {x' i' : Opd} (ho : o.op = .index t x i) (hx : trOpd x = some x') (hi : trOpd i = some i') (hu : P.underlying t = some .string)
    {k : Nat} (hk : natOf (getO T i') = some k) {s : ByteArray} (hp : getO T x' = .str s) {b : UInt8} (hb : s[k]? = some b) : OpOk P pm E m ls base w ((execOp a.eval o).run P w) (.int .u8 b.toNat) := by
  have hx' := getO_V hT hx
  rw [hp] at hx'
  obtain ⟨kk, hi'⟩ := natOf_V (getO_V hT hi) hk
  refine .pure hs (x := .int .u8 b.toNat) ?_ .int
  simp only [execOp, ho, hx'.inv_str, hi']
  simp [Instr.index, asIntOf, run_underlying hu, hb]

end ops
end Go.Mini
