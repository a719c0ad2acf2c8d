/-
Operation by operation: those that leave memory alone.
-/
import Derived.Test.YtnekgoanadbmmaaMiE
namespace Go.Mini
open Go.RowKit
set_option linter.unusedSimpArgs false

section ops
variable {P : Program} {pm : Nat → Bool} {E : Env} {m : Mem} {ls : List LRec} {base : Nat} {w : World} {T : List MV} {a : Act} {o : Oper}

theorem ok_move (hs : Sim P pm E m ls base w.heap) (hT : Vs E T a.tmps.toList) {x : Operand} {y : Opd} (ho : o.op = .move x ∨ o.op = .assign x) (hx : trOpd x = some y) :
    OpOk P pm E m ls base w ((execOp a.eval o).run P w) (getO T y) :=
  .pure hs (by rcases ho with ho | ho <;> simp only [execOp, ho] <;> rfl) (getO_V hT hx)

theorem ok_pick (hs : Sim P pm E m ls base w.heap) (hT : Vs E T a.tmps.toList) {c x y : Operand} {c' x' y' : Opd} (ho : o.op = .pick c x y) (hc : trOpd c = some c') (hx : trOpd x = some x') (hy : trOpd y = some y')
    {b : Bool} (hb : getO T c' = .bool b) : OpOk P pm E m ls base w ((execOp a.eval o).run P w) (if b then getO T x' else getO T y') := by
  have h1 := getO_V hT hc
  rw [hb] at h1
  have h2 := h1.inv_bool
  cases b with
  | true => exact .pure hs (by simp only [execOp, ho, h2]; rfl) (getO_V hT hx)
  | false => exact .pure hs (by simp only [execOp, ho, h2]; rfl) (getO_V hT hy)

theorem run_guard_int (op : BinOp) (t : TypeId) (x y : Operand) (k j : IntKind) (p q : Int) (w : World) : (eqGuard op t x y (.int k p) (.int j q)).run P w = .ok () w := by
  cases op <;> simp [eqGuard]

theorem run_guard_str (op : BinOp) (t : TypeId) (x y : Operand) (p q : ByteArray) (w : World) : (eqGuard op t x y (.string p) (.string q)).run P w = .ok () w := by
  cases op <;> simp [eqGuard]

theorem binI_ok {op : BinOp} {k : IntKind} {p q : Int} {v : MV} (hn : isShift op = false) (h : binI op k p q = some v) (t : TypeId) (w : World) :
    ∃ x, (binOp op t (.int k p) (.int k q)).run P w = .ok x w ∧ V E v x := by
  cases op <;> simp only [isShift, Bool.true_eq_false] at hn <;> simp only [binI] at h
  case quo =>
    split at h
    · simp at h
    · rename_i hq
      obtain rfl := Option.some.inj h
      refine ⟨_, ?_, V.int⟩; simp [binOp, Op.intDiv, hq]
  case rem =>
    split at h
    · simp at h
    · rename_i hq
      obtain rfl := Option.some.inj h
      refine ⟨_, ?_, V.int⟩; simp [binOp, Op.intDiv, hq]
  all_goals first
    | (simp at h; done)
    | (obtain rfl := Option.some.inj h
       first
         | (refine ⟨_, ?_, V.int⟩; simp [binOp, Op.intArith, Op.intBits, Op.intCmp]; done)
         | (refine ⟨_, ?_, V.bool⟩; simp [binOp, Op.intArith, Op.intBits, Op.intCmp]; done))

theorem shiftI_ok {op : BinOp} {k j : IntKind} {p q : Int} {v : MV} (h : shiftI op k p q = some v) (t : TypeId) (w : World) :
    ∃ x, (binOp op t (.int k p) (.int j q)).run P w = .ok x w ∧ V E v x := by
  unfold shiftI at h
  split at h
  · simp at h
  · rename_i hq
    cases op <;> simp only at h <;>
      first
        | (simp at h; done)
        | (obtain rfl := Option.some.inj h
           refine ⟨_, ?_, V.int⟩; simp [binOp, Op.shift, hq]; done)

theorem ok_bin (hs : Sim P pm E m ls base w.heap) (hT : Vs E T a.tmps.toList) {op : BinOp} {t u : TypeId} {x y : Operand} {x' y' : Opd} (ho : o.op = .binOp op t x y u) (hx : trOpd x = some x') (hy : trOpd y = some y')
    {v : MV} (hv : binM op (getO T x') (getO T y') = some v) : OpOk P pm E m ls base w ((execOp a.eval o).run P w) v := by
  have h1 := getO_V hT hx
  have h2 := getO_V hT hy
  generalize getO T x' = p at *
  generalize getO T y' = q at *
  unfold binM at hv
  split at hv
  · rename_i k p j q
    have e1 := h1.inv_int
    have e2 := h2.inv_int
    split at hv
    · obtain ⟨r, hr, hV⟩ := shiftI_ok (P := P) (E := E) (j := j) hv t w
      exact .pure hs (by simp only [execOp, ho, e1, e2]; simp [run_guard_int, hr]) hV
    · rename_i hn
      split at hv
      · rename_i hk
        subst hk
        obtain ⟨r, hr, hV⟩ := binI_ok (P := P) (E := E) (by simpa using hn) hv t w
        exact .pure hs (by simp only [execOp, ho, e1, e2]; simp [run_guard_int, hr]) hV
      · simp at hv
  · rename_i p q
    have e1 := h1.inv_str
    have e2 := h2.inv_str
    cases op <;> simp only at hv <;> first
      | (simp at hv; done)
      | (obtain rfl := Option.some.inj hv
         refine .pure hs ?_ V.bool
         simp only [execOp, ho, e1, e2]; simp [run_guard_str, binOp, Op.stringOp]; done)
  · simp at hv

theorem ok_eqb (hs : Sim P pm E m ls base w.heap) (hT : Vs E T a.tmps.toList) {neg : Bool} {t u : TypeId} {x y : Operand} {x' y' : Opd} (ho : o.op = .binOp (if neg then .neq else .eql) t x y u) (hu : P.underlying t = some .bool)
    (hx : trOpd x = some x') (hy : trOpd y = some y') {p q : Bool} (hp : getO T x' = .bool p) (hq : getO T y' = .bool q) : OpOk P pm E m ls base w ((execOp a.eval o).run P w) (.bool ((p == q) != neg)) := by
  have h1 := getO_V hT hx
  have h2 := getO_V hT hy
  rw [hp] at h1
  rw [hq] at h2
  have e1 := h1.inv_bool
  have e2 := h2.inv_bool
  cases neg with
  | false =>
    simp only [Bool.false_eq_true, if_false] at ho
    refine .pure hs (x := .bool (p == q)) (by simp only [execOp, ho, e1, e2]; simp [eqGuard, binOp, run_equal_bool w t p q hu]) ?_
    rw [Bool.bne_false]; constructor
  | true =>
    simp only [if_true] at ho
    refine .pure hs (x := .bool !(p == q)) (by simp only [execOp, ho, e1, e2]; simp [eqGuard, binOp, run_equal_bool w t p q hu]) ?_
    rw [Bool.bne_true]; constructor

/-- The types at which '==' may have nil on a side. -/
def nilTy (P : Program) (t : TypeId) : Nat → Prop
  | 0 => ∃ e, P.underlying t = some (.pointer e)
  | 1 => ∃ e, P.underlying t = some (.slice e)
  | _ => ∃ a b c, P.underlying t = some (.func a b c)

theorem eqIn_nil {k : Nat} {x y : MV} {r s : Value} {b : Bool} (h1 : V E x r) (h2 : V E y s) (h : eqNil k x y = some b) {t : TypeId} (ht : nilTy P t k) (d : Nat) (w : World) :
    (Op.equalIn (d + 1) t r s).run P w = .ok b w := by
  unfold eqNil at h
  split at h <;> first
    | (simp only [reduceCtorEq] at h; done)
    | (obtain rfl := Option.some.inj h
       cases h1
       cases h2
       obtain ⟨e, hu⟩ := ht
       simp [Op.equalIn, run_underlying hu]
       done)
    | (obtain rfl := Option.some.inj h
       cases h1
       cases h2
       obtain ⟨_, _, _, hu⟩ := ht
       simp [Op.equalIn, run_underlying hu]
       done)

theorem eqNil_form {k : Nat} {x y : MV} {r s : Value} {b : Bool} (h1 : V E x r) (h2 : V E y s) (h : eqNil k x y = some b) (t : TypeId) (op : BinOp) (p q : Operand) (w : World) :
    (eqGuard op t p q r s).run P w = .ok () w ∧ binOp .eql t r s = (do pure (.bool (← Op.equal t r s))) ∧ binOp .neq t r s = (do pure (.bool (!(← Op.equal t r s)))) := by
  unfold eqNil at h
  split at h <;> first
    | (simp only [reduceCtorEq] at h; done)
    | (clear h
       cases h1
       cases h2
       exact ⟨by cases op <;> simp [eqGuard], rfl, rfl⟩)

theorem eqNil_ok {k : Nat} {x y : MV} {r s : Value} {b : Bool} (h1 : V E x r) (h2 : V E y s) (h : eqNil k x y = some b) {t : TypeId} (ht : nilTy P t k) (op : BinOp) (p q : Operand) (w : World) :
    (eqGuard op t p q r s).run P w = .ok () w ∧ (binOp .eql t r s).run P w = .ok (.bool b) w ∧ (binOp .neq t r s).run P w = .ok (.bool (!b)) w := by
  have e3 : (Op.equal t r s).run P w = .ok b w := eqIn_nil h1 h2 h ht 9999 w
  obtain ⟨e0, e1, e2⟩ := eqNil_form (P := P) h1 h2 h t op p q w
  refine ⟨e0, ?_, ?_⟩
  · rw [e1]; simp [e3]
  · rw [e2]; simp [e3]

theorem ok_eqn (hs : Sim P pm E m ls base w.heap) (hT : Vs E T a.tmps.toList) {k : Nat} {neg : Bool} {t u : TypeId} {x y : Operand} {x' y' : Opd} (ho : o.op = .binOp (if neg then .neq else .eql) t x y u)
    (hx : trOpd x = some x') (hy : trOpd y = some y') {b : Bool} (hb : eqNil k (getO T x') (getO T y') = some b) (ht : nilTy P t k) :
    OpOk P pm E m ls base w ((execOp a.eval o).run P w) (.bool (b != neg)) := by
  obtain ⟨h1, h2, h3⟩ := eqNil_ok (getO_V hT hx) (getO_V hT hy) hb ht (if neg then .neq else .eql) x y w
  cases neg with
  | false =>
    simp only [Bool.false_eq_true, if_false] at ho h1
    refine .pure hs (x := .bool b) (by simp only [execOp, ho]; simp [h1, h2]) ?_
    rw [Bool.bne_false]; constructor
  | true =>
    simp only [if_true] at ho h1
    refine .pure hs (x := .bool !b) (by simp only [execOp, ho]; simp [h1, h3]) ?_
    rw [Bool.bne_true]; constructor

/-! '==' of structs of plain cells -/

def kindTy (P : Program) (t : TypeId) : Nat → Prop
  | 0 => P.underlying t = some .bool
  | 1 => ∃ k, P.underlying t = some (.int k)
  | 2 => P.underlying t = some .string
  | _ => False

theorem eqCell_ok {k : Nat} {x y : MV} {r s : Value} {b : Bool} (h1 : V E x r) (h2 : V E y s) (h : eqCell k x y = some b) (d : Nat) {t : TypeId} (ht : kindTy P t k) (w : World) : (Op.equalIn (d + 1) t r s).run P w = .ok b w := by
  unfold eqCell at h
  split at h
  · obtain rfl := Option.some.inj h
    cases h1; cases h2
    have hu : P.underlying t = some .bool := ht
    simp [Op.equalIn, run_underlying hu]
  · split at h
    · rename_i hk
      obtain rfl := Option.some.inj h
      cases h1; cases h2
      obtain ⟨q, hu⟩ := ht
      simp [Op.equalIn, run_underlying hu, hk]
    · simp at h
  · obtain rfl := Option.some.inj h
    cases h1; cases h2
    have hu : P.underlying t = some .string := ht
    simp [Op.equalIn, run_underlying hu]
  · simp at h

theorem eqCells_len : ∀ {ks : List Nat} {xs ys : List MV} {c : Bool}, eqCells ks xs ys = some c → xs.length = ks.length ∧ ys.length = ks.length
  | [], [], [], _, _ => ⟨rfl, rfl⟩
  | k :: ks, x :: xs, y :: ys, c, h => by
    simp only [eqCells] at h
    cases h1 : eqCell k x y with
    | none => simp [h1] at h
    | some b =>
      cases h2 : eqCells ks xs ys with
      | none => simp [h1, h2] at h
      | some d => have := eqCells_len h2; simp [this.1, this.2]
  | [], [], _ :: _, _, h => by simp [eqCells] at h
  | [], _ :: _, _, _, h => by simp [eqCells] at h
  | _ :: _, [], _, _, h => by simp [eqCells] at h
  | _ :: _, _ :: _, [], _, h => by simp [eqCells] at h

theorem eqCells_split : ∀ {k1 k2 : List Nat} {xs ys : List MV} {c : Bool}, eqCells (k1 ++ k2) xs ys = some c →
    ∃ c1 c2, eqCells k1 (xs.take k1.length) (ys.take k1.length) = some c1 ∧ eqCells k2 (xs.drop k1.length) (ys.drop k1.length) = some c2 ∧ c = (c1 && c2)
  | [], k2, xs, ys, c, h => ⟨true, c, by simp [eqCells], by simpa using h, by simp⟩
  | k :: k1, k2, x :: xs, y :: ys, c, h => by
    simp only [List.cons_append, eqCells] at h
    cases h1 : eqCell k x y with
    | none => simp [h1] at h
    | some b =>
      cases h2 : eqCells (k1 ++ k2) xs ys with
      | none => simp [h1, h2] at h
      | some d =>
        simp only [h1, h2, Option.some.injEq] at h
        obtain ⟨c1, c2, e1, e2, e3⟩ := eqCells_split h2
        exact ⟨b && c1, c2, by simp [eqCells, h1, e1], by simpa using e2, by rw [← h, e3, Bool.and_assoc]⟩
  | _ :: _, _, [], _, _, h => by simp [eqCells] at h
  | _ :: _, _, _ :: _, [], _, h => by simp [eqCells] at h

/-- What 'part' reads at an offset, of a type whose cells have these kinds. -/
theorem flat_how {d : Nat} {t : TypeId} {ks : List Nat} (h : flatK P d t = some ks) :
    (∃ k, ks = [k] ∧ kindTy P t k ∧ howP P t = some none) ∨ (∃ fs, P.underlying t = some (.struct fs) ∧ howP P t = some (some ks.length)) := by
  cases d with
  | zero => simp [flatK] at h
  | succ d =>
    simp only [flatK] at h
    split at h
    · rename_i hu
      split at h
      · rename_i hz; obtain rfl := Option.some.inj h
        exact .inl ⟨0, rfl, hu, by simp [howP, aggP, hu, hz]⟩
      · simp at h
    · rename_i q hu
      split at h
      · rename_i hz; obtain rfl := Option.some.inj h
        exact .inl ⟨1, rfl, ⟨q, hu⟩, by simp [howP, aggP, hu, hz]⟩
      · simp at h
    · rename_i hu
      split at h
      · rename_i hz; obtain rfl := Option.some.inj h
        exact .inl ⟨2, rfl, hu, by simp [howP, aggP, hu, hz]⟩
      · simp at h
    · rename_i fs hu
      split at h
      · simp at h
      · split at h
        · rename_i ks' _
          split at h
          · rename_i hz; obtain rfl := Option.some.inj h
            exact .inr ⟨fs, hu, by simp [howP, aggP, hu, hz]⟩
          · simp at h
        · simp at h
    · simp at h

theorem run_eqFields {d : Nat} (ih : ∀ {t : TypeId} {ks : List Nat} {a b : List MV} {A B : List Value} {c : Bool}, flatK P d t = some ks → Vs E a A → Sc A → Vs E b B → Sc B → eqCells ks a b = some c → ∀ e, d ≤ e →
      ∀ x y, (∀ k, ks = [k] → howP P t = some none → x = A.getD 0 undef ∧ y = B.getD 0 undef) → (∀ n, howP P t = some (some n) → x = .agg A.toArray ∧ y = .agg B.toArray) → (Op.equalIn e t x y).run P w = .ok c w) :
    ∀ (fs : List Field) (acc ks : List Nat) (a b : List MV) (A B : List Value) (c : Bool), flatFs (flatK P d) fs acc = some ks → Vs E a A → Sc A → Vs E b B → Sc B → eqCells ks a b = some c →
      (∃ c0, eqCells acc (a.take acc.length) (b.take acc.length) = some c0 ∧ (c0 = true → ∀ e, d ≤ e → (Op.eqFields e A.toArray B.toArray fs).run P w = .ok c w) ∧ (c0 = false → c = false)) := by
  intro fs
  induction fs with
  | nil =>
    intro acc ks a b A B c h ha hA hb hB he
    simp only [flatFs, Option.some.injEq] at h
    subst h
    have hl := eqCells_len he
    refine ⟨c, ?_, ?_, id⟩
    · rw [List.take_of_length_le (by omega), List.take_of_length_le (by omega)]; exact he
    · rintro rfl e _
      rfl
  | cons f fs ihf =>
    intro acc ks a b A B c h ha hA hb hB he
    simp only [flatFs] at h
    split at h
    · rename_i hf
      obtain ⟨hname, hoff⟩ := hf
      cases hk : flatK P d f.type with
      | none => simp [hk] at h
      | some kf =>
        simp only [hk] at h
        obtain ⟨c0, h0, h1, h2⟩ := ihf (acc ++ kf) ks a b A B c h ha hA hb hB he
        obtain ⟨ca, cf, e1, e2, e3⟩ := eqCells_split h0
        simp only [List.length_append, List.take_take] at e1
        rw [Nat.min_eq_left (by omega)] at e1
        have hal : a.length = A.length := ha.length
        have hbl : b.length = B.length := hb.length
        have hkl := eqCells_len h0
        simp only [List.length_append, List.length_take] at hkl
        -- the field's cells
        have hlf : ((A.drop acc.length).take kf.length).length = kf.length := by simp; omega
        refine ⟨ca, e1, ?_, ?_⟩
        · intro hca e hde
          have eA : ((a.take (acc ++ kf).length).drop acc.length) = (a.drop acc.length).take kf.length := by simp [List.drop_take]
          have eB : ((b.take (acc ++ kf).length).drop acc.length) = (b.drop acc.length).take kf.length := by simp [List.drop_take]
          rw [eA, eB] at e2
          have hfield : ∃ x y, (part f.type A.toArray f.offset).run P w = .ok x w ∧ (part f.type B.toArray f.offset).run P w = .ok y w ∧ (Op.equalIn e f.type x y).run P w = .ok cf w := by
            rcases flat_how hk with ⟨k, rfl, hkt, hhow⟩ | ⟨fs', hu, hhow⟩
            · obtain ⟨hag, _⟩ := howP_none hhow
              obtain ⟨ra, hAi⟩ : ∃ r, A[acc.length]? = some r := ⟨_, List.getElem?_eq_getElem (show acc.length < A.length by simp at hkl; omega)⟩
              obtain ⟨rb, hBi⟩ : ∃ r, B[acc.length]? = some r := ⟨_, List.getElem?_eq_getElem (show acc.length < B.length by simp at hkl; omega)⟩
              refine ⟨ra, rb, by simp [part, run_isAgg hag w, hoff, hAi], by simp [part, run_isAgg hag w, hoff, hBi], ?_⟩
              refine ih hk ((ha.drop _).take _) ((hA.drop _).take _) ((hb.drop _).take _) ((hB.drop _).take _) e2 e hde _ _ (fun _ _ _ => ?_) (fun n hn => by rw [hhow] at hn; simp at hn)
              constructor
              · simp [List.getD, hAi]
              · simp [List.getD, hBi]
            · obtain ⟨hag, hsz⟩ := howP_some hhow
              refine ⟨.agg ((A.drop acc.length).take kf.length).toArray, .agg ((B.drop acc.length).take kf.length).toArray, ?_, ?_, ?_⟩
              · simp [part, run_isAgg hag w, run_sizeOf hsz w, hoff, List.extract_toArray, List.extract, List.take_drop]
              · simp [part, run_isAgg hag w, run_sizeOf hsz w, hoff, List.extract_toArray, List.extract, List.take_drop]
              · exact ih hk ((ha.drop _).take _) ((hA.drop _).take _) ((hb.drop _).take _) ((hB.drop _).take _) e2 e hde _ _ (fun _ _ hn => by rw [hhow] at hn; simp at hn) (fun _ _ => ⟨rfl, rfl⟩)
          obtain ⟨x, y, p1, p2, p3⟩ := hfield
          simp only [Op.eqFields, Sem.run_ite, Sem.run_bind]
          rw [if_pos hname, p1]
          simp only [Result.andThen_ok, p2, p3]
          cases hcf : cf with
          | true =>
            have := h1 (by rw [e3, hca, hcf]; rfl) e hde
            simpa using this
          | false =>
            have := h2 (by rw [e3, hca, hcf]; rfl)
            simp [this]
        · intro hca
          exact h2 (by rw [e3, hca]; rfl)
    · simp at h

theorem eqFlat_ok : ∀ (d : Nat) {t : TypeId} {ks : List Nat} {a b : List MV} {A B : List Value} {c : Bool}, flatK P d t = some ks → Vs E a A → Sc A → Vs E b B → Sc B → eqCells ks a b = some c → ∀ e, d ≤ e →
      ∀ x y, (∀ k, ks = [k] → howP P t = some none → x = A.getD 0 undef ∧ y = B.getD 0 undef) → (∀ n, howP P t = some (some n) → x = .agg A.toArray ∧ y = .agg B.toArray) → (Op.equalIn e t x y).run P w = .ok c w
  | 0, t, ks, a, b, A, B, c, h, _, _, _, _, _, _, _, _, _, _, _ => by simp [flatK] at h
  | d + 1, t, ks, a, b, A, B, c, h, ha, hA, hb, hB, he, e, hde, x, y, hx1, hx2 => by
    obtain ⟨e, rfl⟩ : ∃ e', e = e' + 1 := ⟨e - 1, by omega⟩
    rcases flat_how h with ⟨k, rfl, hkt, hhow⟩ | ⟨fs, hu, hhow⟩
    · obtain ⟨rfl, rfl⟩ := hx1 k rfl hhow
      obtain ⟨l1, l2⟩ := eqCells_len he
      match a, b, l1, l2, he, ha, hb with
      | [p], [q], _, _, he, ha, hb =>
        cases ha with
        | cons h1 h1' =>
          cases hb with
          | cons h2 h2' =>
            simp only [eqCells] at he
            cases hc : eqCell k p q with
            | none => simp [hc] at he
            | some b' =>
              simp [hc] at he
              subst he
              exact eqCell_ok h1 h2 hc e hkt w
    · obtain ⟨rfl, rfl⟩ := hx2 _ hhow
      simp only [flatK, hu] at h
      split at h
      · simp at h
      · rename_i hst
        split at h
        · rename_i ks' hfs
          split at h
          · obtain rfl := Option.some.inj h
            have hf : P.fieldsOf t = fs := by simp [Program.fieldsOf, hu]
            rw [run_equalIn_struct w e t A.toArray B.toArray (by rw [hf]; exact hu) (by simpa using hst), hf]
            obtain ⟨c0, h0, h1, _⟩ := run_eqFields (w := w) (fun {t ks a b A B c} => eqFlat_ok d (t := t) (ks := ks) (a := a) (b := b) (A := A) (B := B) (c := c)) fs.toList [] ks' a b A B c hfs ha hA hb hB he
            simp only [List.length_nil, List.take_zero, eqCells, Option.some.injEq] at h0
            exact h1 h0.symm e (by omega)
          · simp at h
        · simp at h

theorem ok_eqa (hs : Sim P pm E m ls base w.heap) (hT : Vs E T a.tmps.toList) {neg : Bool} {t u : TypeId} {x y : Operand} {x' y' : Opd} (ho : o.op = .binOp (if neg then .neq else .eql) t x y u)
    (hx : trOpd x = some x') (hy : trOpd y = some y') {p q : List MV} (hp : getO T x' = .agg p) (hq : getO T y' = .agg q) {ks : List Nat} (hk : flatK P 20 t = some ks) {fs : Array Field} (hu : P.underlying t = some (.struct fs)) (hg : P.eqGuardType P.depth t = false)
    {c : Bool} (hc : eqCells ks p q = some c) : OpOk P pm E m ls base w ((execOp a.eval o).run P w) (.bool (c != neg)) := by
  have h1 := getO_V hT hx
  have h2 := getO_V hT hy
  rw [hp] at h1
  rw [hq] at h2
  obtain ⟨A, eA, hA, hsA⟩ := h1.inv_agg
  obtain ⟨B, eB, hB, hsB⟩ := h2.inv_agg
  have he : (Op.equal t (.agg A.toArray) (.agg B.toArray)).run P w = .ok c w := by
    refine eqFlat_ok 20 hk hA hsA hB hsB hc Op.maxDepth (by unfold Op.maxDepth; omega) _ _ (fun k hk' hn => ?_) (fun _ _ => ⟨rfl, rfl⟩)
    simp [howP, aggP, hu] at hn
    split at hn <;> simp_all
  have e1 : binOp .eql t (.agg A.toArray) (.agg B.toArray) = (do pure (.bool (← Op.equal t (.agg A.toArray) (.agg B.toArray)))) := rfl
  have e2 : binOp .neq t (.agg A.toArray) (.agg B.toArray) = (do pure (.bool (!(← Op.equal t (.agg A.toArray) (.agg B.toArray))))) := rfl
  have g : ∀ op, (eqGuard op t x y (.agg A.toArray) (.agg B.toArray)).run P w = .ok () w := by intro op; cases op <;> simp [eqGuard, hg]
  cases neg with
  | false =>
    simp only [Bool.false_eq_true, if_false] at ho
    refine .pure hs (x := .bool c) (by simp only [execOp, ho, eA, eB, e1]; simp [g, he]) ?_
    rw [Bool.bne_false]; constructor
  | true =>
    simp only [if_true] at ho
    refine .pure hs (x := .bool !c) (by simp only [execOp, ho, eA, eB, e2]; simp [g, he]) ?_
    rw [Bool.bne_true]; constructor

end ops
end Go.Mini
