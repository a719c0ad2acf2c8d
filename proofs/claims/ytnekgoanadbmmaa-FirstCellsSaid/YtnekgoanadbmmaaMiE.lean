/-
What one operation of Mini answers, the model's operation answers: those that leave memory alone, first.
-/
import Derived.Test.YtnekgoanadbmmaaMiD
namespace Go.Mini
open Go.RowKit

def OpOk (P : Program) (pm : Nat → Bool) (E : Env) (m' : Mem) (ls : List LRec) (base : Nat) (w : World) (r : Result Next) (v : MV) : Prop :=
  ∃ x w' E', (r = .ok (.value x) w' ∨ (r = .ok .skip w' ∧ x = undef)) ∧ EnvLe E E' ∧ Sim P pm E' m' ls base w'.heap ∧ V E' v x ∧ Stp base w w'

section consts
variable {E : Env}

theorem cv1_V {r : Value} {v : MV} (h : cv1 r = some v) : V E v r := by
  unfold cv1 at h
  split at h <;> try (simp at h; done)
  all_goals try (simp only [Option.some.injEq] at h; subst h; constructor)
  rename_i f a b
  split at h
  · rename_i hc
    simp only [Option.some.injEq] at h
    subst h
    have ha : a = [].toArray := Array.eq_empty_of_size_eq_zero hc.1
    have hb : b = [].toArray := Array.eq_empty_of_size_eq_zero hc.2
    rw [ha, hb]
    exact .fn .nil .nil
  · simp at h

theorem cv1_Sc {r : Value} {v : MV} (h : cv1 r = some v) : r.oneCell' = true := by
  unfold cv1 at h
  split at h <;> first | rfl | (simp at h; done)

theorem cvs_Sc : ∀ {rs : List Value} {vs : List MV}, cvs rs = some vs → Sc rs
  | [], _, _ => Sc.nil
  | r :: rs, vs, h => by
    simp only [cvs] at h
    cases h1 : cv1 r with
    | none => simp [h1] at h
    | some x =>
      cases h2 : cvs rs with
      | none => simp [h1, h2] at h
      | some xs => exact Sc.cons (cv1_Sc h1) (cvs_Sc h2)

theorem cvs_V : ∀ {rs : List Value} {vs : List MV}, cvs rs = some vs → Vs E vs rs
  | [], vs, h => by simp [cvs] at h; subst h; exact .nil
  | r :: rs, vs, h => by
    simp only [cvs] at h
    cases h1 : cv1 r with
    | none => simp [h1] at h
    | some x =>
      cases h2 : cvs rs with
      | none => simp [h1, h2] at h
      | some xs =>
        simp only [h1, h2, Option.some.injEq] at h
        subst h
        exact .cons (cv1_V h1) (cvs_V h2)

theorem cv_V {r : Value} {v : MV} (h : cv r = some v) : V E v r := by
  unfold cv at h
  split at h
  · rename_i cs
    cases h1 : cvs cs.toList with
    | none => simp [h1] at h
    | some xs =>
      simp only [h1, Option.map_some, Option.some.injEq] at h
      subst h
      exact .agg (cs' := cs.toList) (cvs_V h1) (cvs_Sc h1)
  · rename_i vs
    split at h
    · rename_i hc
      simp only [Option.some.injEq] at h
      subst h
      have : vs = [].toArray := Array.eq_empty_of_size_eq_zero hc
      rw [this]
      exact .tup .nil
    · simp at h
  · exact cv1_V h

theorem getO_V {T : List MV} {a : Act} (hT : Vs E T a.tmps.toList) {x : Operand} {y : Opd} (h : trOpd x = some y) : V E (getO T y) (a.eval x) := by
  cases x with
  | tmp t =>
    simp only [trOpd, Option.some.injEq] at h
    subst h
    have := hT.getD t
    simpa [getO, Act.eval] using this
  | const v =>
    simp only [trOpd] at h
    cases h1 : cv v with
    | none => simp [h1] at h
    | some x =>
      simp only [h1, Option.map_some, Option.some.injEq] at h
      subst h
      exact cv_V h1
  | func f =>
    simp only [trOpd, Option.some.injEq] at h
    subst h
    exact .fn (a' := []) (b' := []) .nil .nil
  | global g => simp [trOpd] at h

theorem getOs_V {T : List MV} {a : Act} (hT : Vs E T a.tmps.toList) : ∀ {xs : List Operand} {ys : List Opd}, trOpds xs = some ys → Vs E (ys.map (getO T)) (xs.map a.eval)
  | [], ys, h => by simp [trOpds] at h; subst h; exact .nil
  | x :: xs, ys, h => by
    simp only [trOpds] at h
    cases h1 : trOpd x with
    | none => simp [h1] at h
    | some y =>
      cases h2 : trOpds xs with
      | none => simp [h1, h2] at h
      | some ys' =>
        simp only [h1, h2, Option.some.injEq] at h
        subst h
        exact .cons (getO_V hT h1) (getOs_V hT h2)
end consts

/-! ### Inversions -/
section inv
variable {E : Env} {r : Value}
theorem V.inv_bool {b : Bool} (h : V E (.bool b) r) : r = .bool b := by cases h; rfl
theorem V.inv_int {k : IntKind} {n : Int} (h : V E (.int k n) r) : r = .int k n := by cases h; rfl
theorem V.inv_str {s : ByteArray} (h : V E (.str s) r) : r = .string s := by cases h; rfl
theorem V.inv_nilp (h : V E .nilp r) : r = .pointer none := by cases h; rfl
theorem V.inv_nils (h : V E .nils r) : r = .slice none 0 0 := by cases h; rfl
theorem V.inv_nilf (h : V E .nilf r) : r = .nilFunc := by cases h; rfl
theorem V.inv_agg {cs : List MV} (h : V E (.agg cs) r) : ∃ cs' : List Value, r = .agg cs'.toArray ∧ Vs E cs cs' ∧ Sc cs' := by cases h with | agg h h1 => exact ⟨_, rfl, h, h1⟩
theorem V.inv_tup {cs : List MV} (h : V E (.tup cs) r) : ∃ cs' : List Value, r = .tuple cs'.toArray ∧ Vs E cs cs' := by cases h with | tup h => exact ⟨_, rfl, h⟩
theorem V.inv_fn {f : Nat} {a b : List MV} (h : V E (.fn f a b) r) : ∃ a' b' : List Value, r = .func (.func f) a'.toArray b'.toArray ∧ Vs E a a' ∧ Vs E b b' := by
  cases h with | fn ha hb => exact ⟨_, _, rfl, ha, hb⟩
theorem V.inv_yld {j : Nat} (h : V E (.yld j) r) : ∃ l, r = .func (.yield l) #[] #[] ∧ E.lam j = some l := by cases h with | yld h => exact ⟨_, rfl, h⟩
end inv

theorem cells_V {E : Env} {v : MV} {r : Value} {cs : List MV} (h : V E v r) (hc : cellsOf v = some cs) : Vs E cs r.cells.toList ∧ Sc r.cells.toList := by
  cases h <;> simp [cellsOf] at hc <;> subst hc <;> first
    | exact ⟨by assumption, by assumption⟩
    | (refine ⟨.cons ?_ .nil, Sc.cons rfl Sc.nil⟩; constructor <;> assumption)

/-! ### What types say -/
section types
variable {P : Program} {w : World} {t : TypeId}

theorem run_sizeOf {n : Nat} (h : sizeP P t = some n) (w : World) : (sizeOf t).run P w = .ok n w := by
  unfold sizeP at h
  cases hi : P.info? t with
  | none => simp [hi] at h
  | some i => simp [hi] at h; simp [sizeOf, typeInfo, hi, h]

theorem run_zero {v : Value} (h : zeroP P t = some v) (w : World) : (zeroValue t).run P w = .ok v w := by
  unfold zeroP at h
  cases hi : P.info? t with
  | none => simp [hi] at h
  | some i => simp [hi] at h; simp [zeroValue, typeInfo, hi, h]

theorem run_isAgg {b : Bool} (h : aggP P t = some b) (w : World) : (isAgg t).run P w = .ok b w := by
  unfold aggP at h
  cases hu : P.underlying t with
  | none => simp [hu] at h
  | some d =>
    have hr := run_underlying (P := P) hu w
    cases d <;> simp_all [isAgg]

theorem howP_none (h : howP P t = some none) : aggP P t = some false ∧ sizeP P t = some 1 := by
  unfold howP at h
  split at h <;> simp_all

theorem howP_some {n : Nat} (h : howP P t = some (some n)) : aggP P t = some true ∧ sizeP P t = some n := by
  unfold howP at h
  split at h <;> simp_all
end types

theorem OpOk.pure {P : Program} {pm : Nat → Bool} {E : Env} {m : Mem} {ls : List LRec} {base : Nat} {w : World} {r : Result Next} {v : MV} {x : Value}
    (hs : Sim P pm E m ls base w.heap) (hr : r = .ok (.value x) w) (hv : V E v x) : OpOk P pm E m ls base w r v :=
  ⟨x, w, E, .inl hr, .refl _, hs, hv, .refl _ _⟩

/-! ### Reading cells -/
section reads
variable {P : Program} {E : Env} {w : World}

theorem seg_get {C : Array Value} {pre L post : List Value} (hC : C.toList = pre ++ L ++ post) {i : Nat} {r : Value} (h : L[i]? = some r) : C[pre.length + i]? = some r := by
  rw [← Array.getElem?_toList, hC, List.append_assoc, List.getElem?_append_right (by omega)]
  rw [List.getElem?_append_left (by have := (List.getElem?_eq_some_iff.1 (show L[i]? = some r from h)).1; omega)]
  rw [← h]; congr 1; omega

theorem cell_at {n : Nat} {C : Array Value} {el : TypeId} {fr : Nat × Nat} (hh : w.heap[n]? = some (.cells C el fr)) (i : Nat) : w.cell? ⟨n, i, none⟩ = C[i]? := by
  simp [World.cell?, hh]

theorem addr_add (n i k : Nat) : (⟨n, i, none⟩ : Addr).add k = ⟨n, i + k, none⟩ := by
  unfold Addr.add; split <;> simp_all

/-- What Mini reads in a row of cells, the model reads. -/
theorem read_ok {t : TypeId} {hw : Option Nat} (ht : howP P t = some hw) {n o off : Nat} {C : Array Value} {el : TypeId} {fr : Nat × Nat} (hh : w.heap[n]? = some (.cells C el fr))
    {pre L post : List Value} (hC : C.toList = pre ++ L ++ post) (ho : pre.length = o) {cs : List MV} (hL : Vs E cs L) (hsc : Sc L) {v : MV} (h : loadFrom cs off hw = some v) :
    ∃ x, (loadVar t ⟨n, o + off, none⟩).run P w = .ok x w ∧ V E v x := by
  cases hw with
  | none =>
    obtain ⟨ha, _⟩ := howP_none ht
    simp only [loadFrom] at h
    obtain ⟨r, h1, h2⟩ := hL.get h
    refine ⟨r, ?_, h2⟩
    have h3 := seg_get hC h1
    rw [ho] at h3
    simp [loadVar, run_isAgg ha w, cell_at hh, h3]
  | some k =>
    obtain ⟨ha, hk⟩ := howP_some ht
    simp only [loadFrom, takeAt] at h
    split at h
    · rename_i hle
      simp only [Option.map_some, Option.some.injEq] at h
      subst h
      have hlen := hL.length
      refine ⟨.agg ((L.drop off).take k).toArray, ?_, .agg ((hL.drop off).take k) ((hsc.drop off).take k)⟩
      have hl : ((L.drop off).take k).length = k := by simp; omega
      have := run_loadCells_list (P := P) w ⟨n, o + off, none⟩ ((L.drop off).take k) (fun j v hj => by
        rw [addr_add, cell_at hh]
        have hj' : L[off + j]? = some v := by
          rw [List.getElem?_take] at hj
          split at hj
          · rwa [List.getElem?_drop] at hj
          · simp at hj
        have h3 := seg_get hC hj'
        rw [ho] at h3
        rw [← h3]; congr 1; omega)
      rw [hl] at this
      simp [loadVar, run_isAgg ha w, run_sizeOf hk w, this]
    · simp at h

theorem part_ok {t : TypeId} {hw : Option Nat} (ht : howP P t = some hw) {cs : List MV} {L : List Value} (hL : Vs E cs L) (hsc : Sc L) {off : Nat} {v : MV} (h : partM cs off hw = some v) :
    ∃ x, (part t L.toArray off).run P w = .ok x w ∧ V E v x := by
  cases hw with
  | none =>
    obtain ⟨ha, _⟩ := howP_none ht
    simp only [partM, loadFrom] at h
    obtain ⟨r, h1, h2⟩ := hL.get h
    exact ⟨r, by simp [part, run_isAgg ha w, h1], h2⟩
  | some k =>
    obtain ⟨ha, hk⟩ := howP_some ht
    simp only [partM, loadFrom, takeAt] at h
    split at h
    · simp only [Option.map_some, Option.some.injEq] at h
      subst h
      refine ⟨.agg ((L.drop off).take k).toArray, ?_, .agg ((hL.drop off).take k) ((hsc.drop off).take k)⟩
      have e : L.toArray.extract off (off + k) = ((L.drop off).take k).toArray := by
        simp [List.extract_toArray, List.extract, List.take_drop]
      simp [part, run_isAgg ha w, run_sizeOf hk w, e]
    · simp at h
end reads

end Go.Mini
