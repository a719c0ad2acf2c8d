/-
Operation by operation: literals, variables, loads and stores.
-/
import Derived.Test.YtnekgoanadbmmaaMiH
namespace Go.Mini
open Go.RowKit
set_option linter.unusedSimpArgs false

def setAtV : List Value → Nat → List Value → List Value
  | cs, _, [] => cs
  | cs, o, v :: vs => setAtV (cs.set o v) (o + 1) vs

section lists
variable {E : Env}

theorem Vs.setAt {cs : List MV} {L : List Value} (h : Vs E cs L) : ∀ {vs : List MV} {rs : List Value}, Vs E vs rs → ∀ o, Vs E (setAt cs o vs) (setAtV L o rs) := by
  intro vs
  induction vs generalizing cs L with
  | nil => intro rs hv o; cases hv; exact h
  | cons v vs ih => intro rs hv o; cases hv with | cons h1 h2 => exact ih (h.set h1 o) h2 (o + 1)

theorem Sc.setAt {L : List Value} (h : Sc L) : ∀ {rs : List Value}, Sc rs → ∀ o, Sc (setAtV L o rs) := by
  intro rs
  induction rs generalizing L with
  | nil => intro _ o; exact h
  | cons r rs ih => intro hr o; exact ih (h.set (hr r (by simp)) o) (fun x hx => hr x (by simp [hx])) (o + 1)

theorem deepVs_setAt {cs : List MV} (h : deepVs cs = true) : ∀ {vs : List MV}, deepVs vs = true → ∀ o, deepVs (setAt cs o vs) = true := by
  intro vs
  induction vs generalizing cs with
  | nil => intro _ o; exact h
  | cons v vs ih =>
    intro hv o
    simp only [deepVs, Bool.and_eq_true] at hv
    exact ih (deepVs_set h hv.1 o) hv.2 (o + 1)

theorem length_setAt : ∀ (vs cs : List MV) (o : Nat), (setAt cs o vs).length = cs.length
  | [], _, _ => rfl
  | _ :: vs, cs, o => by simp [setAt, length_setAt vs]

theorem length_setAtV : ∀ (vs cs : List Value) (o : Nat), (setAtV cs o vs).length = cs.length
  | [], _, _ => rfl
  | _ :: vs, cs, o => by simp [setAtV, length_setAtV vs]

theorem setAtV_eq : ∀ (vs cs : List Value) (o : Nat), o + vs.length ≤ cs.length → setAtV cs o vs = cs.take o ++ vs ++ cs.drop (o + vs.length)
  | [], cs, o, _ => by simp [setAtV]
  | v :: vs, cs, o, h => by
    simp only [List.length_cons] at h
    rw [setAtV, setAtV_eq vs (cs.set o v) (o + 1) (by simp; omega)]
    have := list_seg_step cs o v vs (by omega)
    rw [this]
    simp

theorem setAtV_left : ∀ (vs L post : List Value) (o : Nat), o + vs.length ≤ L.length → setAtV (L ++ post) o vs = setAtV L o vs ++ post
  | [], L, post, o, _ => rfl
  | v :: vs, L, post, o, h => by
    simp only [List.length_cons] at h
    simp only [setAtV]
    rw [List.set_append_left _ _ (by omega), setAtV_left vs (L.set o v) post (o + 1) (by simp; omega)]

/-- The model's fold that lays a part. -/
theorem fold_set (off : Nat) : ∀ (vs : List Value) (k : Nat) (cells : Array Value), ((vs.zipIdx k).foldl (fun (cs : Array Value) (p : Value × Nat) => cs.setIfInBounds (off + p.2) p.1) cells).toList = setAtV cells.toList (off + k) vs
  | [], _, _ => rfl
  | v :: vs, k, cells => by
    simp only [List.zipIdx_cons, List.foldl_cons, setAtV]
    rw [fold_set off vs (k + 1) _]
    simp [Array.toList_setIfInBounds, Nat.add_assoc]

theorem fold_setA (off : Nat) (vs : Array Value) (cells : Array Value) : ((vs.zipIdx).foldl (fun (cs : Array Value) (p : Value × Nat) => cs.setIfInBounds (off + p.2) p.1) cells).toList = setAtV cells.toList off vs.toList := by
  rw [← Array.foldl_toList, Array.toList_zipIdx]
  have := fold_set off vs.toList 0 cells
  simpa using this

theorem fill_ok {P : Program} {T : List MV} {a : Act} (hT : Vs E T a.tmps.toList) {place : Nat → Option (Nat × Nat)} : ∀ {ps : List (Nat × Operand)} {ps' : List (Nat × Nat × Opd)} {z cs : List MV} {Z : Array Value},
    trParts P place ps = some ps' → fillM T z ps' = some cs → Vs E z Z.toList → Sc Z.toList → ∃ C : Array Value, Instr.fill place Z (ps.map fun q => (q.1, a.eval q.2)) = some C ∧ Vs E cs C.toList ∧ Sc C.toList
  | [], ps', z, cs, Z, hp, hf, hz, hs => by
    simp [trParts] at hp
    subst hp
    simp [fillM] at hf
    subst hf
    exact ⟨Z, rfl, hz, hs⟩
  | (i, x) :: ps, ps', z, cs, Z, hp, hf, hz, hs => by
    simp only [trParts] at hp
    cases hpl : place i with
    | none => simp [hpl] at hp
    | some on =>
      obtain ⟨off, n⟩ := on
      cases hx : trOpd x with
      | none => simp [hpl, hx] at hp
      | some y =>
        cases hr : trParts P place ps with
        | none => simp [hpl, hx, hr] at hp
        | some ys =>
          simp only [hpl, hx, hr, Option.some.injEq] at hp
          subst hp
          simp only [fillM] at hf
          cases hc : cellsOf (getO T y) with
          | none => simp [hc] at hf
          | some vc =>
            simp only [hc] at hf
            split at hf
            case isFalse => simp at hf
            rename_i hcond
            obtain ⟨hv1, hv2⟩ := cells_V (getO_V hT hx) hc
            have hl := hv1.length
            have hzl := hz.length
            have hset := fold_setA off (a.eval x).cells Z
            have ih := fill_ok (place := place) hT (Z := ((a.eval x).cells.zipIdx).foldl (fun (cs : Array Value) (p : Value × Nat) => cs.setIfInBounds (off + p.2) p.1) Z) hr hf (by rw [hset]; exact hz.setAt hv1 off) (by rw [hset]; exact hs.setAt hv2 off)
            obtain ⟨C, h1, h2, h3⟩ := ih
            refine ⟨C, ?_, h2, h3⟩
            have hsz : (a.eval x).cells.size = n := by simp at hl; omega
            have hle : ¬ (Z.size < off + (a.eval x).cells.size) := by simp at hzl; omega
            simp only [List.map_cons, Instr.fill, hpl]
            rw [if_neg (by simp only [Bool.or_eq_true, decide_eq_true_eq, not_or]; exact ⟨by omega, by omega⟩)]
            exact h1
end lists

section ops
variable {P : Program} {pm : Nat → Bool} {E : Env} {m : Mem} {ls : List LRec} {base : Nat} {w : World} {T : List MV} {a : Act} {o : Oper}

theorem blk?_some {b g : Nat} {k : Blk} (h : blk? m b g = some k) : m[b]? = some k ∧ k.gen = g := by
  unfold blk? at h
  split at h
  · split at h
    · rename_i h1 h2; simp at h; subst h; exact ⟨h1, h2⟩
    · simp at h
  · simp at h

theorem ok_load (hs : Sim P pm E m ls base w.heap) (hT : Vs E T a.tmps.toList) {t : TypeId} {x : Operand} {x' : Opd} (ho : o.op = .load t x) (hx : trOpd x = some x') {n : Option Nat} (hn : howP P t = some n) {v : MV} (hv : loadV m n (getO T x') = some v) :
    OpOk P pm E m ls base w ((execOp a.eval o).run P w) v := by
  have h1 := getO_V hT hx
  generalize getO T x' = p at *
  generalize hq : a.eval x = q at *
  cases h1 <;> simp only [loadV, reduceCtorEq] at hv
  case ptr b g off ad hb hg h =>
    cases hk : blk? m b g with
    | none => simp [hk] at hv
    | some k =>
      simp only [hk] at hv
      obtain ⟨hm, hgen⟩ := blk?_some hk
      have hB := hs.blk b k hm
      obtain ⟨C, el, L, post, c1, c2, c3, c4, c5⟩ := hB.mem
      have e := h (by rw [hB.gen, hgen])
      obtain ⟨r, hr, hV⟩ := read_ok (P := P) hn (o := 0) (off := off) c1 (pre := []) (by simpa using c3) rfl c4 c5 hv
      refine .pure hs (x := r) ?_ hV
      simp only [execOp, ho, hq, Instr.loadAt, Instr.sureAddr, e]
      simp only [Nat.zero_add] at hr
      simp [hr]
  case pimm cs off nn o' L hseg hd hL hsc =>
    obtain ⟨C, pre, post, d1, d2, d3⟩ := hseg
    obtain ⟨⟨el, fr, c1⟩, _⟩ := hs.imm _ _ d1
    obtain ⟨r, hr, hV⟩ := read_ok (P := P) hn (off := off) c1 d2 d3 hL hsc hv
    refine .pure hs (x := r) ?_ hV
    simp only [execOp, ho, hq, Instr.loadAt, Instr.sureAddr]
    simp [hr]

/-- A row of cells that Mini holds as a tree. -/
theorem newI (hs : Sim P pm E m ls base w.heap) (C : Array Value) (el : TypeId) : EnvLe E (E.addI w.heap.size C) ∧ Sim P pm (E.addI w.heap.size C) m ls base (w.alloc (.cells C el)).heap ∧ Stp base w (w.alloc (.cells C el)) ∧ Seg (E.addI w.heap.size C) w.heap.size 0 C.toList :=
  ⟨Env.le_addI C hs.fresh, hs.pushI C el (0, 0), .alloc hs.bas _, ⟨C, [], [], by simp [Env.addI], by simp, rfl⟩⟩

/-- A row of cells that is a block of Mini's. -/
theorem newB (hs : Sim P pm E m ls base w.heap) (C : Array Value) (el : TypeId) {cs : List MV} (g : Nat) (d : Bool) {L post : List Value} (hC : C.toList = L ++ post) (hL : Vs E cs L) (hsc : Sc L) (hd : d = true → deepVs cs = true) :
    EnvLe E (E.addB w.heap.size C.size g) ∧ Sim P pm (E.addB w.heap.size C.size g) (m ++ [⟨cs, g, d⟩]) ls base (w.alloc (.cells C el)).heap ∧ Stp base w (w.alloc (.cells C el)) ∧
      (E.addB w.heap.size C.size g).gen m.length = g ∧ (E.addB w.heap.size C.size g).pl m.length = w.heap.size ∧ (E.addB w.heap.size C.size g).cap m.length = C.size ∧ m.length < (E.addB w.heap.size C.size g).nb :=
  ⟨Env.le_addB E _ _ _, hs.pushB C el ⟨cs, g, d⟩ L post hC hL hsc hd, .alloc hs.bas _, by simp [Env.addB, hs.nb], by simp [Env.addB, hs.nb], by simp [Env.addB, hs.nb], by simp [Env.addB, hs.nb]⟩

theorem ok_alloc (hs : Sim P pm E m ls base w.heap) {t : TypeId} (ho : o.op = .alloc t) {z : Value} (hz : zeroP P t = some z) {cs : List MV} (hc : cvs z.cells.toList = some cs) :
    OpOk P pm E (m ++ [⟨cs, 0, deepVs cs⟩]) ls base w ((execOp a.eval o).run P w) (.ptr m.length 0 0) := by
  obtain ⟨h1, h2, h3, h4, h5, h6, h7⟩ := newB hs z.cells t 0 (deepVs cs) (L := z.cells.toList) (post := []) (by simp) (cvs_V hc) (cvs_Sc hc) id
  refine ⟨_, _, _, .inl ?_, h1, h2, .ptr h7 (by rw [h4]; exact Nat.le_refl _) (fun _ => by rw [h5]), h3⟩
  simp [execOp, ho, Instr.alloc, run_zero hz w, newVar, newRow]

theorem ok_alloci (hs : Sim P pm E m ls base w.heap) {t : TypeId} (ho : o.op = .alloc t) {z : Value} (hz : zeroP P t = some z) {cs : List MV} (hc : cvs z.cells.toList = some cs) (hd : deepVs cs = true) :
    OpOk P pm E m ls base w ((execOp a.eval o).run P w) (.pimm cs 0) := by
  obtain ⟨h1, h2, h3, h4⟩ := newI hs z.cells t
  refine ⟨.pointer (some ⟨w.heap.size, 0 + 0, none⟩), _, _, .inl ?_, h1, h2, .pimm h4 hd (cvs_V hc) (cvs_Sc hc), h3⟩
  simp [execOp, ho, Instr.alloc, run_zero hz w, newVar, newRow]

theorem ok_box (hs : Sim P pm E m ls base w.heap) (hT : Vs E T a.tmps.toList) {t : TypeId} {x : Operand} {x' : Opd} (ho : o.op = .box t x) (hx : trOpd x = some x') {cs : List MV} (hc : cellsOf (getO T x') = some cs) :
    OpOk P pm E (m ++ [⟨cs, 0, deepVs cs⟩]) ls base w ((execOp a.eval o).run P w) (.ptr m.length 0 0) := by
  obtain ⟨hv, hsc⟩ := cells_V (getO_V hT hx) hc
  obtain ⟨h1, h2, h3, h4, h5, h6, h7⟩ := newB hs (a.eval x).cells t 0 (deepVs cs) (L := (a.eval x).cells.toList) (post := []) (by simp) hv hsc id
  refine ⟨_, _, _, .inl ?_, h1, h2, .ptr h7 (by rw [h4]; exact Nat.le_refl _) (fun _ => by rw [h5]), h3⟩
  simp [execOp, ho, Instr.box, newVar, newRow]

theorem ok_boxi (hs : Sim P pm E m ls base w.heap) (hT : Vs E T a.tmps.toList) {t : TypeId} {x : Operand} {x' : Opd} (ho : o.op = .box t x) (hx : trOpd x = some x') {cs : List MV} (hc : cellsOf (getO T x') = some cs) (hd : deepVs cs = true) :
    OpOk P pm E m ls base w ((execOp a.eval o).run P w) (.pimm cs 0) := by
  obtain ⟨hv, hsc⟩ := cells_V (getO_V hT hx) hc
  obtain ⟨h1, h2, h3, h4⟩ := newI hs (a.eval x).cells t
  refine ⟨.pointer (some ⟨w.heap.size, 0 + 0, none⟩), _, _, .inl ?_, h1, h2, .pimm h4 hd (hv.mono h1) hsc, h3⟩
  simp [execOp, ho, Instr.box, newVar, newRow]

theorem ok_store (hs : Sim P pm E m ls base w.heap) (hT : Vs E T a.tmps.toList) {t : TypeId} {x y : Operand} {x' y' : Opd} (ho : o.op = .store t x y) (hx : trOpd x = some x') (hy : trOpd y = some y') {n : Nat} (hn : sizeP P t = some n)
    {m' : Mem} (hv : storeV m n (getO T x') (getO T y') = some m') : OpOk P pm E m' ls base w ((execOp a.eval o).run P w) (.tup []) := by
  have h1 := getO_V hT hx
  have h2 := getO_V hT hy
  generalize getO T x' = p at *
  generalize getO T y' = u at *
  generalize hq : a.eval x = q at *
  cases h1 <;> simp only [storeV, reduceCtorEq] at hv
  case ptr b g off ad hb hg h =>
    cases hk : blk? m b g with
    | none => simp [hk] at hv
    | some k =>
      cases hc : cellsOf u with
      | none => simp [hk, hc] at hv
      | some cs =>
        simp only [hk, hc] at hv
        split at hv
        case isFalse => simp at hv
        rename_i hcond
        obtain ⟨hcl, hol⟩ := hcond
        obtain rfl := Option.some.inj hv
        obtain ⟨hm, hgen⟩ := blk?_some hk
        have hB := hs.blk b k hm
        obtain ⟨C, el, L, post, c1, c2, c3, c4, c5⟩ := hB.mem
        have e := h (by rw [hB.gen, hgen])
        obtain ⟨hv1, hv2⟩ := cells_V h2 hc
        have hl1 := hv1.length
        have hl4 := c4.length
        have hsz : (a.eval y).cells.size = n := by simp at hl1; omega
        have hfit : off + 0 + (a.eval y).cells.toList.length ≤ C.size := by
          have : C.toList.length = L.length + post.length := by rw [c3]; simp
          simp at this ⊢; omega
        have hrun := run_storeCells_at P (E.pl b) off el (a.eval y).cells.toList 0 C w c1 hfit hv2
        have hnew : (C.toList.take (off + 0) ++ (a.eval y).cells.toList ++ C.toList.drop (off + 0 + (a.eval y).cells.toList.length)) = setAtV L off (a.eval y).cells.toList ++ post := by
          rw [← setAtV_left _ _ _ _ (by rw [← hl1, ← hl4]; omega), ← c3, setAtV_eq _ _ _ (by simpa using hfit)]
          simp
        rw [hnew] at hrun
        refine ⟨undef, w.setRow (E.pl b) (setAtV L off (a.eval y).cells.toList ++ post).toArray, E, .inr ⟨?_, rfl⟩, .refl _, ?_, .tup .nil, .setRow hB.pl _ C el c1⟩
        · simp only [execOp, ho, hq, Instr.storeAt, Instr.sureAddr, e]
          simp [storeVar, run_sizeOf hn w, hsz, hrun]
        · refine hs.row hm c1 (C' := (setAtV L off (a.eval y).cells.toList ++ post).toArray) (L := setAtV L off (a.eval y).cells.toList) (post := post) (by simp) ?_ rfl (c4.setAt hv1 off) (c5.setAt hv2 off) (fun hd => ?_)
          · simp only [List.size_toArray, List.length_append, length_setAtV]
            have : C.toList.length = L.length + post.length := by rw [c3]; simp
            simpa using this.symm
          · simp only [Bool.and_eq_true] at hd
            exact deepVs_setAt (hB.deep hd.1) hd.2 off

theorem ok_build (hs : Sim P pm E m ls base w.heap) (hT : Vs E T a.tmps.toList) {t : TypeId} {ps : Array (Nat × Operand)} {ps' : List (Nat × Nat × Opd)} (ho : o.op = .build t ps) {z : Value} (hz : zeroP P t = some z) (hp : trParts P (placesP P t) ps.toList = some ps')
    (hsz : sizedP P t = true) {zs : List MV} (hzs : cvs z.cells.toList = some zs) {cs : List MV} (hf : fillM T zs ps' = some cs) : OpOk P pm E m ls base w ((execOp a.eval o).run P w) (.agg cs) := by
  obtain ⟨C, h1, h2, h3⟩ := fill_ok hT hp hf (cvs_V hzs) (cvs_Sc hzs)
  have hV := V.agg h2 h3
  rw [Array.toArray_toList] at hV
  have e : (ps.map fun q => (q.1, a.eval q.2)).toList = ps.toList.map fun q => (q.1, a.eval q.2) := by simp
  refine .pure hs (x := .agg C) ?_ hV
  simp only [execOp, ho, Sem.run_bind, Instr.build, run_zero hz w, Result.andThen_ok]
  unfold sizedP at hsz
  split at hsz
  · rename_i fs hu
    simp only [run_underlying hu w, Result.andThen_ok]
    have hpl : ∃ places : Array (Nat × Nat), (fs.mapM fun f => do pure (f.offset, ← sizeOf f.type) : Sem (Array (Nat × Nat))).run P w = .ok places w ∧ ∀ i : Nat, places[i]? = placesP P t i := by
      obtain ⟨places, hpl⟩ : ∃ places, fs.toList.mapM (fun f => (P.info? f.type).map fun i => (f.offset, i.size)) = some places ∧ ∀ i : Nat, places[i]? = placesP P t i := by
        have key : ∀ l : List Field, (l.all fun f => (sizeP P f.type).isSome) = true → ∃ places, l.mapM (fun f => (P.info? f.type).map fun i => (f.offset, i.size)) = some places ∧
            ∀ i : Nat, places[i]? = (match l[i]? with | some f => (sizeP P f.type).map fun n => (f.offset, n) | none => none) := by
          intro l
          induction l with
          | nil => intro _; exact ⟨[], rfl, fun i => by simp⟩
          | cons f l ih =>
            intro hall
            simp only [List.all_cons, Bool.and_eq_true] at hall
            obtain ⟨pl, e1, e2⟩ := ih hall.2
            cases hi : P.info? f.type with
            | none => simp [sizeP, hi] at hall
            | some it =>
              refine ⟨(f.offset, it.size) :: pl, by simp [List.mapM_cons, hi, e1], fun i => ?_⟩
              cases i with
              | zero => simp [sizeP, hi]
              | succ i => simpa using e2 i
        obtain ⟨places, e1, e2⟩ := key fs.toList hsz
        refine ⟨places, e1, fun i => ?_⟩
        rw [e2 i]
        simp only [placesP, hu, Array.getElem?_toList]
        cases fs[i]? <;> rfl
      refine ⟨places.toArray, ?_, fun i => by simpa using hpl.2 i⟩
      have := run_places (P := P) w fs.toList places hpl.1
      rw [Array.mapM_eq_mapM_toList]
      simp only [bind_pure_comp, Sem.run_map]
      simp [this]
    obtain ⟨places, e1, e2⟩ := hpl
    have e3 : (fun x : Nat => places[x]?) = placesP P t := funext e2
    simp only [Sem.run_bind, e1, Result.andThen_ok, e3, e, h1]
    rfl
  · rename_i n el hu
    simp only [run_underlying hu w, Result.andThen_ok]
    cases hk : sizeP P el with
    | none => simp [hk] at hsz
    | some k =>
      have e3 : (fun i : Nat => some (i * k, k)) = placesP P t := by
        funext i
        simp [placesP, hu, hk]
      simp only [Sem.run_bind, run_sizeOf hk w, Result.andThen_ok, e3, e, h1]
      rfl
  · simp at hsz

theorem ok_blitm (hs : Sim P pm E m ls base w.heap) (hT : Vs E T a.tmps.toList) {t e : TypeId} {len sz : Nat} {ps : Array (Nat × Operand)} {ps' : List (Nat × Nat × Opd)} (ho : o.op = .buildSlice t len ps) (hu : P.underlying t = some (.slice e)) {n : Nat} (hn : sizeP P e = some n)
    (hle : ¬ len * n > 2 ^ 24) {z : Array Value} (hz : (if len * n = 0 then some #[] else (zeroP P e).map Value.cells) = some z) (hp : trParts P (fun i => some (i * n, n)) ps.toList = some ps')
    {zs : List MV} (hzs : cvs ((Array.range (len * n)).map (z[· % z.size]!)).toList = some zs) {cs : List MV} (hf : fillM T zs ps' = some cs) (hsz : cs.length = len * sz) : OpOk P pm E (m ++ [⟨cs, 0, deepVs cs⟩]) ls base w ((execOp a.eval o).run P w) (.sl m.length 0 0 len sz (some len)) := by
  obtain ⟨C, h1, h2, h3⟩ := fill_ok hT hp hf (cvs_V hzs) (cvs_Sc hzs)
  obtain ⟨g1, g2, g3, g4, g5, g6, g7⟩ := newB hs C e 0 (deepVs cs) (L := C.toList) (post := []) (by simp) h2 h3 id
  have hCs : C.size = len * sz := by have := h2.length; simp at this; omega
  refine ⟨.slice (some ⟨w.heap.size, 0, none⟩) len len, _, _, .inl ?_, g1, g2, .sl g7 (by rw [g4]; exact Nat.le_refl _) (Nat.le_refl _) (fun c hc => by simpa using hc) (fun _ => ⟨by rw [g5], by rw [g6, hCs]; omega⟩), g3⟩
  have e' : (ps.map fun q => (q.1, a.eval q.2)).toList = ps.toList.map fun q => (q.1, a.eval q.2) := by simp
  by_cases h0 : len * n = 0
  · rw [if_pos h0] at hz
    simp only [Option.some.injEq] at hz
    subst hz
    simp only [execOp, ho, Sem.run_bind, Instr.buildSlice, run_underlying hu w, run_sizeOf hn w, Result.andThen_ok, if_neg hle, if_pos h0, Sem.run_pure, e', h1]
    rfl
  · rw [if_neg h0] at hz
    cases hzp : zeroP P e with
    | none => simp [hzp] at hz
    | some zv =>
      simp only [hzp, Option.map_some, Option.some.injEq] at hz
      subst hz
      simp only [execOp, ho, Sem.run_bind, Instr.buildSlice, run_underlying hu w, run_sizeOf hn w, Result.andThen_ok, if_neg hle, if_neg h0, run_zero hzp w, Sem.run_pure, e', h1]
      rfl

theorem ok_blit (hs : Sim P pm E m ls base w.heap) (hT : Vs E T a.tmps.toList) {t e : TypeId} {len : Nat} {ps : Array (Nat × Operand)} {ps' : List (Nat × Nat × Opd)} (ho : o.op = .buildSlice t len ps) (hu : P.underlying t = some (.slice e)) {n : Nat} (hn : sizeP P e = some n)
    (hle : ¬ len * n > 2 ^ 24) {z : Array Value} (hz : (if len * n = 0 then some #[] else (zeroP P e).map Value.cells) = some z) (hp : trParts P (fun i => some (i * n, n)) ps.toList = some ps')
    {zs : List MV} (hzs : cvs ((Array.range (len * n)).map (z[· % z.size]!)).toList = some zs) {cs : List MV} (hf : fillM T zs ps' = some cs) (hd : deepVs cs = true) : OpOk P pm E m ls base w ((execOp a.eval o).run P w) (.lit cs len (some len)) := by
  obtain ⟨C, h1, h2, h3⟩ := fill_ok hT hp hf (cvs_V hzs) (cvs_Sc hzs)
  obtain ⟨g1, g2, g3, g4⟩ := newI hs C e
  refine ⟨.slice (some ⟨w.heap.size, 0, none⟩) len len, _, _, .inl ?_, g1, g2, .lit (.inr g4) hd (h2.mono g1) h3 (Nat.le_refl _) (fun c hc => by simpa using hc), g3⟩
  have e' : (ps.map fun q => (q.1, a.eval q.2)).toList = ps.toList.map fun q => (q.1, a.eval q.2) := by simp
  by_cases h0 : len * n = 0
  · rw [if_pos h0] at hz
    simp only [Option.some.injEq] at hz
    subst hz
    simp only [execOp, ho, Sem.run_bind, Instr.buildSlice, run_underlying hu w, run_sizeOf hn w, Result.andThen_ok, if_neg hle, if_pos h0, Sem.run_pure, e', h1]
    rfl
  · rw [if_neg h0] at hz
    cases hzp : zeroP P e with
    | none => simp [hzp] at hz
    | some zv =>
      simp only [hzp, Option.map_some, Option.some.injEq] at hz
      subst hz
      simp only [execOp, ho, Sem.run_bind, Instr.buildSlice, run_underlying hu w, run_sizeOf hn w, Result.andThen_ok, if_neg hle, if_neg h0, run_zero hzp w, Sem.run_pure, e', h1]
      rfl

end ops
end Go.Mini
