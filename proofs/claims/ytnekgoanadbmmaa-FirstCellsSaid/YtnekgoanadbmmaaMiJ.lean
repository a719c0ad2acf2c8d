/-
Operation by operation: make and append; an array's slice.
-/
import Derived.Test.YtnekgoanadbmmaaMiI
namespace Go.Mini
open Go.RowKit
set_option linter.unusedSimpArgs false

theorem madeCells_list (z : Array Value) : ∀ c : Nat, (madeCells z (c * z.size)).toList = (List.replicate c z.toList).flatten
  | 0 => by simp [madeCells]
  | c + 1 => by
    have ih := madeCells_list z c
    rw [List.replicate_succ', List.flatten_append, ← ih]
    simp only [madeCells, Array.toList_map, Array.toList_range, List.flatten_cons, List.flatten_nil, List.append_nil]
    rw [Nat.add_mul, Nat.one_mul, List.range_add, List.map_append, List.map_map]
    congr 1
    apply List.ext_getElem
    · simp
    · intro i h1 h2
      have hi : i < z.size := by simpa using h1
      have hm : (c * z.size + i) % z.size = i := by
        rw [Nat.mul_comm, Nat.mul_add_mod, Nat.mod_eq_of_lt hi]
      simp [hm, hi]

section ops
variable {P : Program} {pm : Nat → Bool} {E : Env} {m : Mem} {ls : List LRec} {base : Nat} {w : World} {T : List MV} {a : Act} {o : Oper}

theorem Vs.flat {z : List MV} {Z : List Value} (h : Vs E z Z) : ∀ c, Vs E (List.replicate c z).flatten (List.replicate c Z).flatten
  | 0 => by simp; exact .nil
  | c + 1 => by simp only [List.replicate_succ, List.flatten_cons]; exact h.append (Vs.flat h c)

theorem Sc.flat {Z : List Value} (h : Sc Z) : ∀ c, Sc (List.replicate c Z).flatten
  | 0 => by simp; exact Sc.nil
  | c + 1 => by simp only [List.replicate_succ, List.flatten_cons]; exact h.append (Sc.flat h c)

theorem deepVs_flat {z : List MV} (h : deepVs z = true) : ∀ c, deepVs (List.replicate c z).flatten = true
  | 0 => by simp [deepVs]
  | c + 1 => by simp only [List.replicate_succ, List.flatten_cons, deepVs_append, h, deepVs_flat h c]; rfl

theorem ok_mksl (hs : Sim P pm E m ls base w.heap) (hT : Vs E T a.tmps.toList) {t e : TypeId} {l c : Operand} {l' c' : Opd} (ho : o.op = .makeSlice t l c) (hu : P.underlying t = some (.slice e)) {sz bytes : Nat} (hz : sizeP P e = some sz) (hb : bytesP P e = some bytes)
    {z : Value} (hzr : zeroP P e = some z) {zs : List MV} (hzs : cvs z.cells.toList = some zs) (hl : trOpd l = some l') (hc : trOpd c = some c') {ln cn : Nat} (hln : natOf (getO T l') = some ln) (hcn : natOf (getO T c') = some cn)
    (hle : ln ≤ cn) (hr : roomy cn bytes = true) (h53 : cn ≤ 9007199254740992) (hzl : zs.length = sz) :
    OpOk P pm E (m ++ [⟨(List.replicate cn zs).flatten, 0, deepVs zs⟩]) ls base w ((execOp a.eval o).run P w) (.sl m.length 0 0 ln sz (some cn)) := by
  obtain ⟨kl, el⟩ := natOf_V (getO_V hT hl) hln
  obtain ⟨kc, ec⟩ := natOf_V (getO_V hT hc) hcn
  cases hi : P.info? e with
  | none => simp [sizeP, hi] at hz
  | some it =>
    simp [sizeP, hi] at hz
    simp [bytesP, hi] at hb
    simp [zeroP, hi] at hzr
    have hroom : (it.bytes : Int) * (cn : Int) ≤ 281474976710656 := by
      unfold roomy at hr
      simp only [decide_eq_true_eq] at hr
      have : ((it.bytes * cn : Nat) : Int) ≤ 281474976710656 := by rw [hb, Nat.mul_comm]; omega
      rwa [Int.natCast_mul] at this
    have hrun := run_make (P := P) w t e it z hu hi hzr kl kc ln cn (by omega) (by omega) hroom (by omega)
    simp only [Int.toNat_natCast] at hrun
    have hzsz : z.cells.size = sz := by have := (cvs_V (E := E) hzs).length; simp at this; omega
    have hcells : (madeCells z.cells (cn * it.size)).toList = (List.replicate cn z.cells.toList).flatten := by
      rw [hz, ← hzsz]; exact madeCells_list z.cells cn
    obtain ⟨h1, h2, h3, h4, h5, h6, h7⟩ := newB hs (madeCells z.cells (cn * it.size)) e 0 (deepVs zs) (L := (List.replicate cn z.cells.toList).flatten) (post := []) (by simp [hcells]) ((cvs_V hzs).flat cn) ((cvs_Sc hzs).flat cn) (fun h => deepVs_flat h cn)
    refine ⟨_, _, _, .inl ?_, h1, h2, .sl h7 (by rw [h4]; exact Nat.le_refl _) hle (fun c hc => by simpa using hc) (fun _ => ⟨by rw [h5], ?_⟩), h3⟩
    · simp only [execOp, ho, el, ec, Sem.run_bind, hrun, Result.andThen_ok]
      rfl
    · rw [h6, size_madeCells, hz]; omega

theorem src_ok (hs : Sim P pm E m ls base w.heap) {sz n : Nat} {x : MV} {r : Value} (hx : V E x r) (hn : lenM x = some n) {xs : List MV} {d : Bool} (h : srcCells m sz x = some (xs, d)) :
    ∃ b c R, r = .slice b n c ∧ Vs E xs R ∧ Sc R ∧ (d = true → deepVs xs = true) ∧ R.length = n * sz ∧ (∀ ad, b = some ad → ∀ j v, R[j]? = some v → w.cell? (ad.add j) = some v) ∧ (b = none → n = 0) := by
  cases hx <;> simp only [lenM, Option.some.injEq, reduceCtorEq] at hn <;> subst hn
  case nils =>
    simp only [srcCells, Option.some.injEq, Prod.mk.injEq] at h
    obtain ⟨rfl, rfl⟩ := h
    exact ⟨none, 0, [], rfl, .nil, Sc.nil, fun _ => rfl, by simp, fun ad h => by simp at h, fun _ => rfl⟩
  case sl b g off n sz' cap kc ad hb hg hl hk hcur =>
    simp only [srcCells] at h
    cases hbk : blk? m b g with
    | none => simp [hbk] at h
    | some k =>
      simp only [hbk] at h
      split at h
      case isFalse => simp at h
      rename_i hsz
      subst hsz
      unfold takeAt at h
      split at h
      case isFalse => simp at h
      rename_i hle
      simp only [Option.map_some, Option.some.injEq, Prod.mk.injEq] at h
      obtain ⟨rfl, rfl⟩ := h
      obtain ⟨hm, hgen⟩ := blk?_some hbk
      have hB := hs.blk b k hm
      obtain ⟨C, el, L, post, c1, c2, c3, c4, c5⟩ := hB.mem
      obtain ⟨e, _⟩ := hcur (by rw [hB.gen, hgen])
      have hl4 := c4.length
      refine ⟨some ad, cap, (L.drop off).take (n * sz'), rfl, (c4.drop _).take _, (c5.drop _).take _, fun hd => deepVs_take (deepVs_drop (hB.deep hd) _) _, by simp; omega, ?_, fun h => by simp at h⟩
      intro ad' had j v hj
      simp only [Option.some.injEq] at had
      subst had
      rw [e, addr_add, cell_at c1]
      have hj' : L[off + j]? = some v := by
        rw [List.getElem?_take] at hj
        split at hj
        · rwa [List.getElem?_drop] at hj
        · simp at hj
      have := seg_get (pre := []) (by simpa using c3) hj'
      simpa using this
  case lit cs n cap nb o' kc L hseg hd hL hsc hl hk =>
    simp only [srcCells] at h
    split at h
    case isFalse => simp at h
    rename_i hlen
    simp only [Option.some.injEq, Prod.mk.injEq] at h
    obtain ⟨rfl, rfl⟩ := h
    have hl4 := hL.length
    refine ⟨some ⟨nb, o', none⟩, cap, L, rfl, hL, hsc, fun _ => hd, by omega, ?_, fun h => by simp at h⟩
    intro ad' had j v hj
    rcases hseg with ⟨hL0, _⟩ | hseg
    · rw [hL0] at hj; simp at hj
    obtain ⟨C, pre, post, d1, d2, d3⟩ := hseg
    obtain ⟨⟨el, fr, c1⟩, _⟩ := hs.imm _ _ d1
    simp only [Option.some.injEq] at had
    subst had
    rw [addr_add, cell_at c1, ← d3]
    exact seg_get d2 hj

/-- What append does where nothing is appended. -/
theorem append_none {t ty e : TypeId} {it : TypeInfo} (hu : P.underlying t = some (.slice e)) (hi : P.info? e = some it) (b : Option Addr) (sLen sCap : Nat) (hle : sLen ≤ sCap) (b' : Option Addr) (c' : Nat) :
    (Builtin.append_ #[t, t] ty #[.slice b sLen sCap, .slice b' 0 c']).run P w = .ok (.slice b sLen sCap) w := by
  cases b <;> cases b' <;> simp [Builtin.append_, run_underlying hu, sizeOf, typeInfo, hi, Builtin.lenOf, hle, Builtin.firstCells, loadCells, loadCellsFrom, storeCells]

/-- What append does where there is room. -/
theorem append_room {t ty e : TypeId} {it : TypeInfo} (hu : P.underlying t = some (.slice e)) (hi : P.info? e = some it) (b : Nat) (sLen sCap : Nat) {n c' : Nat} {a' : Addr} (hle : sLen + n ≤ sCap) {C : Array Value} {el : TypeId} (hC : w.heap[b]? = some (.cells C el (0, 0)))
    {R : List Value} (hR : R.length = n * it.size) (hsc : Sc R) (hcell : ∀ j v, R[j]? = some v → w.cell? (a'.add j) = some v) (hfit : sLen * it.size + R.length ≤ C.size) :
    (Builtin.append_ #[t, t] ty #[.slice (some ⟨b, 0, none⟩) sLen sCap, .slice (some a') n c']).run P w =
      .ok (.slice (some ⟨b, 0, none⟩) (sLen + n) sCap) (w.setRow b (C.toList.take (sLen * it.size) ++ R ++ C.toList.drop (sLen * it.size + R.length)).toArray) := by
  have hf := run_firstCells_some (P := P) w it.size n a' n c' R hR hcell
  have hst := run_storeCells_at P b (sLen * it.size) el R 0 C w hC (by simpa using hfit) hsc
  have hadd : (⟨b, 0, none⟩ : Addr).add (sLen * it.size) = ⟨b, sLen * it.size, none⟩ := by rw [addr_add, Nat.zero_add]
  simp [Builtin.append_, run_underlying hu, sizeOf, typeInfo, hi, Builtin.lenOf, hle, hf, hadd, hst]

theorem grownCap_ge {need old : Nat} {e : TypeId} (w : World) : need ≤ grownCap w need old e := by
  unfold grownCap Question.cut
  exact Nat.le_add_right _ _

theorem zeroCells_size (z : Array Value) (n : Nat) : (Builtin.zeroCells z n).size = n * z.size := by simp [Builtin.zeroCells]

/-- A grown slice as a new block of Mini's. -/
theorem grow_new (hs : Sim P pm E m ls base w.heap) {old xs : List MV} {O R : List Value} (hO : Vs E old O) (hOs : Sc O) (hR : Vs E xs R) (hRs : Sc R) {dd : Bool} (hd : dd = true → deepVs (old ++ xs) = true) {z : Array Value} {sz len n g cap : Nat} (hz : z.size = sz)
    (hOl : O.length = len * sz) (hRl : R.length = n * sz) (hcap : len + n ≤ cap) {e : TypeId} :
    OpOk P pm E (m ++ [⟨old ++ xs, g, dd⟩]) ls base w (.ok (.value (.slice (some ⟨w.heap.size, 0, none⟩) (len + n) cap)) (w.drew.alloc (.cells (O.toArray ++ R.toArray ++ Builtin.zeroCells z (cap - (len + n))) e))) (.sl m.length g 0 (len + n) sz none) := by
  have hs' : Sim P pm E m ls base w.drew.heap := hs
  obtain ⟨h1, h2, h3, h4, h5, h6, h7⟩ := newB hs' (O.toArray ++ R.toArray ++ Builtin.zeroCells z (cap - (len + n))) e g dd (L := O ++ R) (post := (Builtin.zeroCells z (cap - (len + n))).toList) (by simp) (hO.append hR) (hOs.append hRs) hd
  refine ⟨_, _, _, .inl rfl, h1, h2, .sl h7 (by rw [h4]; exact Nat.le_refl _) hcap (fun c hc => by simp at hc) (fun _ => ⟨by rw [h5]; rfl, ?_⟩), (Stp.drew base w).trans h3⟩
  rw [h6]
  simp only [Array.size_append, List.size_toArray, zeroCells_size, hOl, hRl, hz]
  have : cap * sz = (len + n) * sz + (cap - (len + n)) * sz := by rw [← Nat.add_mul]; congr 1; omega
  rw [this, Nat.add_mul]
  omega

theorem ok_app (hs : Sim P pm E m ls base w.heap) (hT : Vs E T a.tmps.toList) {x y : Operand} {x' y' : Opd} {c : Call} (ho : o.op = .call c) (hc : c.callee = .builtin .append) (ha : c.args.toList = [x, y]) (hx : trOpd x = some x') (hy : trOpd y = some y')
    {t e : TypeId} (ht : c.argTypes.toList = [t, t]) (hu : P.underlying t = some (.slice e)) {sz bytes : Nat} (hz : sizeP P e = some sz) (hb : bytesP P e = some bytes) {z : Value} (hzr : zeroP P e = some z) (hzs : z.cells.size = sz) (hb0 : bytes ≠ 0)
    {v : MV} {m' : Mem} (hv : appM m sz bytes (getO T x') (getO T y') = some (v, m')) : OpOk P pm E m' ls base w ((execOp a.eval o).run P w) v := by
  have hX := getO_V hT hx
  have hY := getO_V hT hy
  generalize getO T x' = s at *
  generalize getO T y' = u at *
  have hrun : ∀ {r w'}, (Builtin.append_ #[t, t] o.type #[a.eval x, a.eval y]).run P w = .ok r w' → (execOp a.eval o).run P w = .ok (.value r) w' := by
    intro r w' h
    rw [run_builtin c .append hc ho _ rfl, args2 ha, arr2 ht]
    simp [builtin, h]
  cases hi : P.info? e with
  | none => simp [sizeP, hi] at hz
  | some it =>
    simp [sizeP, hi] at hz
    simp [bytesP, hi] at hb
    simp [zeroP, hi] at hzr
    unfold appM at hv
    cases hls : lenM s with
    | none => simp [hls] at hv
    | some len =>
      cases hln : lenM u with
      | none => simp [hls, hln] at hv
      | some n =>
        cases hsrc : srcCells m sz u with
        | none => simp [hls, hln, hsrc] at hv
        | some xd =>
          obtain ⟨xs, d⟩ := xd
          simp only [hls, hln, hsrc] at hv
          obtain ⟨b0, c0, R, hY', hR, hRs, hRd, hRl, hRc, hRn⟩ := src_ok hs hY hln hsrc
          obtain ⟨bs, cap, hX', hcap⟩ := lenM_V hX hls
          rw [hX'] at hX
          by_cases hn0 : n = 0
          · subst hn0
            rw [if_pos rfl] at hv
            have hv' : v = s ∧ m' = m := by
              split at hv <;> simp at hv <;> exact ⟨hv.1.symm, hv.2.symm⟩
            obtain ⟨rfl, rfl⟩ := hv'
            refine .pure hs (x := .slice bs len cap) ?_ hX
            apply hrun
            rw [hX', hY']
            exact append_none hu hi _ _ _ hcap _ _
          · rw [if_neg hn0] at hv
            split at hv
            case isFalse => simp at hv
            rename_i hroom
            unfold roomy at hroom
            simp only [decide_eq_true_eq] at hroom
            obtain ⟨ad, rfl⟩ : ∃ ad, b0 = some ad := by
              cases b0 with
              | none => exact absurd (hRn rfl) hn0
              | some ad => exact ⟨ad, rfl⟩
            have hcell := hRc ad rfl
            have hRl' : R.length = n * it.size := by rw [hz]; exact hRl
            have hnpos : 0 < n := by omega
            have hneed : len + n ≤ 35184372088832 := by
              have h1 : (len + n) * 1 ≤ (len + n) * bytes := Nat.mul_le_mul_left _ (by omega)
              omega
            have hfits : ∀ old, old < len + n → Builtin.nextslicecap (len + n) old * it.bytes ≤ 281474976710656 := fun old ho => growslice_fits ho (by rw [hb]; omega)
            -- a grown one
            have hgrow : ∀ (old : List MV) (dd : Bool) (O : List Value) (adS : Addr) (cS g : Nat), a.eval x = .slice (some adS) len cS → Vs E old O → Sc O → O.length = len * sz → (∀ j v, O[j]? = some v → w.cell? (adS.add j) = some v) → cS < len + n →
                (dd = true → deepVs (old ++ xs) = true) → OpOk P pm E (m ++ [⟨old ++ xs, g, dd⟩]) ls base w ((execOp a.eval o).run P w) (.sl m.length g 0 (len + n) sz none) := by
              intro old dd O adS cS g e1 hO hOs hOl hOc hlt hdd
              have h := run_append_grow (P := P) w t o.type e it z hu hi hzr adS len cS O (by rw [hz]; exact hOl) hOc ad n c0 R hRl' hcell hlt (by omega) (hfits _ hlt)
              rw [hrun (by rw [e1, hY']; exact h)]
              exact grow_new hs hO hOs hR hRs hdd hzs hOl hRl (grownCap_ge w)
            split at hv
            · -- nil
              have e1 := hX'.trans hX.inv_nils
              simp only [lenM, Option.some.injEq] at hls
              subst hls
              simp only [Option.some.injEq, Prod.mk.injEq] at hv
              obtain ⟨rfl, rfl⟩ := hv
              have h := run_append_nil (P := P) w t o.type e it z hu hi hzr ad n c0 R hRl' hcell hnpos (by omega) (by rw [hb]; simp at hroom; omega)
              rw [hrun (by rw [e1, hY']; exact h)]
              have hg := grow_new (P := P) (pm := pm) (ls := ls) (base := base) (w := w) (z := z.cells) (old := []) (O := []) (xs := xs) (R := R) (dd := d) (sz := sz) (len := 0) (n := n) (g := n) (cap := grownCap w n 0 e) (e := e) hs .nil Sc.nil hR hRs (by simpa using hRd) hzs (by simp) hRl (by simpa using grownCap_ge w)
              simpa using hg
            · -- a literal
              rename_i cl ln kc
              have hls' : len = ln := by simpa [lenM] using hls.symm
              subst hls'
              split at hv
              case h_2 => simp at hv
              rename_i ck
              split at hv
              case isFalse => simp at hv
              rename_i hcond
              obtain ⟨hck, hcl⟩ := hcond
              simp only [Option.some.injEq, Prod.mk.injEq] at hv
              obtain ⟨rfl, rfl⟩ := hv
              obtain ⟨b1, c1, O, e1, hO, hOs, hOd, hOl, hOc, _⟩ := src_ok (sz := sz) hs hX hls (xs := cl) (d := true) (by simp [srcCells, hcl])
              cases hX with
              | lit hseg hd hL hsc hl hk =>
                simp only [Value.slice.injEq] at e1
                obtain ⟨rfl, _, rfl⟩ := e1
                have := hk ck rfl
                subst this
                exact hgrow cl d O _ _ _ hX' hO hOs hOl (hOc _ rfl) hck (fun h => by rw [deepVs_append, hd, hRd h]; rfl)
            · -- one of Mini's blocks
              rename_i b g off ln sz' kc
              have hls' : len = ln := by simpa [lenM] using hls.symm
              subst hls'
              cases hbk : blk? m b g with
              | none => simp [hbk] at hv
              | some k =>
                simp only [hbk] at hv
                split at hv
                case isFalse => simp at hv
                rename_i hsz
                subst hsz
                cases hta : takeAt k.cells off (len * sz') with
                | none => simp [hta] at hv
                | some old =>
                  simp only [hta] at hv
                  obtain ⟨b1, c1, O, e1, hO, hOs, hOd, hOl, hOc, _⟩ := src_ok (sz := sz') hs hX hls (xs := old) (d := k.deep) (by simp [srcCells, hbk, hta])
                  obtain ⟨hm, hgen⟩ := blk?_some hbk
                  have hB := hs.blk b k hm
                  have hdd : (k.deep && d) = true → deepVs (old ++ xs) = true := fun h => by
                    simp only [Bool.and_eq_true] at h
                    rw [deepVs_append, hOd h.1, hRd h.2]; rfl
                  cases hX with
                  | sl hb1 hg1 hl1 hk1 hcur =>
                    rename_i adS
                    simp only [Value.slice.injEq] at e1
                    obtain ⟨rfl, _, rfl⟩ := e1
                    obtain ⟨f1, f2⟩ := hcur (by rw [hB.gen, hgen])
                    by_cases hknown : fullK (len + n) kc = true
                    · rw [if_pos hknown] at hv
                      simp only [Option.some.injEq, Prod.mk.injEq] at hv
                      obtain ⟨rfl, rfl⟩ := hv
                      have hlt : cap < len + n := by
                        cases kc with
                        | none => simp [fullK] at hknown
                        | some c => simp [fullK] at hknown; have := hk1 c rfl; omega
                      exact hgrow old (k.deep && d) O _ _ _ hX' hO hOs hOl (hOc _ rfl) hlt hdd
                    · rw [if_neg hknown] at hv
                      split at hv
                      case isFalse => simp at hv
                      rename_i hoff
                      subst hoff
                      simp only [Option.some.injEq, Prod.mk.injEq] at hv
                      obtain ⟨rfl, rfl⟩ := hv
                      obtain ⟨C, el, L, post, d1, d2, d3, d4, d5⟩ := hB.mem
                      have hkc : ∀ c, kc = some c → len + n ≤ c := fun c hc => by subst hc; simp [fullK] at hknown; omega
                      have hblt : b < m.length := (List.getElem?_eq_some_iff.1 hm).1
                      by_cases hfit : len + n ≤ cap
                      · -- in place
                        have hcapC : cap * sz' ≤ C.size := by rw [d2]; omega
                        have hnC : len * sz' + n * sz' ≤ C.size := by rw [← Nat.add_mul]; exact Nat.le_trans (Nat.mul_le_mul_right _ hfit) hcapC
                        have h := append_room (P := P) (w := w) (ty := o.type) hu hi (E.pl b) len cap (c' := c0) hfit d1 hRl' hRs hcell (by rw [hz, hRl]; exact hnC)
                        rw [hrun (by rw [hX', f1, hY']; exact h), hz]
                        -- what the row holds
                        have hCO : C.toList.take (len * sz') = O := by
                          apply List.ext_getElem?
                          intro j
                          by_cases hj : j < len * sz'
                          · obtain ⟨ov, hov⟩ : ∃ ov, O[j]? = some ov := ⟨_, List.getElem?_eq_getElem (by omega)⟩
                            have := hOc _ rfl j ov hov
                            rw [f1, addr_add, cell_at d1] at this
                            rw [List.getElem?_take, if_pos hj, hov]
                            simpa using this
                          · rw [List.getElem?_eq_none (by simp; omega), List.getElem?_eq_none (by omega)]
                        have hsz2 : (C.toList.take (len * sz') ++ R ++ C.toList.drop (len * sz' + R.length)).toArray.size = C.size := by
                          simp only [List.size_toArray, List.length_append, List.length_take, List.length_drop, Array.length_toList]
                          rw [hRl]; omega
                        have s1 := hs.row (k' := ⟨old ++ xs, k.gen, k.deep && d⟩) hm d1 (C' := (C.toList.take (len * sz') ++ R ++ C.toList.drop (len * sz' + R.length)).toArray) (L := O ++ R) (post := C.toList.drop (len * sz' + R.length)) (by simp [hCO]) hsz2 rfl (hO.append hR) (hOs.append hRs) hdd
                        have hm1 : (m.set b ⟨old ++ xs, k.gen, k.deep && d⟩)[b]? = some ⟨old ++ xs, k.gen, k.deep && d⟩ := by rw [List.getElem?_set_self hblt]
                        have s2 := s1.turn (k' := ⟨old ++ xs, g + n, k.deep && d⟩) hm1 (setRow_heap w _ C _ el _ d1) (.inl rfl) hB.pl (L := O ++ R) (post := C.toList.drop (len * sz' + R.length)) (by simp [hCO]) (by simp; omega) (hO.append hR) (hOs.append hRs) hdd
                        rw [List.set_set] at s2
                        refine ⟨_, _, _, .inl rfl, Env.le_turn (by rw [hB.gen]; show k.gen < g + n; omega), s2, .sl hb1 (by simp [Env.turn]) hfit (fun c hc => hk1 c hc) (fun _ => ⟨by simp [Env.turn], ?_⟩), .setRow hB.pl _ C el d1⟩
                        simp only [Env.turn, if_true, hsz2]
                        omega
                      · -- in a place of its own
                        have hlt : cap < len + n := by omega
                        have h := run_append_grow (P := P) w t o.type e it z hu hi hzr adS len cap O (by rw [hz]; exact hOl) (hOc _ rfl) ad n c0 R hRl' hcell hlt (by omega) (hfits _ hlt)
                        rw [hrun (by rw [hX', hY']; exact h)]
                        have hge := grownCap_ge (need := len + n) (old := cap) (e := e) w
                        generalize grownCap w (len + n) cap e = gc at *
                        have hs' : Sim P pm E m ls base w.drew.heap := hs
                        have s1 := hs'.push (.cells (O.toArray ++ R.toArray ++ Builtin.zeroCells z.cells (gc - (len + n))) e)
                        have s2 := s1.turn (k' := ⟨old ++ xs, g + n, k.deep && d⟩) hm (n := w.heap.size) (C' := O.toArray ++ R.toArray ++ Builtin.zeroCells z.cells (gc - (len + n))) (el := e) (by show (w.heap.push _)[w.heap.size]? = _; simp)
                          (.inr ⟨fun i hi => Nat.ne_of_lt (hs.lt (List.getElem?_eq_getElem hi)), hs.fresh⟩) hs.bas (L := O ++ R) (post := (Builtin.zeroCells z.cells (gc - (len + n))).toList) (by simp) (by simp; omega) (hO.append hR) (hOs.append hRs) hdd
                        refine ⟨_, _, _, .inl rfl, Env.le_turn (by rw [hB.gen]; show k.gen < g + n; omega), s2, .sl hb1 (by simp [Env.turn]) hge (fun c hc => ?_) (fun _ => ⟨by simp [Env.turn, World.drew], ?_⟩), (Stp.drew base w).trans (.alloc hs'.bas _)⟩
                        · have h1 := hk1 c hc
                          have h2 := hkc c hc
                          omega
                        · simp only [Env.turn, if_true, Array.size_append, List.size_toArray, zeroCells_size, hOl, hRl, hzs]
                          have : gc * sz' = (len + n) * sz' + (gc - (len + n)) * sz' := by rw [← Nat.add_mul]; congr 1; omega
                          rw [this, Nat.add_mul]
                          omega
            · simp at hv

theorem ok_slarr (hs : Sim P pm E m ls base w.heap) (hT : Vs E T a.tmps.toList) {t e : TypeId} {x : Operand} {x' : Opd} {lo hi : Option Operand} {lo' hi' : Option Opd} (ho : o.op = .slice t x lo hi none) (hx : trOpd x = some x')
    (hl : trOpt lo = some lo') (hh : trOpt hi = some hi') {n : Nat} (hu : P.underlying t = some (.array n e) ∨ ∃ q, P.underlying t = some (.pointer q) ∧ P.underlying q = some (.array n e)) {sz : Nat} (hz : sizeP P e = some sz) {l h : Nat} {mm : Option Nat}
    (hb : bndM T lo' hi' none n = some (l, h, mm)) {v : MV}
    (hv : (match getO T x' with
      | .ptr b g off => match blk? m b g with
        | some k => if l = 0 ∧ off + n * sz ≤ k.cells.length then some (.sl b g off h sz (some n)) else none
        | none => none
      | .pimm cs off => match takeAt cs off (n * sz) with
        | some c => some (.lit ((c.drop (l * sz)).take ((h - l) * sz)) (h - l) (some (n - l)))
        | none => none
      | _ => none : Option MV) = some v) : OpOk P pm E m ls base w ((execOp a.eval o).run P w) v := by
  have hX := getO_V hT hx
  generalize getO T x' = p at *
  generalize hq : a.eval x = q at *
  obtain ⟨h1, h2, h3, h4⟩ := bounds_ok (P := P) (w := w) hT hl hh (mx := none) (mx' := none) rfl hb (Nat.le_refl _) false
  have hmm : mm = none := by
    unfold bndM at hb
    simp only at hb
    split at hb
    · rename_i e1 _ _
      split at hb
      · simp only [Option.some.injEq] at e1
        simp only [Option.some.injEq, Prod.mk.injEq] at hb
        rw [← hb.2.2, ← e1]
      · simp at hb
    · simp at hb
  subst hmm
  simp only [Option.map_none, Option.getD_none] at h1
  have hr : ∀ ad : Addr, q = .pointer (some ad) → (execOp a.eval o).run P w = .ok (.value (.slice (some (if n = l then ad else ad.add (l * sz))) (h - l) (n - l))) w := by
    rintro ad rfl
    rcases hu with hu | ⟨q, hu, hu'⟩
    · simp only [execOp, ho, hq, Option.map_none]
      simp only [Sem.run_bind, Instr.sliceAt, run_underlying hu w, Result.andThen_ok, Instr.sureAddr, Sem.run_pure, h1, run_sizeOf hz w]
    · simp only [execOp, ho, hq, Option.map_none]
      simp only [Sem.run_bind, Instr.sliceAt, run_underlying hu w, Result.andThen_ok, Instr.slice, asAddr, run_underlying hu' w, Sem.run_pure, h1, run_sizeOf hz w]
  cases hX <;> simp only [reduceCtorEq] at hv
  case ptr b g off ad hb1 hg hcur =>
    cases hbk : blk? m b g with
    | none => simp [hbk] at hv
    | some k =>
      simp only [hbk] at hv
      split at hv
      case isFalse => simp at hv
      rename_i hc
      obtain ⟨rfl, hfit⟩ := hc
      obtain rfl := Option.some.inj hv
      obtain ⟨hm, hgen⟩ := blk?_some hbk
      have hB := hs.blk b k hm
      obtain ⟨C, el, L, post, d1, d2, d3, d4, d5⟩ := hB.mem
      refine .pure hs (hr ad rfl) ?_
      have e1 : (if n = 0 then ad else ad.add (0 * sz)) = ad := by
        split
        · rfl
        · simp [Addr.add]
      rw [e1]
      simp only [Nat.sub_zero]
      refine .sl hb1 hg h3 (fun c hc => by simpa using hc) (fun e' => ⟨hcur e', ?_⟩)
      have h5 := d4.length
      have h6 : C.toList.length = L.length + post.length := by rw [d3]; simp
      simp at h6
      omega
  case pimm cs off nb o' L hseg hd hL hsc =>
    cases hta : takeAt cs off (n * sz) with
    | none => simp [hta] at hv
    | some c =>
      simp only [hta] at hv
      obtain rfl := Option.some.inj hv
      unfold takeAt at hta
      split at hta
      case isFalse => simp at hta
      rename_i hle
      obtain rfl := Option.some.inj hta
      refine .pure hs (hr _ rfl) ?_
      have hLl := hL.length
      have hlh : l * sz + (h - l) * sz ≤ n * sz := by
        have h5 : l * sz + (h - l) * sz = h * sz := by rw [← Nat.add_mul]; congr 1; omega
        rw [h5]; exact Nat.mul_le_mul_right _ h3
      have hseg1 := hseg.part off (n * sz) (by omega)
      have hl1 : ((L.drop off).take (n * sz)).length = n * sz := by simp; omega
      have hbase : ∃ o'', (if n = l then (⟨nb, o' + off, none⟩ : Addr) else (⟨nb, o' + off, none⟩ : Addr).add (l * sz)) = ⟨nb, o'', none⟩ ∧ Seg E nb o'' ((((L.drop off).take (n * sz)).drop (l * sz)).take ((h - l) * sz)) := by
        by_cases e1 : n = l
        · have e0 : h - l = 0 := by omega
          refine ⟨o' + off, by rw [if_pos e1], ?_⟩
          rw [e0, Nat.zero_mul, List.take_zero]
          have := hseg1.part 0 0 (by omega)
          simpa using this
        · refine ⟨o' + off + l * sz, by rw [if_neg e1, addr_add], hseg1.part _ _ (by omega)⟩
      obtain ⟨o'', e1, hseg2⟩ := hbase
      rw [e1]
      exact .lit (.inr hseg2) (deepVs_take (deepVs_drop (deepVs_take (deepVs_drop hd _) _) _) _) ((((hL.drop _).take _).drop _).take _) ((((hsc.drop _).take _).drop _).take _) (by omega) (fun c hc => by simpa using hc)

end ops
end Go.Mini
