/-
Operation by operation: slicing; what reads memory, and what makes it.
-/
import Derived.Test.YtnekgoanadbmmaaMiG
namespace Go.Mini
open Go.RowKit
set_option linter.unusedSimpArgs false

section ops
variable {P : Program} {pm : Nat → Bool} {E : Env} {m : Mem} {ls : List LRec} {base : Nat} {w : World} {T : List MV} {a : Act} {o : Oper}

theorem trOpt_none {x : Option Operand} (h : trOpt x = some none) : x = none := by
  cases x with
  | none => rfl
  | some x => simp [trOpt] at h

theorem trOpt_some {x : Option Operand} {y : Opd} (h : trOpt x = some (some y)) : ∃ z, x = some z ∧ trOpd z = some y := by
  cases x with
  | none => simp [trOpt] at h
  | some x => simp [trOpt] at h; exact ⟨x, rfl, h⟩

theorem run_bound {r : Value} {k : IntKind} {n y : Nat} (h : r = .int k n) (hle : n ≤ y) (code : BoundsCode) (w : World) : (Instr.sliceBound r y code).run P w = .ok n w := by
  subst h
  have : (0 : Int) ≤ n ∧ (n : Int) ≤ y := ⟨by omega, by omega⟩
  simp [Instr.sliceBound, asIntOf, this]

theorem bounds_ok (hT : Vs E T a.tmps.toList) {lo hi mx : Option Operand} {lo' hi' mx' : Option Opd} (hl : trOpt lo = some lo') (hh : trOpt hi = some hi') (hm : trOpt mx = some mx') {len cap l h : Nat} {mm : Option Nat}
    (hb : bndM T lo' hi' mx' len = some (l, h, mm)) (hc : len ≤ cap) (isS : Bool) :
    (Instr.sliceBounds isS len cap (lo.map a.eval) (hi.map a.eval) (mx.map a.eval)).run P w = .ok (l, h, mm.getD cap) w ∧ l ≤ h ∧ h ≤ len ∧ (∀ k, mm = some k → h ≤ k ∧ k ≤ len) := by
  unfold bndM at hb
  split at hb
  case h_2 => simp at hb
  rename_i mq hq lq e1 e2 e3
  split at hb
  case isFalse => simp at hb
  rename_i hcond
  simp only [Option.some.injEq, Prod.mk.injEq] at hb
  obtain ⟨rfl, rfl, rfl⟩ := hb
  obtain ⟨c1, c2, c3⟩ := hcond
  -- the low bound
  have hlow : (match lo.map a.eval with | some v => Instr.sliceBound v hq (if (mx.map a.eval).isSome = true then .slice3C else .sliceB) | none => pure 0 : Sem Nat).run P w = .ok lq w := by
    cases lo' with
    | none =>
      obtain rfl := trOpt_none hl
      simp at e3; subst e3
      rfl
    | some y =>
      obtain ⟨z, rfl, hz⟩ := trOpt_some hl
      simp only at e3
      obtain ⟨k, hk⟩ := natOf_V (getO_V hT hz) e3
      simp only [Option.map_some]
      exact run_bound hk c1 _ w
  cases mx' with
  | none =>
    obtain rfl := trOpt_none hm
    simp only [Option.some.injEq] at e1
    subst e1
    have hhigh : (match hi.map a.eval with | some v => Instr.sliceBound v cap (if isS = true then .sliceAcap else .sliceAlen) | none => pure len : Sem Nat).run P w = .ok hq w := by
      cases hi' with
      | none =>
        obtain rfl := trOpt_none hh
        simp at e2; subst e2
        rfl
      | some y =>
        obtain ⟨z, rfl, hz⟩ := trOpt_some hh
        simp only at e2
        obtain ⟨k, hk⟩ := natOf_V (getO_V hT hz) e2
        simp only [Option.map_some]
        exact run_bound hk (by omega) _ w
    refine ⟨?_, c1, c2, fun k hk => by simp at hk⟩
    simp only [Instr.sliceBounds, Option.map_none, Sem.run_bind, Sem.run_pure, Result.andThen_ok, Option.getD_none]
    cases hi with
    | none =>
      simp at hhigh; subst hhigh
      cases lo with
      | none => simp at hlow; subst hlow; rfl
      | some z =>
        simp only [Option.map_some, Option.map_none] at hlow
        simp only [Option.map_some, Option.map_none, Sem.run_bind, Sem.run_pure, Result.andThen_ok, hlow]
    | some z' =>
      simp only [Option.map_some] at hhigh
      cases lo with
      | none => simp at hlow; subst hlow; simp only [Option.map_some, Option.map_none, Sem.run_bind, Sem.run_pure, Result.andThen_ok, hhigh]
      | some z =>
        simp only [Option.map_some, Option.map_none] at hlow
        simp only [Option.map_some, Option.map_none, Sem.run_bind, Sem.run_pure, Result.andThen_ok, hhigh, hlow]
  | some y =>
    obtain ⟨z, rfl, hz⟩ := trOpt_some hm
    simp only at e1
    cases hn : natOf (getO T y) with
    | none => simp [hn] at e1
    | some k =>
      simp only [hn, Option.map_some, Option.some.injEq] at e1
      subst e1
      obtain ⟨kk, hk⟩ := natOf_V (getO_V hT hz) hn
      simp only [mxOk, Bool.and_eq_true, decide_eq_true_eq] at c3
      obtain ⟨⟨c4, c5⟩, c6⟩ := c3
      cases hi' with
      | none => simp at c6
      | some y' =>
        obtain ⟨z', rfl, hz'⟩ := trOpt_some hh
        simp only at e2
        obtain ⟨kh, hkh⟩ := natOf_V (getO_V hT hz') e2
        refine ⟨?_, c1, c2, fun k' hk' => by simp at hk'; subst hk'; exact ⟨c4, c5⟩⟩
        simp only [Instr.sliceBounds, Option.map_some, Sem.run_bind, run_bound (P := P) hk (show k ≤ cap by omega) _ w, Result.andThen_ok, run_bound (P := P) hkh c4 _ w, Option.getD_some]
        cases lo with
        | none => simp at hlow; subst hlow; rfl
        | some zz =>
          simp only [Option.map_some] at hlow
          simp only [Option.map_some, Sem.run_bind, Sem.run_pure, Result.andThen_ok, hlow]

theorem seg_part {C : Array Value} {pre L post : List Value} (hC : C.toList = pre ++ L ++ post) (i n : Nat) (h : i + n ≤ L.length) : ∃ pre' post', C.toList = pre' ++ (L.drop i).take n ++ post' ∧ pre'.length = pre.length + i := by
  refine ⟨pre ++ L.take i, L.drop (i + n) ++ post, ?_, by simp; omega⟩
  rw [hC]
  have : L = L.take i ++ ((L.drop i).take n ++ L.drop (i + n)) := by
    conv => lhs; rw [← List.take_append_drop i L]
    congr 1
    conv => lhs; rw [← List.take_append_drop n (L.drop i)]
    rw [List.drop_drop]
  conv => lhs; rw [this]
  simp [List.append_assoc]

theorem Seg.part {n o' : Nat} {L : List Value} (h : Seg E n o' L) (i k : Nat) (hle : i + k ≤ L.length) : Seg E n (o' + i) ((L.drop i).take k) := by
  obtain ⟨C, pre, post, h1, h2, h3⟩ := h
  obtain ⟨pre', post', h4, h5⟩ := seg_part h2 i k hle
  exact ⟨C, pre', post', h1, h4, by omega⟩

/-- 'x[l:h:m]' of a slice. -/
theorem slice_V {sz : Nat} {x v : MV} {r : Value} (hx : V E x r) {len l h : Nat} {mm : Option Nat} (hlen : lenM x = some len) (hlh : l ≤ h) (hh : h ≤ len) (hmm : ∀ k, mm = some k → h ≤ k ∧ k ≤ len)
    (hv : sliceM sz x l h mm = some v) : ∃ b c, r = .slice b len c ∧ len ≤ c ∧ V E v (.slice (if mm.getD c = l then b else b.map (·.add (l * sz))) (h - l) (mm.getD c - l)) := by
  cases hx <;> simp only [lenM, Option.some.injEq, reduceCtorEq] at hlen <;> subst hlen
  case nils =>
    simp only [sliceM, Option.some.injEq] at hv
    subst hv
    refine ⟨none, 0, rfl, Nat.le_refl _, ?_⟩
    have hl0 : l = 0 := by omega
    have hh0 : h = 0 := by omega
    subst hl0; subst hh0
    have : mm.getD 0 = 0 := by
      cases mm with
      | none => rfl
      | some k => have := hmm k rfl; simp; omega
    rw [this]
    simp
    exact .nils
  case sl b g off n sz' cap kc ad hb hg hl hk hcur =>
    refine ⟨some ad, cap, rfl, hl, ?_⟩
    simp only [sliceM] at hv
    split at hv
    case isFalse => simp at hv
    rename_i hsz
    subst hsz
    have hkc : ∀ c, capOf kc mm l = some c → mm.getD cap - l = c := by
      intro c hc
      cases mm with
      | none =>
        simp only [capOf] at hc
        cases hkc' : kc with
        | none => simp [hkc'] at hc
        | some k => simp [hkc'] at hc; have := hk k hkc'; simp; omega
      | some k => simp [capOf] at hc; simp; omega
    have hmcap : mm.getD cap ≤ cap := by
      cases mm with
      | none => simp
      | some k => have := hmm k rfl; simp; omega
    have hmge : h ≤ mm.getD cap := by
      cases mm with
      | none => simp; omega
      | some k => have := hmm k rfl; simp; omega
    split at hv
    · rename_i hl0
      subst hl0
      obtain rfl := Option.some.inj hv
      have e : (if mm.getD cap = 0 then some ad else (some ad : Option Addr).map (·.add (0 * sz'))) = some ad := by
        split
        · rfl
        · simp [Addr.add]
      rw [e]
      simp only [Nat.sub_zero]
      refine .sl hb hg hmge (fun c hc => by have := hkc c hc; omega) (fun e => ?_)
      obtain ⟨h1, h2⟩ := hcur e
      refine ⟨h1, Nat.le_trans (Nat.add_le_add_left (Nat.mul_le_mul_right _ hmcap) _) h2⟩
    · rename_i hl0
      split at hv
      · rename_i hlt
        obtain rfl := Option.some.inj hv
        have e : (if mm.getD cap = l then some ad else (some ad : Option Addr).map (·.add (l * sz'))) = some (ad.add (l * sz')) := by
          rw [if_neg (by omega)]; rfl
        rw [e]
        refine .sl hb hg (by omega) hkc (fun e => ?_)
        obtain ⟨h1, h2⟩ := hcur e
        refine ⟨by rw [h1, addr_add], ?_⟩
        have h3 : l * sz' + (mm.getD cap - l) * sz' = mm.getD cap * sz' := by rw [← Nat.add_mul]; congr 1; omega
        have h4 : mm.getD cap * sz' ≤ cap * sz' := Nat.mul_le_mul_right _ hmcap
        omega
      · simp at hv
  case lit cs n cap nb o' kc L hs' hd hL hsc hl hk =>
    refine ⟨some ⟨nb, o', none⟩, cap, rfl, hl, ?_⟩
    simp only [sliceM] at hv
    split at hv
    case isFalse => simp at hv
    rename_i hlen
    obtain rfl := Option.some.inj hv
    have hkc : ∀ c, capOf kc mm l = some c → mm.getD cap - l = c := by
      intro c hc
      cases mm with
      | none =>
        simp only [capOf] at hc
        cases hkc' : kc with
        | none => simp [hkc'] at hc
        | some k => simp [hkc'] at hc; have := hk k hkc'; simp; omega
      | some k => simp [capOf] at hc; simp; omega
    have hmge : h ≤ mm.getD cap := by
      cases mm with
      | none => simp; omega
      | some k => have := hmm k rfl; simp; omega
    have hLl := hL.length
    have h1 : l * sz + (h - l) * sz ≤ L.length := by
      have h3 : l * sz + (h - l) * sz = h * sz := by rw [← Nat.add_mul]; congr 1; omega
      have h4 : h * sz ≤ n * sz := Nat.mul_le_mul_right _ hh
      omega
    have hbase : ∃ o'', (if mm.getD cap = l then some ⟨nb, o', none⟩ else (some (⟨nb, o', none⟩ : Addr)).map (·.add (l * sz))) = some ⟨nb, o'', none⟩ ∧ (((L.drop (l * sz)).take ((h - l) * sz) = [] ∧ h - l = 0) ∨ Seg E nb o'' ((L.drop (l * sz)).take ((h - l) * sz))) := by
      by_cases e : mm.getD cap = l
      · have e0 : h - l = 0 := by omega
        refine ⟨o', by rw [if_pos e], ?_⟩
        rw [e0, Nat.zero_mul, List.take_zero]
        exact .inl ⟨rfl, rfl⟩
      · refine ⟨o' + l * sz, by rw [if_neg e]; simp [addr_add], ?_⟩
        rcases hs' with ⟨hL0, hn0⟩ | hs'
        · exact .inl ⟨by rw [hL0]; simp, by omega⟩
        · exact .inr (hs'.part _ _ h1)
    obtain ⟨o'', e, hseg⟩ := hbase
    rw [e]
    exact .lit hseg (deepVs_take (deepVs_drop hd _) _) ((hL.drop _).take _) ((hsc.drop _).take _) (by omega) hkc

theorem ok_slice (hs : Sim P pm E m ls base w.heap) (hT : Vs E T a.tmps.toList) {t e : TypeId} {x : Operand} {x' : Opd} {lo hi mx : Option Operand} {lo' hi' mx' : Option Opd} (ho : o.op = .slice t x lo hi mx) (hx : trOpd x = some x')
    (hl : trOpt lo = some lo') (hh : trOpt hi = some hi') (hm : trOpt mx = some mx') (hu : P.underlying t = some (.slice e)) {sz : Nat} (hz : sizeP P e = some sz) {len l h : Nat} {mm : Option Nat} (hlen : lenM (getO T x') = some len)
    (hb : bndM T lo' hi' mx' len = some (l, h, mm)) {v : MV} (hv : sliceM sz (getO T x') l h mm = some v) : OpOk P pm E m ls base w ((execOp a.eval o).run P w) v := by
  obtain ⟨b, c, hr, hc⟩ := lenM_V (getO_V hT hx) hlen
  obtain ⟨h1, h2, h3, h4⟩ := bounds_ok (P := P) (w := w) hT hl hh hm hb hc true
  obtain ⟨b', c', hr', _, hV⟩ := slice_V (getO_V hT hx) hlen h2 h3 h4 hv
  rw [hr] at hr'
  simp only [Value.slice.injEq] at hr'
  obtain ⟨rfl, _, rfl⟩ := hr'
  refine .pure hs ?_ hV
  simp only [execOp, ho, hr]
  simp only [Sem.run_bind, Instr.sliceAt, run_underlying hu w, Result.andThen_ok, Instr.slice, h1, run_sizeOf hz w, Sem.run_pure]

theorem ok_slstr (hs : Sim P pm E m ls base w.heap) (hT : Vs E T a.tmps.toList) {t : TypeId} {x : Operand} {x' : Opd} {lo hi : Option Operand} {lo' hi' : Option Opd} (ho : o.op = .slice t x lo hi none) (hx : trOpd x = some x')
    (hl : trOpt lo = some lo') (hh : trOpt hi = some hi') (hu : P.underlying t = some .string) {s : ByteArray} (hp : getO T x' = .str s) {l h : Nat} {mm : Option Nat}
    (hb : bndM T lo' hi' none s.size = some (l, h, mm)) : OpOk P pm E m ls base w ((execOp a.eval o).run P w) (.str (s.extract l h)) := by
  have hx' := getO_V hT hx
  rw [hp] at hx'
  have hr := hx'.inv_str
  obtain ⟨h1, h2, h3, h4⟩ := bounds_ok (P := P) (w := w) hT hl hh (mx := none) (mx' := none) rfl hb (Nat.le_refl _) false
  refine .pure hs (x := .string (s.extract l h)) ?_ .str
  simp only [Option.map_none] at h1
  simp only [execOp, ho, hr, Option.map_none]
  simp only [Sem.run_bind, Instr.sliceAt, run_underlying hu w, Result.andThen_ok, Instr.slice, h1, Option.isSome_none, Bool.false_eq_true, if_false, Sem.run_pure, Sem.run_ite]

end ops
end Go.Mini
