/-
Slices of the own that are appended to and handed on; results made of several.
-/
import Derived.Test.YtnekgoanadbmmaaMiX
namespace Go.Mini

theorem getD_lt {α : Type} {l : List α} {i : Nat} {d : α} (h : i < l.length) : l.getD i d = l[i] := by
  simp [List.getD, List.getElem?_eq_getElem h]
theorem getD_ge {α : Type} {l : List α} {i : Nat} {d : α} (h : l.length ≤ i) : l.getD i d = d := by
  simp [List.getD, List.getElem?_eq_none h]

section
variable {P : IProg} {nt : Nat} {A : As} {m : Mem} {ls : List LRec} {α : Type} {K : Enc α}

/-- The slice v holds xs in a block that nothing below N is, and that no append leaves. -/
def Hold (K : Enc α) (N : Nat) (xs : List α) (m : Mem) (v : MV) : Prop :=
  (v = .nils ∧ xs = []) ∨ ∃ b g, N ≤ b ∧ v = .sl b g 0 xs.length K.sz none ∧ m[b]? = some ⟨flat K.E xs, g, true⟩

theorem Hold.app {N : Nat} {xs : List α} {v : MV} (h : Hold K N xs m v) : App K N xs m v := by
  rcases h with h | h
  · exact .inl h
  · exact .inr (.inr h)
theorem Hold.own {N : Nat} {xs : List α} {v : MV} (h : Hold K N xs m v) : Own K xs m v := by
  rcases h with h | ⟨b, g, _, h1, h2⟩
  · exact .inl h
  · exact .inr ⟨b, g, none, h1, h2⟩
theorem Hold.len {N : Nat} {xs : List α} {v : MV} (h : Hold K N xs m v) : lenM v = some xs.length := h.app.len
theorem Hold.cells {N : Nat} {xs : List α} {v : MV} (h : Hold K N xs m v) : cellsOf v = some [v] := h.app.cells
theorem Hold.nil {N : Nat} : Hold K N [] m .nils := .inl ⟨rfl, rfl⟩
theorem Hold.push {N : Nat} {xs : List α} {v : MV} (h : Hold K N xs m v) (k : Blk) : Hold K N xs (m ++ [k]) v := by
  rcases h with h | ⟨b, g, h1, h2, h3⟩
  · exact .inl h
  · exact .inr ⟨b, g, h1, h2, get_app h3 k⟩
theorem Hold.set {N : Nat} {xs : List α} {v : MV} (h : Hold K N xs m v) {i : Nat} (hi : i < N) (k : Blk) : Hold K N xs (m.set i k) v := by
  rcases h with h | ⟨b, g, h1, h2, h3⟩
  · exact .inl h
  · exact .inr ⟨b, g, h1, h2, get_set h3 (by omega) k⟩
theorem Hold.same {N M : Nat} {xs : List α} {v : MV} (h : Hold K N xs m v) (hM : M ≤ N) {m' : Mem} (hm : ∀ (i : Nat) k, N ≤ i → m[i]? = some k → m'[i]? = some k) : Hold K M xs m' v := by
  rcases h with h | ⟨b, g, h1, h2, h3⟩
  · exact .inl h
  · exact .inr ⟨b, g, by omega, h2, hm b _ h1 h3⟩

/-- An append of what is a tree, or of the own. -/
theorem Hold.add {N bytes sz : Nat} {xs ys : List α} {v x : MV} (h : Hold K N xs m v) (hN : N ≤ m.length) (hx : srcCells m sz x = some (flat K.E ys, true)) (hl : lenM x = some ys.length) (hy : ys ≠ []) (hr : (xs.length + ys.length) * bytes ≤ 35184372088832) (hz : K.sz = sz) :
    ∃ v' m', appM m sz bytes v x = some (v', m') ∧ Hold K N (xs ++ ys) m' v' ∧ (∀ i : Nat, i < N → m'[i]? = m[i]?) ∧ m.length ≤ m'.length := by
  subst hz
  have hn : ys.length ≠ 0 := fun e => hy (List.length_eq_zero_iff.1 e)
  have hroom : roomy (xs.length + ys.length) bytes = true := by simp [roomy, hr]
  rcases h with ⟨rfl, rfl⟩ | ⟨b, g, h1, rfl, h3⟩
  · refine ⟨.sl m.length ys.length 0 ys.length K.sz none, m ++ [⟨flat K.E ys, ys.length, true⟩], ?_, .inr ⟨m.length, ys.length, hN, rfl, by simp⟩, fun i hi => by rw [List.getElem?_append_left (by omega)], by simp⟩
    have hroom' : roomy ys.length bytes = true := by simpa using hroom
    have e : lenM .nils = some 0 := rfl
    unfold appM
    rw [hl, hx, e]
    simp [hn, hroom']
  · refine ⟨.sl b (g + ys.length) 0 (xs.length + ys.length) K.sz none, m.set b ⟨flat K.E xs ++ flat K.E ys, g + ys.length, true⟩, ?_, .inr ⟨b, g + ys.length, h1, by simp, ?_⟩, fun i hi => by rw [List.getElem?_set_ne (by omega)], by simp⟩
    · have e : lenM (.sl b g 0 xs.length K.sz none) = some xs.length := rfl
      unfold appM
      rw [hl, hx, e]
      simp only [hn, if_false, hroom, if_true, blk_of h3 rfl, take_all (flat_len K xs), fullK]
      simp
    · rw [List.getElem?_set_self (List.getElem?_eq_some_iff.1 h3).1, flat_append]

/-- An append of one. -/
theorem Hold.add1 {N bytes sz : Nat} {xs : List α} {y : α} {v : MV} {cs : List MV} {kc : Option Nat} (h : Hold K N xs m v) (hN : N ≤ m.length) (hr : (xs.length + 1) * bytes ≤ 35184372088832) (hz : K.sz = sz) (hc : cs = K.E y) :
    ∃ v' m', appM m sz bytes v (.lit cs 1 kc) = some (v', m') ∧ Hold K N (xs ++ [y]) m' v' ∧ (∀ i : Nat, i < N → m'[i]? = m[i]?) ∧ m.length ≤ m'.length := by
  subst hc hz
  refine h.add hN ?_ rfl (by simp) hr rfl
  have := src_lit (m := m) (K := K) (xs := [y]) (kc := kc)
  simpa [flat] using this

/-- Handed over. -/
theorem Hold.fin2 {N : Nat} {xs : List α} {v : MV} {m0 : Mem} {ls' : List LRec} {R : MV → Mem → Prop} (h : Hold K N xs m v) (hR : ∀ v' m', Hold K m0.length xs m' v' → (∀ (i : Nat) k, m0[i]? = some k → m'[i]? = some k) → m0.length ≤ m'.length → R v' m') : Fin2 R m0 m ls' v := by
  rcases h with ⟨rfl, rfl⟩ | ⟨b, g, h1, rfl, h3⟩
  · exact ⟨by simp only [thaw, cln]; rfl, hR _ _ .nil (fun i k h => h) (Nat.le_refl _)⟩
  · refine ⟨thaw_own h3 (flat_len K xs), hR _ _ (.inr ⟨m0.length, xs.length, Nat.le_refl _, rfl, by simp⟩) (fun i k h => get_app h _) (by simp)⟩

/-! ### Results made of several -/

def Fz (m : Mem) (k : Nat) (v v' : MV) : Prop := ∀ n, frzc m (n + k) v = some v'
def Fzs (m : Mem) (k : Nat) (vs vs' : List MV) : Prop := ∀ n, frzcs m (n + k) vs = some vs'

theorem Fz.cln {v : MV} (h : cln v = true) : Fz m 1 v v := fun n => frzc_cln h
theorem Fz.le {k j : Nat} {v v' : MV} (h : Fz m k v v') (hk : k ≤ j) : Fz m j v v' := fun n => by
  have := h (n + (j - k)); rwa [show n + (j - k) + k = n + j by omega] at this
theorem Fzs.le {k j : Nat} {v v' : List MV} (h : Fzs m k v v') (hk : k ≤ j) : Fzs m j v v' := fun n => by
  have := h (n + (j - k)); rwa [show n + (j - k) + k = n + j by omega] at this
theorem Fzs.nil : Fzs m 1 [] [] := fun n => frzcs_cln rfl
theorem Fzs.cons {k : Nat} {v v' : MV} {vs vs' : List MV} (h1 : Fz m (k + 1) v v') (h2 : Fzs m (k + 1) vs vs') : Fzs m (k + 2) (v :: vs) (v' :: vs') := by
  intro n
  by_cases hc : clns (v :: vs) = true
  · have hv : Go.Mini.cln v = true ∧ clns vs = true := by simpa [clns] using hc
    have e1 := h1 n
    have e2 := h2 n
    rw [show n + (k + 1) = (n + k) + 1 by omega, frzc_cln hv.1] at e1
    rw [show n + (k + 1) = (n + k) + 1 by omega, frzcs_cln hv.2] at e2
    simp only [Option.some.injEq] at e1 e2
    subst e1 e2
    exact frzcs_cln hc
  · rw [show n + (k + 2) = (n + (k + 1)) + 1 by omega]
    unfold frzcs
    rw [if_neg hc]
    simp only [h1 n, h2 n]
theorem Fz.tup {k : Nat} {vs vs' : List MV} (h : Fzs m (k + 1) vs vs') : Fz m (k + 2) (.tup vs) (.tup vs') := by
  intro n
  by_cases hc : Go.Mini.cln (.tup vs) = true
  · have hv : clns vs = true := by simpa [Go.Mini.cln] using hc
    have e2 := h n
    rw [show n + (k + 1) = (n + k) + 1 by omega, frzcs_cln hv] at e2
    simp only [Option.some.injEq] at e2
    subst e2
    exact frzc_cln hc
  · rw [show n + (k + 2) = (n + (k + 1)) + 1 by omega]
    unfold frzc
    rw [if_neg hc]
    simp only [h n]
theorem Fz.agg {k : Nat} {vs vs' : List MV} (h : Fzs m (k + 1) vs vs') : Fz m (k + 2) (.agg vs) (.agg vs') := by
  intro n
  by_cases hc : Go.Mini.cln (.agg vs) = true
  · have hv : clns vs = true := by simpa [Go.Mini.cln] using hc
    have e2 := h n
    rw [show n + (k + 1) = (n + k) + 1 by omega, frzcs_cln hv] at e2
    simp only [Option.some.injEq] at e2
    subst e2
    exact frzc_cln hc
  · rw [show n + (k + 2) = (n + (k + 1)) + 1 by omega]
    unfold frzc
    rw [if_neg hc]
    simp only [h n]
theorem Own.fz {xs : List α} {v : MV} (h : Own K xs m v) : ∃ v', Fz m 2 v v' ∧ Sl K xs v' := by
  rcases h with ⟨rfl, rfl⟩ | ⟨b, g, kc, rfl, hb⟩
  · exact ⟨.nils, (Fz.cln rfl).le (by omega), .nil⟩
  · refine ⟨.lit (flat K.E xs) xs.length kc, fun n => ?_, .lit⟩
    unfold Go.Mini.frzc
    rw [if_neg (by simp [Go.Mini.cln])]
    simp only [blk_of hb rfl, take_all (flat_len K xs), frzcs_cln (flat_cln K xs)]
theorem Fz.fin {k : Nat} {v v' : MV} {R : MV → Prop} (h : Fz m k v v') (hk : k ≤ 1000) (hR : R v') : Fin3 R m v := by
  obtain ⟨n, hn⟩ := fuel k hk
  exact ⟨by rw [hn]; exact h n, hR⟩

/-- Two slices and a number. -/
theorem fin_own3 {β : Type} {L : Enc β} {xs : List α} {ys : List β} {v w u : MV} {R : MV → Prop} (hv : Own K xs m v) (hw : Own L ys m w) (hu : cln u = true) (h : ∀ v' w', Sl K xs v' → Sl L ys w' → R (.tup [v', w', u])) : Fin3 R m (.tup [v, w, u]) := by
  obtain ⟨v', h1, h2⟩ := hv.fz
  obtain ⟨w', h3, h4⟩ := hw.fz
  exact Fz.fin (.tup (.cons (h1.le (j := 4) (by omega)) (.cons (h3.le (j := 3) (by omega)) (.cons ((Fz.cln hu).le (j := 2) (by omega)) (Fzs.nil.le (by omega)))))) (by omega) (h _ _ h2 h4)

/-! ### Arguments, as trees -/

theorem Own.frz {xs : List α} {v : MV} (h : Own K xs m v) (n : Nat) : ∃ v', Go.Mini.frz m (n + 1) v = some v' ∧ Sl K xs v' := by
  rcases h with ⟨rfl, rfl⟩ | ⟨b, g, kc, rfl, hb⟩
  · exact ⟨.nils, frz_deep rfl, .nil⟩
  · refine ⟨.lit (flat K.E xs) xs.length kc, ?_, .lit⟩
    unfold Go.Mini.frz
    rw [if_neg (by simp [deepV])]
    simp only [blk_of hb rfl, take_all (flat_len K xs), if_true]

/-- Seen as a tree. -/
def Tz (m : Mem) (k : Nat) (v v' : MV) : Prop := ∀ n, frz m (n + k) v = some v'
def Tzs (m : Mem) (k : Nat) (vs vs' : List MV) : Prop := ∀ n, frzs m (n + k) vs = some vs'
theorem Tz.deep {v : MV} (h : deepV v = true) : Tz m 1 v v := fun n => frz_deep h
theorem Tz.le {k j : Nat} {v v' : MV} (h : Tz m k v v') (hk : k ≤ j) : Tz m j v v' := fun n => by
  have := h (n + (j - k)); rwa [show n + (j - k) + k = n + j by omega] at this
theorem Tzs.le {k j : Nat} {v v' : List MV} (h : Tzs m k v v') (hk : k ≤ j) : Tzs m j v v' := fun n => by
  have := h (n + (j - k)); rwa [show n + (j - k) + k = n + j by omega] at this
theorem Tzs.nil : Tzs m 1 [] [] := fun n => frzs_deep rfl
theorem Tzs.cons {k : Nat} {v v' : MV} {vs vs' : List MV} (h1 : Tz m (k + 1) v v') (h2 : Tzs m (k + 1) vs vs') : Tzs m (k + 2) (v :: vs) (v' :: vs') := by
  intro n
  by_cases hc : deepVs (v :: vs) = true
  · have hv : deepV v = true ∧ deepVs vs = true := by simpa [deepVs] using hc
    have e1 := h1 n
    have e2 := h2 n
    rw [show n + (k + 1) = (n + k) + 1 by omega, frz_deep hv.1] at e1
    rw [show n + (k + 1) = (n + k) + 1 by omega, frzs_deep hv.2] at e2
    simp only [Option.some.injEq] at e1 e2
    subst e1 e2
    exact frzs_deep hc
  · rw [show n + (k + 2) = (n + (k + 1)) + 1 by omega]
    unfold frzs
    rw [if_neg hc]
    simp only [h1 n, h2 n]
theorem Own.tz {xs : List α} {v : MV} (h : Own K xs m v) : ∃ v', Tz m 1 v v' ∧ Sl K xs v' := by
  rcases h with ⟨rfl, rfl⟩ | ⟨b, g, kc, rfl, hb⟩
  · exact ⟨.nils, Tz.deep rfl, .nil⟩
  · refine ⟨.lit (flat K.E xs) xs.length kc, fun n => ?_, .lit⟩
    unfold Go.Mini.frz
    rw [if_neg (by simp [deepV])]
    simp only [blk_of hb rfl, take_all (flat_len K xs), if_true]
theorem Tzs.fin {k : Nat} {vs vs' : List MV} (h : Tzs m k vs vs') (hk : k ≤ 1000) : frzs m frzFuel vs = some vs' := by
  obtain ⟨n, hn⟩ := fuel k hk
  rw [hn]; exact h n

end
end Go.Mini
