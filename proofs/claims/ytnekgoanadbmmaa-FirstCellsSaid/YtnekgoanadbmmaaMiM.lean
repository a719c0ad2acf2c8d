/-
What 'wellOrd' says of the orders that the model may draw.
-/
import Derived.Test.YtnekgoanadbmmaaMiL
import Derived.OrdersIn
namespace Go.Mini
set_option linter.unusedSimpArgs false

theorem testBit_pow (k i : Nat) : (2 ^ k).testBit i = decide (k = i) := by
  rw [Nat.testBit_two_pow]

theorem befOne_bit {acc : List Nat} {i : Nat} : ∀ {ks : List Nat} {s : Nat}, (befOne acc ks s).testBit i = true → s.testBit i = true ∨ ∃ k ∈ ks, k = i ∨ (acc.getD k 0).testBit i = true
  | [], s, h => .inl h
  | k :: ks, s, h => by
    simp only [befOne] at h
    rcases befOne_bit h with h1 | ⟨k', hk', h1⟩
    · simp only [Nat.testBit_or, Bool.or_eq_true, testBit_pow, decide_eq_true_eq] at h1
      rcases h1 with (h1 | h1) | h1
      · exact .inl h1
      · exact .inr ⟨k, by simp, .inl h1⟩
      · exact .inr ⟨k, by simp, .inr h1⟩
    · exact .inr ⟨k', by simp [hk'], h1⟩

theorem befs_len : ∀ (os : List Oper) (acc : List Nat), (befs os acc).length = acc.length + os.length
  | [], acc => by simp [befs]
  | o :: os, acc => by simp [befs, befs_len os]; omega

theorem befs_keep : ∀ (os : List Oper) (acc : List Nat) (k : Nat), k < acc.length → (befs os acc).getD k 0 = acc.getD k 0
  | [], acc, k, _ => rfl
  | o :: os, acc, k, h => by
    simp only [befs]
    rw [befs_keep os _ k (by simp; omega)]
    simp [List.getD, List.getElem?_append_left h]

/-- What an operation waits for, at one remove or more: the ones that it waits for at once, or that those wait for. -/
theorem befs_step : ∀ (os : List Oper) (acc : List Nat) (j : Nat) (o : Oper), os[j]? = some o → ∀ i, ((befs os acc).getD (acc.length + j) 0).testBit i = true → (∀ k ∈ predsOf o, k < acc.length + j) →
    ∃ k ∈ predsOf o, k = i ∨ ((befs os acc).getD k 0).testBit i = true
  | [], _, _, _, h, _, _, _ => by simp at h
  | x :: os, acc, 0, o, h, i, hb, hlt => by
    simp only [List.getElem?_cons_zero, Option.some.injEq] at h
    subst h
    simp only [befs] at hb ⊢
    rw [befs_keep os _ _ (by simp)] at hb
    simp only [Nat.add_zero, List.getD, List.getElem?_append_right (Nat.le_refl _), Nat.sub_self, List.getElem?_cons_zero, Option.getD_some] at hb
    rcases befOne_bit hb with h1 | ⟨k, hk, h1⟩
    · simp at h1
    · refine ⟨k, hk, ?_⟩
      rcases h1 with h1 | h1
      · exact .inl h1
      · refine .inr ?_
        have hk' := hlt k hk
        rw [befs_keep os _ k (by simp; omega)]
        simp only [Nat.add_zero] at hk'
        simpa [List.getD, List.getElem?_append_left hk'] using h1
  | x :: os, acc, j + 1, o, h, i, hb, hlt => by
    simp only [List.getElem?_cons_succ] at h
    simp only [befs] at hb ⊢
    have e : acc.length + (j + 1) = (acc ++ [befOne acc (predsOf x) 0]).length + j := by simp; omega
    rw [e] at hb hlt
    exact befs_step os _ j o h i hb hlt

theorem lowAll_spec : ∀ (os : List Oper) (n : Nat), lowAll os n = true → ∀ j o, os[j]? = some o → ∀ k ∈ predsOf o, k < n + j
  | [], _, _, _, _, h, _, _ => by simp at h
  | x :: os, n, hl, 0, o, h, k, hk => by
    simp only [List.getElem?_cons_zero, Option.some.injEq] at h
    subst h
    simp only [lowAll, Bool.and_eq_true, List.all_eq_true, decide_eq_true_eq] at hl
    simpa using hl.1 k hk
  | x :: os, n, hl, j + 1, o, h, k, hk => by
    simp only [List.getElem?_cons_succ] at h
    simp only [lowAll, Bool.and_eq_true] at hl
    have := lowAll_spec os (n + 1) hl.2 j o h k hk
    omega

theorem ordOne_spec {pm : Nat → Bool} {b : Nat} {y : IOper} : ∀ (xs : List IOper) (n : Nat), ordOne pm b y xs n = true → ∀ i x, xs[i]? = some x → conf pm x y = true → b.testBit (n + i) = true
  | [], _, _, _, _, h, _ => by simp at h
  | z :: xs, n, ho, 0, x, h, hc => by
    simp only [List.getElem?_cons_zero, Option.some.injEq] at h
    subst h
    simp only [ordOne, Bool.and_eq_true, Bool.or_eq_true, Bool.not_eq_true'] at ho
    rcases ho.1 with h1 | h1
    · rw [hc] at h1; simp at h1
    · simpa using h1
  | z :: xs, n, ho, i + 1, x, h, hc => by
    simp only [List.getElem?_cons_succ] at h
    simp only [ordOne, Bool.and_eq_true] at ho
    have := ordOne_spec xs (n + 1) ho.2 i x h hc
    rw [show n + (i + 1) = n + 1 + i by omega]
    exact this

theorem ordAll_spec {pm : Nat → Bool} {B : List Nat} {all : List IOper} : ∀ (ys : List IOper) (n : Nat), ordAll pm B all ys n = true → ∀ j y, ys[j]? = some y → ∀ i x, i < n + j → all[i]? = some x → conf pm x y = true → (B.getD (n + j) 0).testBit i = true
  | [], _, _, _, _, h, _, _, _, _, _ => by simp at h
  | z :: ys, n, ho, 0, y, h, i, x, hi, hx, hc => by
    simp only [List.getElem?_cons_zero, Option.some.injEq] at h
    subst h
    simp only [ordAll, Bool.and_eq_true] at ho
    have := ordOne_spec _ 0 ho.1 i x (by rw [List.getElem?_take]; simp at hi; simp [hi, hx]) hc
    simpa using this
  | z :: ys, n, ho, j + 1, y, h, i, x, hi, hx, hc => by
    simp only [List.getElem?_cons_succ] at h
    simp only [ordAll, Bool.and_eq_true] at ho
    have := ordAll_spec ys (n + 1) ho.2 j y h i x (by omega) hx hc
    rw [show n + (j + 1) = n + 1 + j by omega]
    exact this

section order
variable {pm : Nat → Bool} {ops : Array Oper} {l : List IOper} (hw : wellOrd pm ops.toList l = true)
include hw

theorem wo_low {j : Nat} {o : Oper} (h : ops[j]? = some o) {k : Nat} (hk : k ∈ predsOf o) : k < j := by
  simp only [wellOrd, Bool.and_eq_true] at hw
  have := lowAll_spec _ _ hw.1 j o (by simpa using h) k hk
  omega

theorem wo_conf {i j : Nat} {x y : IOper} (hij : i < j) (hx : l[i]? = some x) (hy : l[j]? = some y) (hc : conf pm x y = true) : ((befs ops.toList []).getD j 0).testBit i = true := by
  simp only [wellOrd, Bool.and_eq_true] at hw
  have := ordAll_spec _ _ hw.2 j y hy i x (by omega) hx hc
  simpa using this

theorem wo_step {j : Nat} {o : Oper} (h : ops[j]? = some o) {i : Nat} (hb : ((befs ops.toList []).getD j 0).testBit i = true) : ∃ k ∈ predsOf o, k = i ∨ ((befs ops.toList []).getD k 0).testBit i = true := by
  have := befs_step ops.toList [] j o (by simpa using h) i (by simpa using hb) (fun k hk => by simpa using wo_low hw h hk)
  simpa using this
end order

/-- Whatever a listed one waits for is listed. -/
def Closed (B : List Nat) (listed : Array Bool) : Prop := ∀ j, listed.getD j false = true → ∀ i, (B.getD j 0).testBit i = true → listed.getD i false = true

theorem mem_preds {o : Oper} {k : Nat} : k ∈ predsOf o ↔ ∃ e ∈ o.after, Region.binds .any e = true ∧ e.on = k := by
  simp [predsOf, List.mem_filter, and_assoc]

theorem ready_listed {pm : Nat → Bool} {ops : Array Oper} {l : List IOper} (hw : wellOrd pm ops.toList l = true) {listed : Array Bool} (hcl : Closed (befs ops.toList []) listed) {j : Nat} (hr : j ∈ Region.ready .any ops listed) :
    ∀ i, ((befs ops.toList []).getD j 0).testBit i = true → listed.getD i false = true := by
  intro i hb
  obtain ⟨_, o, ho, hall⟩ := mem_ready.1 hr
  obtain ⟨k, hk, h1⟩ := wo_step hw ho hb
  obtain ⟨e, he, hbe, rfl⟩ := mem_preds.1 hk
  have hl := hall e he hbe
  rcases h1 with rfl | h1
  · exact hl
  · exact hcl _ hl i h1

theorem closed_set {pm : Nat → Bool} {ops : Array Oper} {l : List IOper} (hw : wellOrd pm ops.toList l = true) {listed : Array Bool} (hcl : Closed (befs ops.toList []) listed) {j : Nat} (hr : j ∈ Region.ready .any ops listed) :
    Closed (befs ops.toList []) (listed.setIfInBounds j true) := by
  intro k hk i hb
  by_cases e : k = j
  · subst e
    exact getD_set_true (ready_listed hw hcl hr i hb)
  · rw [getD_set_ne false (Ne.symm e)] at hk
    exact getD_set_true (hcl k hk i hb)

/-- What is still to come, in the text's order. -/
def rest (n : Nat) (listed : Array Bool) : List Nat := (List.range n).filter fun i => !listed.getD i false

theorem rest_split {n : Nat} {listed : Array Bool} {j : Nat} (hj : j < n) (hs : listed.size = n) (hl : listed.getD j false = false) :
    ∃ pre post, rest n listed = pre ++ j :: post ∧ rest n (listed.setIfInBounds j true) = pre ++ post ∧ ∀ k ∈ pre, k < j ∧ listed.getD k false = false := by
  have hr : List.range n = List.range j ++ (j :: List.range' (j + 1) (n - (j + 1))) := by
    rw [List.range_eq_range', List.range_eq_range']
    have e : n = j + (1 + (n - (j + 1))) := by omega
    conv => lhs; rw [e, List.range'_append_1.symm]
    simp [List.range'_succ, Nat.add_comm 1]
  refine ⟨(List.range j).filter fun i => !listed.getD i false, (List.range' (j + 1) (n - (j + 1))).filter fun i => !listed.getD i false, ?_, ?_, ?_⟩
  · have hl' : listed[j]?.getD false = false := by simpa using hl
    simp [rest, hr, List.filter_append, List.filter_cons, hl']
  · simp only [rest, hr, List.filter_append, List.filter_cons]
    have h1 : (listed.setIfInBounds j true).getD j false = true := by
      have : j < listed.size := by omega
      simp [this]
    rw [h1]
    simp only [Bool.not_true, Bool.false_eq_true, if_false]
    congr 1
    · apply List.filter_congr
      intro k hk
      have : k ≠ j := by simp at hk; omega
      rw [getD_set_ne false (Ne.symm this)]
    · apply List.filter_congr
      intro k hk
      have : k ≠ j := by simp [List.mem_range'] at hk; omega
      rw [getD_set_ne false (Ne.symm this)]
  · intro k hk
    simp only [List.mem_filter, List.mem_range, Bool.not_eq_true'] at hk
    exact hk

theorem ready_first {pm : Nat → Bool} {ops : Array Oper} {l : List IOper} (hw : wellOrd pm ops.toList l = true) {listed : Array Bool} (hs : listed.size = ops.size) (hr : Region.ready .any ops listed = []) : rest ops.size listed = [] := by
  cases he : rest ops.size listed with
  | nil => rfl
  | cons i is =>
    exfalso
    have hmem : i ∈ rest ops.size listed := by rw [he]; simp
    have hmin : ∀ k, k < i → k < ops.size → listed.getD k false = true := by
      intro k hk hkn
      cases hl : listed.getD k false with
      | true => rfl
      | false =>
        obtain ⟨pre, post, e1, _, e3⟩ := rest_split hkn hs hl
        rw [he] at e1
        cases pre with
        | nil => simp at e1; omega
        | cons p pre =>
          simp at e1
          have := e3 p (by simp)
          omega
    simp only [rest, List.mem_filter, List.mem_range, Bool.not_eq_true'] at hmem
    obtain ⟨hin, hil⟩ := hmem
    have : i ∈ Region.ready .any ops listed := by
      refine mem_ready.2 ⟨?_, ops[i], by simp [hin], fun e hee hb => ?_⟩
      · have hlt : i < listed.size := by omega
        simp [Array.getD, hlt] at hil ⊢
        exact hil
      · have hk : e.on ∈ predsOf ops[i] := mem_preds.2 ⟨e, hee, hb, rfl⟩
        have hlt := wo_low hw (show ops[i]? = some ops[i] by simp [hin]) hk
        exact hmin _ hlt (by omega)
    rw [hr] at this
    simp at this

end Go.Mini
