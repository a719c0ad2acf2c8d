/-
Numbers that fit; tests that are propositions; slices as lists.
-/
import Derived.Test.YtnekgoanadbmmaaMiU
namespace Go.Mini

theorem wrap_i64 {n : Int} (h1 : -9223372036854775808 ≤ n) (h2 : n ≤ 9223372036854775807) : IntKind.i64.wrap n = n := by
  simp only [IntKind.wrap, IntKind.bits, IntKind.signed, Bool.true_and]
  split
  · rename_i h; simp only [decide_eq_true_eq, ge_iff_le] at h; omega
  · rename_i h; simp only [decide_eq_true_eq, ge_iff_le] at h; omega

theorem wrap_i32 {n : Int} (h1 : -2147483648 ≤ n) (h2 : n ≤ 2147483647) : IntKind.i32.wrap n = n := by
  simp only [IntKind.wrap, IntKind.bits, IntKind.signed, Bool.true_and]
  split
  · rename_i h; simp only [decide_eq_true_eq, ge_iff_le] at h; omega
  · rename_i h; simp only [decide_eq_true_eq, ge_iff_le] at h; omega

theorem wrap_u {k : IntKind} (hk : k.signed = false) {n : Int} (h1 : 0 ≤ n) (h2 : n < 2 ^ k.bits) : k.wrap n = n := by
  simp only [IntKind.wrap, hk, Bool.false_and]
  exact Int.emod_eq_of_lt h1 h2

theorem wrap_u8 {n : Int} (h1 : 0 ≤ n) (h2 : n ≤ 255) : IntKind.u8.wrap n = n := wrap_u rfl h1 (by simp only [IntKind.bits]; omega)
theorem wrap_u64 {n : Int} (h1 : 0 ≤ n) (h2 : n ≤ 18446744073709551615) : IntKind.u64.wrap n = n := wrap_u rfl h1 (by simp only [IntKind.bits]; omega)

section
variable {P : IProg} {nt : Nat} {A : As} {m : Mem} {ls : List LRec} {d : Option Nat} {l : List IOper} {Q : As → Mem → List LRec → Prop}

/-! ### Tests -/

theorem wo_guardD {op : IOp} {t : Nat} {p : Prop} [Decidable p] (hg : look A t = some (.bool (decide p))) (hd : okD nt d = true)
    (h1 : p → Wo P nt (⟨d, none, op⟩ :: l) ((t, .bool true) :: A) m ls Q) (h2 : ¬p → Wo P nt l (putA ((t, .bool false) :: A) d (.tup [])) m ls Q) : Wo P nt (⟨d, some (t, true), op⟩ :: l) A m ls Q := by
  by_cases hp : p
  · refine wo_go (by rw [hg]; simp [hp]) ⟨fun T hT hA => (h1 hp).out T hT fun i v hi => ?_⟩
    simp only [look] at hi
    by_cases e : t = i
    · subst e; simp at hi; subst hi; rw [hA t _ hg]; simp [hp]
    · rw [nbeq e] at hi; exact hA i v hi
  · refine ⟨fun T hT hA => (wo_no (A := (t, .bool false) :: A) (b := true) (v := .bool false) (by simp [look]) (.inl rfl) hd (h2 hp)).out T hT fun i v hi => ?_⟩
    simp only [look] at hi
    by_cases e : t = i
    · subst e; simp at hi; subst hi; rw [hA t _ hg]; simp [hp]
    · rw [nbeq e] at hi; exact hA i v hi

theorem wo_guardE {op : IOp} {t : Nat} {p : Prop} [Decidable p] (hg : look A t = some (.bool (decide p))) (hd : okD nt d = true)
    (h1 : ¬p → Wo P nt (⟨d, none, op⟩ :: l) ((t, .bool false) :: A) m ls Q) (h2 : p → Wo P nt l (putA ((t, .bool true) :: A) d (.tup [])) m ls Q) : Wo P nt (⟨d, some (t, false), op⟩ :: l) A m ls Q := by
  by_cases hp : p
  · refine ⟨fun T hT hA => (wo_no (A := (t, .bool true) :: A) (b := false) (v := .bool true) (by simp [look]) (.inl rfl) hd (h2 hp)).out T hT fun i v hi => ?_⟩
    simp only [look] at hi
    by_cases e : t = i
    · subst e; simp at hi; subst hi; rw [hA t _ hg]; simp [hp]
    · rw [nbeq e] at hi; exact hA i v hi
  · refine wo_go (by rw [hg]; simp [hp]) ⟨fun T hT hA => (h1 hp).out T hT fun i v hi => ?_⟩
    simp only [look] at hi
    by_cases e : t = i
    · subst e; simp at hi; subst hi; rw [hA t _ hg]; simp [hp]
    · rw [nbeq e] at hi; exact hA i v hi

theorem wo_guardB {op : IOp} {t : Nat} {b c : Bool} (hg : look A t = some (.bool c)) (hd : okD nt d = true)
    (h1 : c = b → Wo P nt (⟨d, none, op⟩ :: l) ((t, .bool b) :: A) m ls Q) (h2 : c = (!b) → Wo P nt l (putA ((t, .bool (!b)) :: A) d (.tup [])) m ls Q) : Wo P nt (⟨d, some (t, b), op⟩ :: l) A m ls Q := by
  by_cases hp : c = b
  · subst hp
    refine wo_go hg ⟨fun T hT hA => (h1 rfl).out T hT fun i v hi => ?_⟩
    simp only [look] at hi
    by_cases e : t = i
    · subst e; simp at hi; subst hi; exact hA t _ hg
    · rw [nbeq e] at hi; exact hA i v hi
  · have hp' : c = (!b) := by cases b <;> cases c <;> simp_all
    subst hp'
    refine ⟨fun T hT hA => (wo_no (A := (t, .bool (!b)) :: A) (b := b) (v := .bool (!b)) (by simp [look]) (.inl rfl) hd (h2 rfl)).out T hT fun i v hi => ?_⟩
    simp only [look] at hi
    by_cases e : t = i
    · subst e; simp at hi; subst hi; exact hA t _ hg
    · rw [nbeq e] at hi; exact hA i v hi

theorem wo_skipF {op : IOp} {t : Nat} (hg : look A t = some (.bool false)) (hd : okD nt d = true) (hk : Wo P nt l (putA A d (.tup [])) m ls Q) : Wo P nt (⟨d, some (t, true), op⟩ :: l) A m ls Q :=
  wo_no hg (.inl rfl) hd hk
theorem wo_skipT {op : IOp} {t : Nat} (hg : look A t = some (.bool true)) (hd : okD nt d = true) (hk : Wo P nt l (putA A d (.tup [])) m ls Q) : Wo P nt (⟨d, some (t, false), op⟩ :: l) A m ls Q :=
  wo_no hg (.inl rfl) hd hk
theorem wo_skipN {op : IOp} {t : Nat} {b : Bool} (hg : look A t = some (.tup [])) (hd : okD nt d = true) (hk : Wo P nt l (putA A d (.tup [])) m ls Q) : Wo P nt (⟨d, some (t, b), op⟩ :: l) A m ls Q :=
  wo_no hg (.inr rfl) hd hk

theorem wo_notD {x : Opd} {p : Prop} [Decidable p] (hx : lk A x = some (.bool (decide p))) (hd : okD nt d = true) (hk : Wo P nt l (putA A d (.bool (decide (¬p)))) m ls Q) : Wo P nt (⟨d, none, .un .not x⟩ :: l) A m ls Q :=
  wo_not hx hd (by simpa using hk)

theorem wo_eqb0 {x y : Opd} {s t : Bool} (hx : lk A x = some (.bool s)) (hy : lk A y = some (.bool t)) (hd : okD nt d = true) (hk : Wo P nt l (putA A d (.bool (decide (s = t)))) m ls Q) : Wo P nt (⟨d, none, .eqb false x y⟩ :: l) A m ls Q :=
  wo_eqb hx hy hd (by rw [show ((s == t) != false) = decide (s = t) from by cases s <;> cases t <;> rfl]; exact hk)
theorem wo_eqb1 {x y : Opd} {s t : Bool} (hx : lk A x = some (.bool s)) (hy : lk A y = some (.bool t)) (hd : okD nt d = true) (hk : Wo P nt l (putA A d (.bool (decide (s ≠ t)))) m ls Q) : Wo P nt (⟨d, none, .eqb true x y⟩ :: l) A m ls Q :=
  wo_eqb hx hy hd (by rw [show ((s == t) != true) = decide (s ≠ t) from by cases s <;> cases t <;> rfl]; exact hk)

theorem wo_pickD {c x y : Opd} {p : Prop} [Decidable p] (hc : lk A c = some (.bool (decide p))) (hd : okD nt d = true) (h1 : p → ∃ v, lk A x = some v ∧ Wo P nt l (putA A d v) m ls Q) (h2 : ¬p → ∃ v, lk A y = some v ∧ Wo P nt l (putA A d v) m ls Q) :
    Wo P nt (⟨d, none, .pick c x y⟩ :: l) A m ls Q :=
  wo_pick hc hd (fun h => h1 (of_decide_eq_true h)) (fun h => h2 (of_decide_eq_false h))

theorem wo_addO {x y : Opd} {a b : Int} (hx : lk A x = some (.int .i64 a)) (hy : lk A y = some (.int .i64 b)) (h : -9223372036854775808 ≤ a + b ∧ a + b ≤ 9223372036854775807) (hd : okD nt d = true) (hk : Wo P nt l (putA A d (.int .i64 (a + b))) m ls Q) : Wo P nt (⟨d, none, .bin .add x y⟩ :: l) A m ls Q :=
  wo_add hx hy (wrap_i64 h.1 h.2) hd hk
theorem wo_subO {x y : Opd} {a b : Int} (hx : lk A x = some (.int .i64 a)) (hy : lk A y = some (.int .i64 b)) (h : -9223372036854775808 ≤ a - b ∧ a - b ≤ 9223372036854775807) (hd : okD nt d = true) (hk : Wo P nt l (putA A d (.int .i64 (a - b))) m ls Q) : Wo P nt (⟨d, none, .bin .sub x y⟩ :: l) A m ls Q :=
  wo_sub hx hy (wrap_i64 h.1 h.2) hd hk
theorem wo_mulO {x y : Opd} {a b : Int} (hx : lk A x = some (.int .i64 a)) (hy : lk A y = some (.int .i64 b)) (h : -9223372036854775808 ≤ a * b ∧ a * b ≤ 9223372036854775807) (hd : okD nt d = true) (hk : Wo P nt l (putA A d (.int .i64 (a * b))) m ls Q) : Wo P nt (⟨d, none, .bin .mul x y⟩ :: l) A m ls Q :=
  wo_mul hx hy (wrap_i64 h.1 h.2) hd hk
theorem wo_negO {x : Opd} {a : Int} (hx : lk A x = some (.int .i64 a)) (h : -9223372036854775808 ≤ 0 - a ∧ 0 - a ≤ 9223372036854775807) (hd : okD nt d = true) (hk : Wo P nt l (putA A d (.int .i64 (0 - a))) m ls Q) : Wo P nt (⟨d, none, .un .neg x⟩ :: l) A m ls Q :=
  wo_neg hx (wrap_i64 h.1 h.2) hd hk
theorem wo_convO {j : IntKind} {x : Opd} {a : Int} (hx : lk A x = some (.int j a)) (h : -9223372036854775808 ≤ a ∧ a ≤ 9223372036854775807) (hd : okD nt d = true) (hk : Wo P nt l (putA A d (.int .i64 a)) m ls Q) : Wo P nt (⟨d, none, .conv .i64 x⟩ :: l) A m ls Q :=
  wo_conv hx (wrap_i64 h.1 h.2) hd hk

theorem wx_ifT {c : Opd} {a b : IC} {Q : Ex → As → Mem → List LRec → Prop} (hc : lk A c = some (.bool true)) (h : Wx P nt a A m ls Q) : Wx P nt (.cond c a b) A m ls Q :=
  wx_if hc (fun _ => h) (fun e => by cases e)
theorem wx_ifF {c : Opd} {a b : IC} {Q : Ex → As → Mem → List LRec → Prop} (hc : lk A c = some (.bool false)) (h : Wx P nt b A m ls Q) : Wx P nt (.cond c a b) A m ls Q :=
  wx_if hc (fun e => by cases e) (fun _ => h)
theorem wx_ifD {c : Opd} {a b : IC} {p : Prop} [Decidable p] {Q : Ex → As → Mem → List LRec → Prop} (hc : lk A c = some (.bool (decide p))) (h1 : p → Wx P nt a A m ls Q) (h2 : ¬p → Wx P nt b A m ls Q) : Wx P nt (.cond c a b) A m ls Q :=
  wx_if hc (fun h => h1 (of_decide_eq_true h)) (fun h => h2 (of_decide_eq_false h))

theorem wx_ifDT {c : Opd} {a b : IC} {p : Prop} [Decidable p] {Q : Ex → As → Mem → List LRec → Prop} (hc : lk A c = some (.bool (decide p))) (hp : p) (h1 : Wx P nt a A m ls Q) : Wx P nt (.cond c a b) A m ls Q :=
  wx_ifD hc (fun _ => h1) (fun h => absurd hp h)
theorem wx_ifDF {c : Opd} {a b : IC} {p : Prop} [Decidable p] {Q : Ex → As → Mem → List LRec → Prop} (hc : lk A c = some (.bool (decide p))) (hp : ¬p) (h1 : Wx P nt b A m ls Q) : Wx P nt (.cond c a b) A m ls Q :=
  wx_ifD hc (fun h => absurd h hp) (fun _ => h1)
theorem wo_guardDT {op : IOp} {t : Nat} {p : Prop} [Decidable p] (hg : look A t = some (.bool (decide p))) (hp : p) (hd : okD nt d = true) (h1 : Wo P nt (⟨d, none, op⟩ :: l) ((t, .bool true) :: A) m ls Q) : Wo P nt (⟨d, some (t, true), op⟩ :: l) A m ls Q :=
  wo_guardD hg hd (fun _ => h1) (fun h => absurd hp h)
theorem wo_guardDF {op : IOp} {t : Nat} {p : Prop} [Decidable p] (hg : look A t = some (.bool (decide p))) (hp : ¬p) (hd : okD nt d = true) (h1 : Wo P nt l (putA ((t, .bool false) :: A) d (.tup [])) m ls Q) : Wo P nt (⟨d, some (t, true), op⟩ :: l) A m ls Q :=
  wo_guardD hg hd (fun h => absurd h hp) (fun _ => h1)
theorem wo_guardET {op : IOp} {t : Nat} {p : Prop} [Decidable p] (hg : look A t = some (.bool (decide p))) (hp : p) (hd : okD nt d = true) (h1 : Wo P nt l (putA ((t, .bool true) :: A) d (.tup [])) m ls Q) : Wo P nt (⟨d, some (t, false), op⟩ :: l) A m ls Q :=
  wo_guardE hg hd (fun h => absurd hp h) (fun _ => h1)
theorem wo_guardEF {op : IOp} {t : Nat} {p : Prop} [Decidable p] (hg : look A t = some (.bool (decide p))) (hp : ¬p) (hd : okD nt d = true) (h1 : Wo P nt (⟨d, none, op⟩ :: l) ((t, .bool false) :: A) m ls Q) : Wo P nt (⟨d, some (t, false), op⟩ :: l) A m ls Q :=
  wo_guardE hg hd (fun _ => h1) (fun h => absurd h hp)

/-- A call whose result is taken over. -/
theorem wo_calltW {f : Nat} {ys : List Opd} {vs : List MV} {F : IFn} (hd : okD nt d = true) (hy : ys.mapM (lk A) = some vs) (hp : P.prim f = none) (hF : P.fn f = some F) (hdp : deepVs vs = true) (hn : Nat.ble vs.length F.nt = true)
    (h : Wx P F.nt F.body (args0 0 vs) [] [] (endK F.res fun v m' ls' => Fin2 (fun v' m2 => Wo P nt l (putA A d v') m2 ls Q) m m' ls' v)) : Wo P nt (⟨d, none, .callt f ys⟩ :: l) A m ls Q := by
  obtain ⟨n, v, s, h1, ⟨h2, h3⟩⟩ := body_of hn h
  refine wo_callt hd hy hp hF hdp ⟨n, v, s, h1, _, _, ?_, h3⟩
  cases v <;> simp only [thaw] at h2 ⊢ <;> exact h2

theorem thaw_own {b g n sz : Nat} {kc : Option Nat} {cells : List MV} {m0 : Mem} (h : m[b]? = some ⟨cells, g, true⟩) (hl : cells.length = n * sz) : thaw m0 ⟨[], m, ls⟩ (.sl b g 0 n sz kc) = some (.sl m0.length n 0 n sz none, m0 ++ [⟨cells, n, true⟩]) := by
  simp only [thaw, blk_of h rfl]
  rw [if_pos (by simp [hl])]

/-! ### The last block -/

theorem get_last (m : Mem) (k : Blk) : (m ++ [k])[m.length]? = some k := by simp
theorem get_app {m : Mem} {b : Nat} {k : Blk} (h : m[b]? = some k) (x : Blk) : (m ++ [x])[b]? = some k := by
  rw [List.getElem?_append_left (List.getElem?_eq_some_iff.1 h).1]; exact h
theorem get_lt {m : Mem} {b : Nat} {k : Blk} (h : m[b]? = some k) : b < m.length := (List.getElem?_eq_some_iff.1 h).1
theorem get_set {m : Mem} {b i : Nat} {k : Blk} (h : m[b]? = some k) (hne : i ≠ b) (x : Blk) : (m.set i x)[b]? = some k := by
  rw [List.getElem?_set_ne hne]; exact h
theorem get_set_self {m : Mem} {b : Nat} {k : Blk} (h : m[b]? = some k) (x : Blk) : (m.set b x)[b]? = some x :=
  List.getElem?_set_self (get_lt h)

theorem wo_storeL {n : Nat} {a x : Opd} {k : Blk} {g off : Nat} {v : MV} {cs : List MV} (ha : lk A a = some (.ptr m.length g off)) (hx : lk A x = some v) (hc : cellsOf v = some cs) (hg : k.gen = g) (hn : cs.length = n) (hle : off + n ≤ k.cells.length) (hd : okD nt d = true)
    (hk : Wo P nt l (putA A d (.tup [])) (m ++ [⟨setAt k.cells off cs, k.gen, k.deep && deepVs cs⟩]) ls Q) : Wo P nt (⟨d, none, .store n a x⟩ :: l) A (m ++ [k]) ls Q :=
  wo_store ha hx hc (get_last m k) hg hn hle hd (by simpa using hk)
theorem wo_loadL {n : Option Nat} {a : Opd} {k : Blk} {g off : Nat} {v : MV} (ha : lk A a = some (.ptr m.length g off)) (hg : k.gen = g) (hv : loadFrom k.cells off n = some v) (hd : okD nt d = true)
    (hk : Wo P nt l (putA A d v) (m ++ [k]) ls Q) : Wo P nt (⟨d, none, .load n a⟩ :: l) A (m ++ [k]) ls Q :=
  wo_load ha (get_last m k) hg hv hd hk

theorem look_keep' {A : As} {is : List Nat} {i : Nat} {v : MV} (h : look (keep A is) i = some v) : look A i = some v := (look_keep h).1

/-- An exit: only these slots are wanted behind. -/
theorem wx_exitL {id : Nat} (is : List Nat) {Q : Ex → As → Mem → List LRec → Prop} (h : Q (.exit id) (keep A is) m ls) : Wx P nt (.exit id) A m ls Q :=
  (wx_exit h).weak fun _ _ => look_keep'
theorem wx_retL (is : List Nat) {Q : Ex → As → Mem → List LRec → Prop} (h : Q .ret (keep A is) m ls) : Wx P nt .ret A m ls Q :=
  (wx_ret h).weak fun _ _ => look_keep'
theorem wx_skipL (is : List Nat) {Q : Ex → As → Mem → List LRec → Prop} (h : Q .normal (keep A is) m ls) : Wx P nt .skip A m ls Q :=
  (wx_skip h).weak fun _ _ => look_keep'

/-! ### Slices as lists -/

def flat {α : Type} (E : α → List MV) : List α → List MV
  | [] => []
  | x :: xs => E x ++ flat E xs

structure Enc (α : Type) where
  E : α → List MV
  sz : Nat
  len : ∀ a, (E a).length = sz
  deep : ∀ a, clns (E a) = true

variable {α : Type} {K : Enc α}

theorem flat_len (K : Enc α) : ∀ xs : List α, (flat K.E xs).length = xs.length * K.sz
  | [] => by simp [flat]
  | x :: xs => by simp [flat, flat_len K xs, K.len, Nat.add_mul]; omega

theorem flat_append (E : α → List MV) : ∀ xs ys : List α, flat E (xs ++ ys) = flat E xs ++ flat E ys
  | [], _ => rfl
  | x :: xs, ys => by simp [flat, flat_append E xs ys]

theorem clns_append : ∀ {xs ys : List MV}, clns xs = true → clns ys = true → clns (xs ++ ys) = true
  | [], _, _, h => h
  | x :: xs, ys, h1, h2 => by
    simp only [clns, Bool.and_eq_true] at h1
    simp only [List.cons_append, clns, h1.1, clns_append h1.2 h2, Bool.and_self]

theorem flat_cln (K : Enc α) : ∀ xs : List α, clns (flat K.E xs) = true
  | [] => rfl
  | x :: xs => clns_append (K.deep x) (flat_cln K xs)

theorem flat_deep (K : Enc α) (xs : List α) : deepVs (flat K.E xs) = true := clns_deep (flat_cln K xs)

theorem flat_drop (K : Enc α) : ∀ (xs : List α) (n : Nat), (flat K.E xs).drop (n * K.sz) = flat K.E (xs.drop n)
  | [], n => by simp [flat]
  | x :: xs, 0 => by simp
  | x :: xs, n + 1 => by
    simp only [flat, List.drop_succ_cons]
    rw [show (n + 1) * K.sz = (K.E x).length + n * K.sz from by rw [K.len, Nat.add_mul]; omega, List.drop_append, List.drop_eq_nil_of_le (by omega)]
    simp [flat_drop K xs n]

theorem flat_take (K : Enc α) : ∀ (xs : List α) (n : Nat), (flat K.E xs).take (n * K.sz) = flat K.E (xs.take n)
  | [], n => by simp [flat]
  | x :: xs, 0 => by simp [flat]
  | x :: xs, n + 1 => by
    simp only [flat, List.take_succ_cons]
    rw [show (n + 1) * K.sz = (K.E x).length + n * K.sz from by rw [K.len, Nat.add_mul]; omega, List.take_append, List.take_of_length_le (by omega)]
    simp [flat_take K xs n]

theorem flat_at (K : Enc α) (xs : List α) {i : Nat} (hi : i < xs.length) : ((flat K.E xs).drop (i * K.sz)).take K.sz = K.E xs[i] := by
  rw [flat_drop]
  have : xs.drop i = xs[i] :: xs.drop (i + 1) := (List.drop_eq_getElem_cons hi)
  rw [this]
  simp only [flat]
  rw [List.take_append_of_le_length (by rw [K.len]; exact Nat.le_refl _), List.take_of_length_le (by rw [K.len]; exact Nat.le_refl _)]

theorem flat_get (K : Enc α) (xs : List α) {i o : Nat} (hi : i < xs.length) (ho : o < K.sz) : (flat K.E xs)[i * K.sz + o]? = (K.E xs[i])[o]? := by
  rw [← flat_at K xs hi, List.getElem?_take_of_lt ho, List.getElem?_drop]

theorem load_cell (K : Enc α) (xs : List α) {i o : Nat} (hi : i < xs.length) (ho : o < K.sz) : loadFrom (flat K.E xs) (i * K.sz + o) none = (K.E xs[i])[o]? := flat_get K xs hi ho

theorem load_part (K : Enc α) (xs : List α) {i o n : Nat} (hi : i < xs.length) (ho : o + n ≤ K.sz) : loadFrom (flat K.E xs) (i * K.sz + o) (some n) = some (.agg (((K.E xs[i]).drop o).take n)) := by
  have hl := flat_len K xs
  have hmul : (i + 1) * K.sz ≤ xs.length * K.sz := Nat.mul_le_mul_right _ hi
  rw [Nat.add_mul] at hmul
  simp only [loadFrom, takeAt]
  rw [if_pos (by omega)]
  rw [← flat_at K xs hi, List.drop_take, List.drop_drop, List.take_take, Nat.min_eq_left (by omega)]
  rfl

/-- A slice that is read: nil, or a tree. -/
def Sl (K : Enc α) (xs : List α) (v : MV) : Prop := (v = .nils ∧ xs = []) ∨ ∃ kc, v = .lit (flat K.E xs) xs.length kc

theorem Sl.lit {xs : List α} {kc : Option Nat} : Sl K xs (.lit (flat K.E xs) xs.length kc) := .inr ⟨kc, rfl⟩
theorem Sl.nil : Sl K [] .nils := .inl ⟨rfl, rfl⟩
theorem Sl.len {xs : List α} {v : MV} (h : Sl K xs v) : lenM v = some xs.length := by
  rcases h with ⟨rfl, rfl⟩ | ⟨kc, rfl⟩ <;> rfl
theorem Sl.deep {xs : List α} {v : MV} (h : Sl K xs v) : deepV v = true := by
  rcases h with ⟨rfl, rfl⟩ | ⟨kc, rfl⟩ <;> simp [deepV]
theorem Sl.cells {xs : List α} {v : MV} (h : Sl K xs v) : cellsOf v = some [v] := by
  rcases h with ⟨rfl, rfl⟩ | ⟨kc, rfl⟩ <;> rfl

theorem wo_lenS {x : Opd} {v : MV} {xs : List α} (hx : lk A x = some v) (hs : Sl K xs v) (hd : okD nt d = true) (hk : Wo P nt l (putA A d (.int .i64 (xs.length : Int))) m ls Q) : Wo P nt (⟨d, none, .len x⟩ :: l) A m ls Q :=
  wo_len hx hs.len hd hk

theorem wo_iaddrS {sz : Nat} {x i : Opd} {v : MV} {xs : List α} {k : IntKind} {a : Int} (hx : lk A x = some v) (hs : Sl K xs v) (hi : lk A i = some (.int k a)) (h0 : 0 ≤ a ∧ a.toNat < xs.length) (hz : K.sz = sz) (hd : okD nt d = true)
    (hk : Wo P nt l (putA A d (.pimm (flat K.E xs) (a.toNat * K.sz + 0))) m ls Q) : Wo P nt (⟨d, none, .iaddr sz x i⟩ :: l) A m ls Q := by
  subst hz
  rcases hs with ⟨rfl, rfl⟩ | ⟨kc, rfl⟩
  · simp at h0
  · exact wo_iaddrl hx hi h0.1 h0.2 rfl hd hk

/-- A field of an element. -/
theorem wo_loadc {a : Opd} {xs : List α} {i o : Nat} {u : MV} (ha : lk A a = some (.pimm (flat K.E xs) (i * K.sz + o))) (hi : i < xs.length) (hv : (K.E (xs[i]'hi))[o]? = some u) (hd : okD nt d = true)
    (hk : Wo P nt l (putA A d u) m ls Q) : Wo P nt (⟨d, none, .load none a⟩ :: l) A m ls Q := by
  have ho : o < K.sz := by have := (List.getElem?_eq_some_iff.1 hv).1; rw [K.len] at this; exact this
  exact wo_loadp ha (by rw [load_cell K xs hi ho, hv]) hd hk
theorem wo_loade {a : Opd} {n : Nat} {xs : List α} {i : Nat} (ha : lk A a = some (.pimm (flat K.E xs) (i * K.sz + 0))) (hi : i < xs.length) (hn : K.sz = n) (hd : okD nt d = true)
    (hk : Wo P nt l (putA A d (.agg (K.E (xs[i]'hi)))) m ls Q) : Wo P nt (⟨d, none, .load (some n) a⟩ :: l) A m ls Q := by
  subst hn
  refine wo_loadp ha (load_part K xs hi (by omega)) hd ?_
  simpa [List.take_of_length_le (show (K.E xs[i]).length ≤ K.sz by rw [K.len]; exact Nat.le_refl _)] using hk
theorem wo_faddrc {a : Opd} {o o' f : Nat} {xs : List α} {i : Nat} (ha : lk A a = some (.pimm (flat K.E xs) (i * K.sz + o))) (ho : o + f = o') (hd : okD nt d = true)
    (hk : Wo P nt l (putA A d (.pimm (flat K.E xs) (i * K.sz + o'))) m ls Q) : Wo P nt (⟨d, none, .faddr f a⟩ :: l) A m ls Q :=
  wo_faddri ha (by omega) hd hk

theorem wo_sliceS {sz : Nat} {x : Opd} {lo hi : Option Opd} {v : MV} {xs : List α} {a b : Int} (hx : lk A x = some v) (hs : Sl K xs v) (hl : bdA A lo 0 = some a) (hh : bdA A hi xs.length = some b) (h : 0 ≤ a ∧ a ≤ b ∧ b ≤ xs.length) (hz : K.sz = sz) (hd : okD nt d = true)
    (hk : ∀ v', Sl K ((xs.drop a.toNat).take (b.toNat - a.toNat)) v' → Wo P nt l (putA A d v') m ls Q) : Wo P nt (⟨d, none, .slice sz x lo hi none⟩ :: l) A m ls Q := by
  subst hz
  rcases hs with ⟨rfl, rfl⟩ | ⟨kc, rfl⟩
  · exact wo_slicen hx hl hh h.1 h.2.1 h.2.2 hd (hk _ (by simp only [List.drop_nil, List.take_nil]; exact .nil))
  · refine wo_slicel hx hl hh h.1 h.2.1 h.2.2 (flat_len K xs) hd (hk _ (.inr ⟨kc.map (· - a.toNat), ?_⟩))
    rw [flat_drop, flat_take]
    congr 1
    simp; omega

/-! ### A slice of the own, that is appended to -/

theorem take_all {cs : List MV} {n : Nat} (h : cs.length = n) : takeAt cs 0 n = some cs := by
  subst h; simp [takeAt]


/-- The slice v holds xs, and is the only way to its block. -/
def Own (K : Enc α) (xs : List α) (m : Mem) (v : MV) : Prop :=
  (v = .nils ∧ xs = []) ∨ ∃ b g kc, v = .sl b g 0 xs.length K.sz kc ∧ m[b]? = some ⟨flat K.E xs, g, true⟩

theorem Own.len {xs : List α} {v : MV} (h : Own K xs m v) : lenM v = some xs.length := by
  rcases h with ⟨rfl, rfl⟩ | ⟨b, g, kc, rfl, _⟩ <;> rfl

/-- The slice v holds xs, and an append to it touches no block below N. -/
def App (K : Enc α) (N : Nat) (xs : List α) (m : Mem) (v : MV) : Prop :=
  (v = .nils ∧ xs = []) ∨ v = .lit (flat K.E xs) xs.length (some xs.length) ∨ ∃ b g, N ≤ b ∧ v = .sl b g 0 xs.length K.sz none ∧ m[b]? = some ⟨flat K.E xs, g, true⟩

theorem App.len {N : Nat} {xs : List α} {v : MV} (h : App K N xs m v) : lenM v = some xs.length := by
  rcases h with ⟨rfl, rfl⟩ | rfl | ⟨b, g, _, rfl, _⟩ <;> rfl
theorem App.cells {N : Nat} {xs : List α} {v : MV} (h : App K N xs m v) : cellsOf v = some [v] := by
  rcases h with ⟨rfl, rfl⟩ | rfl | ⟨b, g, _, rfl, _⟩ <;> rfl
theorem App.nil {N : Nat} : App K N [] m .nils := .inl ⟨rfl, rfl⟩
theorem App.push {N : Nat} {xs : List α} {v : MV} (h : App K N xs m v) (k : Blk) : App K N xs (m ++ [k]) v := by
  rcases h with h | h | ⟨b, g, h1, h2, h3⟩
  · exact .inl h
  · exact .inr (.inl h)
  · exact .inr (.inr ⟨b, g, h1, h2, by rw [List.getElem?_append_left (List.getElem?_eq_some_iff.1 h3).1]; exact h3⟩)
theorem App.set {N : Nat} {xs : List α} {v : MV} (h : App K N xs m v) {i : Nat} (hi : i < N) (k : Blk) : App K N xs (m.set i k) v := by
  rcases h with h | h | ⟨b, g, h1, h2, h3⟩
  · exact .inl h
  · exact .inr (.inl h)
  · exact .inr (.inr ⟨b, g, h1, h2, by rw [List.getElem?_set_ne (by omega)]; exact h3⟩)
theorem App.same {N : Nat} {xs : List α} {v : MV} (h : App K N xs m v) {m' : Mem} (hm : ∀ i : Nat, N ≤ i → ∀ k, m[i]? = some k → m'[i]? = some k) : App K N xs m' v := by
  rcases h with h | h | ⟨b, g, h1, h2, h3⟩
  · exact .inl h
  · exact .inr (.inl h)
  · exact .inr (.inr ⟨b, g, h1, h2, hm b h1 _ h3⟩)

theorem App.frz {N : Nat} {xs : List α} {v : MV} (h : App K N xs m v) (n : Nat) : ∃ v', Go.Mini.frz m (n + 1) v = some v' ∧ Sl K xs v' := by
  rcases h with ⟨rfl, rfl⟩ | rfl | ⟨b, g, _, rfl, hb⟩
  · exact ⟨.nils, rfl, .nil⟩
  · exact ⟨_, rfl, .lit⟩
  · refine ⟨.lit (flat K.E xs) xs.length none, ?_, .lit⟩
    unfold Go.Mini.frz
    rw [if_neg (by simp [deepV])]
    simp only [blk_of hb rfl, take_all (flat_len K xs), if_true]

/-- An append of what is a tree, or of the own. -/
theorem App.app {N bytes sz : Nat} {xs ys : List α} {v x : MV} (h : App K N xs m v) (hN : N ≤ m.length) (hx : srcCells m sz x = some (flat K.E ys, true)) (hl : lenM x = some ys.length) (hy : ys ≠ []) (hr : (xs.length + ys.length) * bytes ≤ 35184372088832) (hz : K.sz = sz) :
    ∃ v' m', appM m sz bytes v x = some (v', m') ∧ App K N (xs ++ ys) m' v' ∧ (∀ i : Nat, i < N → m'[i]? = m[i]?) ∧ m.length ≤ m'.length := by
  subst hz
  have hn : ys.length ≠ 0 := fun e => hy (List.length_eq_zero_iff.1 e)
  have hroom : roomy (xs.length + ys.length) bytes = true := by simp [roomy, hr]
  rcases h with ⟨rfl, rfl⟩ | rfl | ⟨b, g, h1, rfl, h3⟩
  · refine ⟨.sl m.length ys.length 0 ys.length K.sz none, m ++ [⟨flat K.E ys, ys.length, true⟩], ?_, .inr (.inr ⟨m.length, ys.length, hN, rfl, by simp⟩), fun i hi => by rw [List.getElem?_append_left (by omega)], by simp⟩
    have hroom' : roomy ys.length bytes = true := by simpa using hroom
    have e : lenM .nils = some 0 := rfl
    unfold appM
    rw [hl, hx, e]
    simp [hn, hroom']
  · refine ⟨.sl m.length (xs.length + ys.length) 0 (xs.length + ys.length) K.sz none, m ++ [⟨flat K.E xs ++ flat K.E ys, xs.length + ys.length, true⟩], ?_, .inr (.inr ⟨m.length, xs.length + ys.length, hN, by simp, by simp [flat_append]⟩), fun i hi => by rw [List.getElem?_append_left (by omega)], by simp⟩
    have e : lenM (.lit (flat K.E xs) xs.length (some xs.length)) = some xs.length := rfl
    unfold appM
    rw [hl, hx, e]
    simp only [hn, if_false, hroom, if_true]
    rw [if_pos ⟨by omega, flat_len K xs⟩]
  · refine ⟨.sl b (g + ys.length) 0 (xs.length + ys.length) K.sz none, m.set b ⟨flat K.E xs ++ flat K.E ys, g + ys.length, true⟩, ?_, .inr (.inr ⟨b, g + ys.length, h1, by simp, ?_⟩), fun i hi => by rw [List.getElem?_set_ne (by omega)], by simp⟩
    · have e : lenM (.sl b g 0 xs.length K.sz none) = some xs.length := rfl
      unfold appM
      rw [hl, hx, e]
      simp only [hn, if_false, hroom, if_true, blk_of h3 rfl, take_all (flat_len K xs), fullK]
      simp
    · rw [List.getElem?_set_self (List.getElem?_eq_some_iff.1 h3).1, flat_append]

theorem src_lit {xs : List α} {kc : Option Nat} : srcCells m K.sz (.lit (flat K.E xs) xs.length kc) = some (flat K.E xs, true) := by
  simp [srcCells, flat_len]

/-! ### Results -/

theorem frz_deep {n : Nat} {v : MV} (h : deepV v = true) : frz m (n + 1) v = some v := by unfold frz; rw [if_pos h]
theorem frzs_deep {n : Nat} {vs : List MV} (h : deepVs vs = true) : frzs m (n + 1) vs = some vs := by unfold frzs; rw [if_pos h]
theorem frzc_cln {n : Nat} {v : MV} (h : cln v = true) : frzc m (n + 1) v = some v := by unfold frzc; rw [if_pos h]
theorem frzcs_cln {n : Nat} {vs : List MV} (h : clns vs = true) : frzcs m (n + 1) vs = some vs := by unfold frzcs; rw [if_pos h]

theorem Own.frzc {xs : List α} {v : MV} (h : Own K xs m v) (n : Nat) : ∃ v', Go.Mini.frzc m (n + 2) v = some v' ∧ Sl K xs v' := by
  rcases h with ⟨rfl, rfl⟩ | ⟨b, g, kc, rfl, hb⟩
  · exact ⟨.nils, frzc_cln rfl, .nil⟩
  · refine ⟨.lit (flat K.E xs) xs.length kc, ?_, .lit⟩
    unfold Go.Mini.frzc
    rw [if_neg (by simp [cln])]
    simp only [blk_of hb rfl, take_all (flat_len K xs), frzcs_cln (flat_cln K xs)]

/-- A pair's freezing: the first, and one that says all itself. -/
theorem frzc_two {n : Nat} {v v' u : MV} (hv : frzc m (n + 1) v = some v') (hu : cln u = true) : ∃ w, frzc m (n + 3) (.tup [v, u]) = some w ∧ w = .tup [v', u] := by
  by_cases hc : clns [v, u] = true
  · have hcv : cln v = true := by simp only [clns, Bool.and_eq_true] at hc; exact hc.1
    rw [frzc_cln hcv] at hv
    simp only [Option.some.injEq] at hv
    subst hv
    exact ⟨_, frzc_cln (by simpa [cln] using hc), rfl⟩
  · refine ⟨.tup [v', u], ?_, rfl⟩
    unfold frzc
    rw [if_neg (by simpa [cln] using hc)]
    simp only
    unfold frzcs
    rw [if_neg hc]
    simp only [hv, frzcs_cln (m := m) (n := n) (show clns [u] = true by simp [clns, hu])]

theorem fuel (k : Nat) (h : k ≤ 1000) : ∃ n, frzFuel = n + k := ⟨frzFuel - k, by unfold frzFuel; omega⟩

/-- An end with a value that says all itself. -/
theorem fin_cln {v : MV} {R : MV → Prop} (hc : cln v = true) (h : R v) : Fin3 R m v := by
  obtain ⟨n, hn⟩ := fuel 1 (by omega)
  exact ⟨by rw [hn]; exact frzc_cln hc, h⟩
theorem fin_own {xs : List α} {v : MV} {R : MV → Prop} (ho : Own K xs m v) (h : ∀ v', Sl K xs v' → R v') : Fin3 R m v := by
  obtain ⟨n, hn⟩ := fuel 2 (by omega)
  obtain ⟨v', h1, h2⟩ := ho.frzc n
  exact ⟨by rw [hn]; exact h1, h v' h2⟩
theorem fin_own2 {xs : List α} {v u : MV} {R : MV → Prop} (ho : Own K xs m v) (hu : cln u = true) (h : ∀ v', Sl K xs v' → R (.tup [v', u])) : Fin3 R m (.tup [v, u]) := by
  obtain ⟨n, hn⟩ := fuel 4 (by omega)
  obtain ⟨v', h1, h2⟩ := ho.frzc n
  obtain ⟨w, h3, rfl⟩ := frzc_two h1 hu
  exact ⟨by rw [hn]; exact h3, h v' h2⟩
theorem fin1_deep {v : MV} {R : MV → Prop} (hc : deepV v = true) (h : R v) : Fin1 R m v := by
  obtain ⟨n, hn⟩ := fuel 1 (by omega)
  exact ⟨by rw [hn]; exact frz_deep hc, h⟩
theorem App.fin1 {N : Nat} {xs : List α} {v u : MV} {R : MV → Prop} (h : App K N xs m v) (hu : deepV u = true) (hR : ∀ v', Sl K xs v' → R (.tup [v', u])) : Fin1 R m (.tup [v, u]) := by
  obtain ⟨n, hn⟩ := fuel 4 (by omega)
  obtain ⟨v', h1, h2⟩ := h.frz n
  refine ⟨?_, hR v' h2⟩
  rw [hn]
  by_cases hd : deepV v = true
  · rw [frz_deep hd] at h1
    simp only [Option.some.injEq] at h1
    subst h1
    exact frz_deep (by simp [deepV, deepVs, hd, hu])
  · unfold Go.Mini.frz
    rw [if_neg (by simp [deepV, deepVs, hd])]
    simp only
    unfold frzs
    rw [if_neg (by simp [deepVs, hd])]
    simp only
    have e : Go.Mini.frz m (n + 2) v = some v' := by
      obtain ⟨v2, h3, h4⟩ := h.frz (n + 1)
      rcases h with ⟨rfl, rfl⟩ | rfl | ⟨b, g, _, rfl, hb⟩
      · exact absurd rfl hd
      · exact absurd rfl hd
      · unfold Go.Mini.frz at h1 h3 ⊢
        rw [if_neg (by simp [deepV])] at h1 h3 ⊢
        simp only [blk_of hb rfl, take_all (flat_len K xs), if_true] at h1 h3 ⊢
        exact h1
    rw [e]
    simp only [frzs_deep (m := m) (n := n + 1) (show deepVs [u] = true by simp [deepVs, hu])]

theorem res_cells2 {A : As} {r1 r2 b1 b2 g1 g2 : Nat} {u v : MV} {d1 d2 : Bool} (h1 : look A r1 = some (.ptr b1 g1 0)) (h2 : look A r2 = some (.ptr b2 g2 0)) (hb1 : m[b1]? = some ⟨[u], g1, d1⟩) (hb2 : m[b2]? = some ⟨[v], g2, d2⟩) :
    resA A m [.cell r1 none, .cell r2 none] = some [u, v] := by
  simp [resA, h1, h2, loadV, blk?, hb1, hb2, loadFrom]
theorem res_cell {A : As} {r b g : Nat} {u : MV} {d : Bool} (h1 : look A r = some (.ptr b g 0)) (hb : m[b]? = some ⟨[u], g, d⟩) : resA A m [.cell r none] = some [u] := by
  simp [resA, h1, loadV, blk?, hb, loadFrom]

theorem frzs_fuel {vs : List MV} (h : deepVs vs = true) : frzs m frzFuel vs = some vs := by
  obtain ⟨n, hn⟩ := fuel 1 (by omega)
  rw [hn, frzs_deep h]

end
end Go.Mini
