/-
Ranges over functions: what an iterator goes over, said once (IterOk, IterAt), and what a range over it does.
-/
import Derived.Test.YtnekgoanadbmmaaMiS
namespace Go.Mini

section
variable {P : IProg} {nt : Nat} {A : As} {m : Mem} {ls : List LRec}

theorem wx_range {f : Opd} {ps : List Nat} {asg body : IC} {g : Nat} {a b : List MV} {Q : Ex → As → Mem → List LRec → Prop} (hf : lk A f = some (.fn g a b))
    (h : ∀ T, T.length = nt → Rep A T → Wc P g (a ++ [.yld ls.length] ++ b) m (ls ++ [⟨T, ps, asg, body, 0, none⟩]) fun _ m' ls' =>
      ∃ r, ls'[ls.length]? = some r ∧ (r.st = 0 ∨ r.st = 2) ∧ Q (r.pend.getD .normal) A m' (ls'.set ls.length deadL)) : Wx P nt (.rangeF f ps asg body) A m ls Q := by
  refine ⟨fun T hT hA => ?_⟩
  obtain ⟨n, v, m', ls', h1, r, h2, h3, h4⟩ := (h T hT hA).out
  refine ⟨n, r.pend.getD .normal, ⟨T, m', ls'.set ls.length deadL⟩, A, ?_, hT, hA, h4⟩
  simp only [evC, hA.o hf, h1, h2, h3, if_true]
  cases r.pend <;> rfl

/-- A round's slots. -/
def setA : As → List Nat → List MV → As
  | A, p :: ps, a :: as => setA ((p, a) :: A) ps as
  | A, _, _ => A

theorem setPs_len : ∀ {ps : List Nat} {as T : List MV}, (setPs T ps as).length = T.length
  | [], _, _ => by simp [setPs]
  | _ :: _, [], _ => by simp [setPs]
  | p :: ps, a :: as, T => by simp [setPs, setPs_len]

theorem rep_setPs : ∀ {ps : List Nat} {as T : List MV} {A : As}, T.length = nt → (∀ p ∈ ps, p < nt) → Rep A T → Rep (setA A ps as) (setPs T ps as)
  | [], _, _, _, _, _, h => by simpa [setPs, setA] using h
  | _ :: _, [], _, _, _, _, h => by simpa [setPs, setA] using h
  | p :: ps, a :: as, T, A, hT, hp, h => by
    simp only [setA, setPs]
    exact rep_setPs (by simp [hT]) (fun q hq => hp q (by simp [hq])) (h.put (by have := hp p (by simp); omega))

theorem setL_at {ls : List LRec} {j : Nat} {r : LRec} (h : ls[j]? = some r) (st : Nat) (pe : Option Ex) : setL ls j st pe = ls.set j ⟨r.T, r.ps, r.asg, r.body, st, pe⟩ := by
  simp [setL, h]

theorem wy_round {j : Nat} {args : List MV} {T : List MV} {ps : List Nat} {asg body : IC} {pe : Option Ex} {Q : MV → Mem → List LRec → Prop} (hr : ls[j]? = some ⟨T, ps, asg, body, 0, pe⟩) (hl : args.length = ps.length) (hT : T.length = nt) (hp : ∀ p ∈ ps, p < nt) (hA : Rep A T)
    (h : Wx P nt asg (setA A ps args) m ls fun ex A' m' ls' => ex = .normal ∧ ls' = ls ∧ Wx P nt body A' m' (ls.set j ⟨T, ps, asg, body, 1, pe⟩) fun e _ m'' ls'' => (∃ r, ls''[j]? = some r ∧ r.st = 1) ∧
      (match e with | .normal => Q (.bool true) m'' (setL ls'' j 0 none) | e => Q (.bool false) m'' (setL ls'' j 2 (some e)))) : Wy P j args m ls Q := by
  obtain ⟨n, ex, s1, A1, h1, h2, h3, h4, h5, h6⟩ := h.out (setPs T ps args) (by rw [setPs_len, hT]) (rep_setPs hT hp hA)
  subst h4
  obtain ⟨k, e, s2, A2, g1, _, _, ⟨r, g2, g3⟩, g4⟩ := h6.out s1.T h2 h3
  have c1 := evC_le (mach_le P (Nat.le_max_left n k)) (Nat.le_max_left n k) h1
  have c2 := evC_le (mach_le P (Nat.le_max_right n k)) (Nat.le_max_right n k) g1
  have e1 : s1.ls[j]? = some ⟨T, ps, asg, body, 0, pe⟩ := by rw [h5, hr]
  have e2 : setL s1.ls j 1 pe = ls.set j ⟨T, ps, asg, body, 1, pe⟩ := by rw [setL_at e1, h5]
  have key : yldF (mach P (max n k)) (max n k) j args m ls = endY j e s2 := by
    unfold yldF
    simp only [hr, hl, and_self, if_true, c1, e1, e2]
    rw [c2]
  have fin : ∀ v m' ls', endY j e s2 = some (v, m', ls') → Q v m' ls' → Wy P j args m ls Q := fun v m' ls' he hq =>
    ⟨⟨max n k + 1, v, m', ls', by simp only [mach]; rw [key, he], hq⟩⟩
  cases e with
  | normal => exact fin _ _ _ (by simp [endY, g2, g3]) g4
  | exit id => exact fin _ _ _ (by simp [endY, g2, g3]) g4
  | ret => exact fin _ _ _ (by simp [endY, g2, g3]) g4

/-- The function goes over xs; p: no cell of its own is written. -/
def IterOk (P : IProg) (g : Nat) (a b : List MV) (xs : List (List MV)) : Prop :=
  ∀ (J : Nat → Mem → List LRec → Prop) (S : Mem → List LRec → Prop) (j : Nat) (m : Mem) (ls : List LRec), J 0 m ls → (∀ i m ls k, J i m ls → J i (m ++ [k]) ls) →
    (∀ i x m ls, xs[i]? = some x → J i m ls → Wy P j x m ls fun v m' ls' => v = .bool true ∧ J (i + 1) m' ls' ∨ v = .bool false ∧ S m' ls') →
    Wc P g (a ++ [.yld j] ++ b) m ls fun _ m' ls' => J xs.length m' ls' ∨ S m' ls'

/-- The function goes over xs; it has one block of its own, p, which holds c i ahead of round i. -/
def IterAt (P : IProg) (g : Nat) (a b : List MV) (xs : List (List MV)) (p : Nat) (c : Nat → Blk) (G : Mem → Prop) : Prop :=
  ∀ (J : Nat → Mem → List LRec → Prop) (S : Mem → List LRec → Prop) (j : Nat) (m : Mem) (ls : List LRec), J 0 m ls → m[p]? = some (c 0) → (∀ i m ls, J i m ls → G m) → (∀ i m ls k, J i m ls → J i (m.set p k) ls) → (∀ i m ls k, J i m ls → J i (m ++ [k]) ls) →
    (∀ i x m ls, xs[i]? = some x → m[p]? = some (c i) → J i m ls → Wy P j x m ls fun v m' ls' => m'[p]? = some (c i) ∧ (v = .bool true ∧ J (i + 1) m' ls' ∨ v = .bool false ∧ S m' ls')) →
    Wc P g (a ++ [.yld j] ++ b) m ls fun _ m' ls' => J xs.length m' ls' ∨ S m' ls'

/-- What the loops' records are behind rounds. -/
def LsK (ls : List LRec) (T : List MV) (ps : List Nat) (asg body : IC) (st : Nat) (pe : Option Ex) (ls' : List LRec) : Prop := ∃ junk, ls' = ls ++ ⟨T, ps, asg, body, st, pe⟩ :: junk

theorem lsK_at {T : List MV} {ps : List Nat} {asg body : IC} {st : Nat} {pe : Option Ex} {ls' : List LRec} (h : LsK ls T ps asg body st pe ls') : ls'[ls.length]? = some ⟨T, ps, asg, body, st, pe⟩ := by
  obtain ⟨junk, rfl⟩ := h; simp

theorem set_mid {α : Type} (xs : List α) (x y : α) (ys : List α) : (xs ++ x :: ys).set xs.length y = xs ++ y :: ys := by simp

/-- A round's body: whatever loops there are, it leaves them, and adds some that are over. -/
def Body (P : IProg) (nt : Nat) (body : IC) (A : As) (m : Mem) (Q : Ex → Mem → Prop) : Prop :=
  ∀ ls, Wx P nt body A m ls fun e _ m' ls' => (∃ junk, ls' = ls ++ junk) ∧ Q e m'

theorem wy_body {j : Nat} {ls0 : List LRec} {args : List MV} {T : List MV} {ps : List Nat} {asg body : IC} {R : Ex → Mem → Prop} (hls : LsK ls0 T ps asg body 0 none ls) (hj : j = ls0.length) (hl : args.length = ps.length) (hT : T.length = nt) (hp : ps.all (fun p => Nat.blt p nt) = true) (hA : Rep A T)
    (h : ∀ ls, Wx P nt asg (setA A ps args) m ls fun ex A' m' ls' => ex = .normal ∧ ls' = ls ∧ Body P nt body A' m' R) :
    Wy P j args m ls fun v m' ls' => (v = .bool true ∧ LsK ls0 T ps asg body 0 none ls' ∧ R .normal m') ∨ (v = .bool false ∧ ∃ e, e ≠ .normal ∧ LsK ls0 T ps asg body 2 (some e) ls' ∧ R e m') := by
  subst hj
  refine wy_round (lsK_at hls) hl hT (fun p hp' => by have := List.all_eq_true.1 hp p hp'; simp [Nat.blt] at this; omega) hA ?_
  refine (h ls).mono ?_
  rintro ex A' m' ls' ⟨h1, h2, h3⟩
  refine ⟨h1, h2, (h3 _).mono ?_⟩
  rintro e A2 m2 ls2 ⟨⟨junk2, rfl⟩, h4⟩
  obtain ⟨junk, rfl⟩ := hls
  have hat : (((ls0 ++ ⟨T, ps, asg, body, 0, none⟩ :: junk).set ls0.length ⟨T, ps, asg, body, 1, none⟩) ++ junk2)[ls0.length]? = some ⟨T, ps, asg, body, 1, none⟩ := by simp
  refine ⟨⟨_, hat, rfl⟩, ?_⟩
  cases e with
  | normal => exact .inl ⟨rfl, ⟨junk ++ junk2, by rw [setL_at hat]; simp⟩, h4⟩
  | exit id => exact .inr ⟨rfl, _, by simp, ⟨junk ++ junk2, by rw [setL_at hat]; simp⟩, h4⟩
  | ret => exact .inr ⟨rfl, _, by simp, ⟨junk ++ junk2, by rw [setL_at hat]; simp⟩, h4⟩

/-- A range over an iterator that writes nothing of its own. -/
theorem wx_over {f : Opd} {ps : List Nat} {asg body : IC} {g : Nat} {a b : List MV} {xs : List (List MV)} {Q : Ex → As → Mem → List LRec → Prop} (K : Nat → Mem → Prop) (E : Ex → Mem → Prop) (hf : lk A f = some (.fn g a b)) (hit : IterOk P g a b xs) (hp : ps.all (fun p => Nat.blt p nt) = true)
    (hlen : ∀ x ∈ xs, x.length = ps.length) (h0 : K 0 m) (hKa : ∀ i m k, K i m → K i (m ++ [k]))
    (hbody : ∀ i x m ls, xs[i]? = some x → K i m → Wx P nt asg (setA A ps x) m ls fun ex A' m' ls' => ex = .normal ∧ ls' = ls ∧ Body P nt body A' m' fun e m'' => match e with | .normal => K (i + 1) m'' | e => E e m'')
    (hend : ∀ m junk, K xs.length m → Q .normal A m (ls ++ junk)) (hstop : ∀ e m junk, e ≠ .normal → E e m → Q e A m (ls ++ junk)) : Wx P nt (.rangeF f ps asg body) A m ls Q := by
  refine wx_range hf fun T hT hA => ?_
  refine (hit (fun i m' ls' => K i m' ∧ LsK ls T ps asg body 0 none ls') (fun m' ls' => ∃ e, e ≠ .normal ∧ LsK ls T ps asg body 2 (some e) ls' ∧ E e m') ls.length m _ ⟨h0, [], rfl⟩ (fun i m ls k h => ⟨hKa i m k h.1, h.2⟩) ?_).mono ?_
  · rintro i x m1 ls1 hx ⟨hK, hls⟩
    refine (wy_body hls rfl (hlen x (List.mem_of_getElem? hx)) hT hp hA (hbody i x m1 · hx hK)).mono ?_
    rintro v m2 ls2 (⟨rfl, h1, h2⟩ | ⟨rfl, e, h1, h2, h3⟩)
    · exact .inl ⟨rfl, h2, h1⟩
    · refine .inr ⟨rfl, e, h1, h2, ?_⟩
      cases e with
      | normal => exact absurd rfl h1
      | exit id => exact h3
      | ret => exact h3
  · rintro v m2 ls2 (⟨hK, junk, rfl⟩ | ⟨e, h1, ⟨junk, rfl⟩, h2⟩)
    · refine ⟨_, lsK_at ⟨junk, rfl⟩, .inl rfl, ?_⟩
      rw [set_mid]
      exact hend _ _ hK
    · refine ⟨_, lsK_at ⟨junk, rfl⟩, .inr rfl, ?_⟩
      rw [set_mid]
      exact hstop e _ _ h1 h2

/-- A range over an iterator with a block of its own. -/
theorem wx_overAt {f : Opd} {ps : List Nat} {asg body : IC} {g : Nat} {a b : List MV} {xs : List (List MV)} {p : Nat} {c : Nat → Blk} {G : Mem → Prop} {Q : Ex → As → Mem → List LRec → Prop} (K : Nat → Mem → Prop) (E : Ex → Mem → Prop) (hf : lk A f = some (.fn g a b)) (hit : IterAt P g a b xs p c G) (hp : ps.all (fun p => Nat.blt p nt) = true)
    (hlen : ∀ x ∈ xs, x.length = ps.length) (h0 : K 0 m) (hc : m[p]? = some (c 0)) (hKG : ∀ i m, K i m → G m) (hK : ∀ i m k, K i m → K i (m.set p k)) (hKa : ∀ i m k, K i m → K i (m ++ [k]))
    (hbody : ∀ i x m ls, xs[i]? = some x → m[p]? = some (c i) → K i m → Wx P nt asg (setA A ps x) m ls fun ex A' m' ls' => ex = .normal ∧ ls' = ls ∧ Body P nt body A' m' fun e m'' => m''[p]? = some (c i) ∧ match e with | .normal => K (i + 1) m'' | e => E e m'')
    (hend : ∀ m junk, K xs.length m → Q .normal A m (ls ++ junk)) (hstop : ∀ e m junk, e ≠ .normal → E e m → Q e A m (ls ++ junk)) : Wx P nt (.rangeF f ps asg body) A m ls Q := by
  refine wx_range hf fun T hT hA => ?_
  refine (hit (fun i m' ls' => K i m' ∧ LsK ls T ps asg body 0 none ls') (fun m' ls' => ∃ e, e ≠ .normal ∧ LsK ls T ps asg body 2 (some e) ls' ∧ E e m') ls.length m _ ⟨h0, [], rfl⟩ hc (fun i m ls h => hKG i m h.1) (fun i m ls k h => ⟨hK i m k h.1, h.2⟩) (fun i m ls k h => ⟨hKa i m k h.1, h.2⟩) ?_).mono ?_
  · rintro i x m1 ls1 hx hc1 ⟨hK1, hls⟩
    refine (wy_body hls rfl (hlen x (List.mem_of_getElem? hx)) hT hp hA (hbody i x m1 · hx hc1 hK1)).mono ?_
    rintro v m2 ls2 (⟨rfl, h1, h2⟩ | ⟨rfl, e, h1, h2, h3⟩)
    · exact ⟨h2.1, .inl ⟨rfl, h2.2, h1⟩⟩
    · refine ⟨h3.1, .inr ⟨rfl, e, h1, h2, ?_⟩⟩
      cases e with
      | normal => exact absurd rfl h1
      | exit id => exact h3.2
      | ret => exact h3.2
  · rintro v m2 ls2 (⟨hK, junk, rfl⟩ | ⟨e, h1, ⟨junk, rfl⟩, h2⟩)
    · refine ⟨_, lsK_at ⟨junk, rfl⟩, .inl rfl, ?_⟩
      rw [set_mid]
      exact hend _ _ hK
    · refine ⟨_, lsK_at ⟨junk, rfl⟩, .inr rfl, ?_⟩
      rw [set_mid]
      exact hstop e _ _ h1 h2

end
end Go.Mini
