/-
The document's answers of law26: its head returns true.
-/
import Derived.Test.YtnekgoanadbmmaaCg
import Derived.KernelRfl
namespace Go.Proofs.Ytnekgoanadbmmaa
open Go.Mini
set_option linter.unusedSimpArgs false
set_option linter.unusedVariables false
set_option maxHeartbeats 4000000

/-- A call of trees that was run. -/
theorem wc_ran {P : IProg} {f : Nat} {F : IFn} {args args' : List MV} {n : Nat} {v : MV} {m m' : Mem} {ls ls' : List LRec} {R : MV → Mem → List LRec → Prop} (hp : P.prim f = none) (hF : P.fn f = some F) (hm : F.mode = 3) (ha : frzs m frzFuel args = some args')
    (hd : deepVs args' = true) (h : (mach P (n + 1)).call f args' [] [] = some (v, m', ls')) (hR : R v m ls) : Wc P f args m ls R := by
  refine ⟨⟨n + 1, v, m, ls, ?_, hR⟩⟩
  have h' : frzs [] frzFuel args' = some args' := by rw [frzFuel]; unfold frzs; rw [if_pos hd]
  simp only [mach, callP, hp, hF, callF, hm, h', ha] at h ⊢
  revert h
  repeat' split
  all_goals simp_all

theorem ran_mark97 : (mach ip (299 + 1)).call f_class_Mark [.int .i32 97] [] [] = some (.bool false, [], []) := by kernel_rfl
theorem ran_mark769 : (mach ip (299 + 1)).call f_class_Mark [.int .i32 769] [] [] = some (.bool true, [], []) := by kernel_rfl
theorem ran_places0 : (mach ip (59 + 1)).call f_ellipsis_Places [.nils, .nils, .agg [.int .i64 0, .int .i64 1, .bool false]] [] [] = some (.tup [.nils, .int .i64 2], [], []) := by kernel_rfl
theorem ran_whole0 : (mach ip (59 + 1)).call f_ellipsis_Whole [.nils, .lit [.int .u8 0, .int .i64 0, .int .i64 0, .int .i64 0, .bool false, .bool false] 1 none] [] [] = some (.tup [.nils, .int .i64 2], [], []) := by kernel_rfl

section
variable {m : Mem} {ls : List LRec} {Q : MV → Mem → List LRec → Prop}

theorem c_mark97 (hQ : Q (.bool false) m ls) : Wc ip f_class_Mark [.int .i32 97] m ls Q := wc_ran rfl fn_class_Mark rfl rfl rfl ran_mark97 hQ
theorem c_mark769 (hQ : Q (.bool true) m ls) : Wc ip f_class_Mark [.int .i32 769] m ls Q := wc_ran rfl fn_class_Mark rfl rfl rfl ran_mark769 hQ

def chars6 : List MV := [.int .i32 97, .int .i64 0, .int .i64 0, .int .i64 0, .int .u8 0, .int .i32 97, .int .i64 0, .int .i64 0, .int .i64 0, .int .u8 0, .int .i32 97, .int .i64 0, .int .i64 0, .int .i64 0, .int .u8 0, .int .i32 769, .int .i64 0, .int .i64 0, .int .i64 0, .int .u8 0, .int .i32 97, .int .i64 0, .int .i64 0, .int .i64 0, .int .u8 0, .int .i32 97, .int .i64 0, .int .i64 0, .int .i64 0, .int .u8 0]
def cells6 : List Cell := [⟨0, 0, 0, 10, false, false⟩, ⟨0, 0, 1, 10, false, false⟩, ⟨0, 0, 2, 10, false, false⟩, ⟨0, 0, 3, 10, false, false⟩, ⟨0, 0, 4, 10, false, false⟩, ⟨0, 0, 5, 10, false, false⟩]
def whole6 : List Bool := [true, true, true, false, true, true]

structure Chr where
  r : Int
  a : Int
  b : Int
  c : Int
  d : Int
  deriving DecidableEq, Inhabited
def Chr.mv (c : Chr) : List MV := [.int .i32 c.r, .int .i64 c.a, .int .i64 c.b, .int .i64 c.c, .int .u8 c.d]
def KChr : Enc Chr := ⟨Chr.mv, 5, fun _ => rfl, fun _ => rfl⟩

/-- What class.Mark answers of a text. -/
def Marks (t : List Chr) (mk : Int → Bool) : Prop := ∀ x ∈ t, ∀ (m : Mem) (ls : List LRec) (Q : MV → Mem → List LRec → Prop), Q (.bool (mk x.r)) m ls → Wc ip f_class_Mark [.int .i32 x.r] m ls Q

def wholeF (t : List Chr) (mk : Int → Bool) (l : List Cell) : List Bool := l.map fun c => !mk (t.getD c.char.toNat default).r

theorem c_Whole {args : List MV} {t : List Chr} {mk : Int → Bool} {l : List Cell} {v w : MV} (hm : Marks t mk) (hz : frzs m frzFuel args = some [v, w]) (hv : Sl KChr t v) (hw : Sl KCell l w) (hk : ∀ c ∈ l, c.kind = 0 ∧ 0 ≤ c.char ∧ c.char < t.length) (hl : l.length ≤ 1000000)
    (hQ : ∀ w', Sl KBool (wholeF t mk l) w' → Q (.tup [w', .int .i64 0]) m ls) : Wc ip f_ellipsis_Whole args m ls Q := by
  refine wc_fn3 rfl fn_ellipsis_Whole rfl hz rfl ?_
  have key : ∀ (k i : Nat), i + k = l.length → ∀ (m : Mem) (o : List Bool), m[0]? = some ⟨flat KBool.E o, 0, true⟩ → o.length = l.length → o.take i = (wholeF t mk l).take i → ∀ {R : Ex → As → Mem → List LRec → Prop},
      (∀ m' : Mem, m'[0]? = some ⟨flat KBool.E (wholeF t mk l), 0, true⟩ → R (.exit 0) [(0, v), (6, .sl 0 0 0 l.length 1 (some l.length))] m' []) →
      Wx ip i_ellipsis_Whole.nt (.loop (lv [0, 6, 12, 13, 14] 48) ellipsis_Whole_b0) [(0, v), (6, .sl 0 0 0 l.length 1 (some l.length)), (12, w), (13, .int .i64 l.length), (14, .int .i64 i)] m [] R := by
    intro k
    induction k with
    | zero =>
      intro i hk m o h0 ho ht R hR
      have e : o = wholeF t mk l := by
        rw [List.take_of_length_le (by omega), List.take_of_length_le (by simp [wholeF]; omega)] at ht
        exact ht
      subst e
      refine wx_roundL rfl ?_
      repeat' (first
        | refine wx_exitL [0, 6] ?_
        | refine z00 ?_ | refine z01 ?_ | refine z02 ?_ | refine z03 ?_ | refine z04 ?_ | refine z05 ?_ | refine z06 ?_ | refine z07 ?_ | refine z08 ?_ | refine z09 ?_ | refine z0a ?_
        | refine z0b ?_ | refine z0c ?_ | refine z0d ?_ | refine z0e ?_ | refine z0f ?_ | refine z0g ?_ | refine z0h ?_ | refine z0i ?_ | refine z0j ?_ | refine z0k ?_ | refine z0l ?_
        | refine z0m ?_ | refine z0n ?_ | refine z0o ?_ | refine z0p ?_ | refine z0q ?_ | refine z0r ?_ | refine z0s ?_ | refine z0t ?_ | refine z0u ?_ | refine z0v ?_ | refine z0w ?_
        | refine z0x ?_ | refine z0y ?_ | refine z0z ?_ | refine z10 ?_ | refine z11 ?_ | refine z12 ?_ | refine z13 ?_ | refine z14 ?_ | refine z15 ?_ | refine z16 ?_ | refine z17 ?_
        | refine z18 ?_ | refine z19 ?_ | refine z1a ?_ | refine z1b ?_ | refine z1c ?_ | refine z1d ?_ | refine z1e ?_ | refine z1f (hk := ?_) | refine z1g ?_ | refine z1h ?_ | refine z1i ?_
        | refine z1j ?_ | refine z1k ?_ | refine z1l ?_ | refine z1m ?_ | refine z1n ?_ | refine z1o (fun hp => ?_) (fun hp => ?_) | refine z1p (fun hp => ?_) (fun hp => ?_)
        | refine z1q (fun hp => ?_) (fun hp => ?_) | refine z1r ?_ | refine z1s ?_ | refine z1t ?_ | refine z1u ?_ | refine z1v ?_ | refine z1w ?_ | refine z1x ?_ | refine z1y ?_
        | refine z1z ?_ | refine z20 ?_ | refine z21 ?_ | refine z22 ?_ | refine z23 ?_ | refine z24 ?_ | refine z25 ?_ | refine z26 ?_ | refine z27 ?_
        | refine z28 (fun hp => ?_) (fun hp => ?_) | refine z29 (fun hp => ?_) (fun hp => ?_) | refine z2a ?_ | refine z2b ?_)
      exact hR _ h0
    | succ k ih =>
      intro i hk' m o h0 ho ht R hR
      have hlt : i < l.length := by omega
      have hlt' : (i : Int).toNat < l.length := by omega
      obtain ⟨hk0, hc0, hc1⟩ := hk (l[(i : Int).toNat]'hlt') (List.getElem_mem hlt')
      have hct : (l[(i : Int).toNat]'hlt').char.toNat < t.length := by omega
      have hm0 : 0 < m.length := get_lt h0
      have hn0 : 0 ≠ m.length := by omega
      have hle : ∀ o : List Bool, o.length = l.length → 0 + (i : Int).toNat * 1 + 1 ≤ (flat KBool.E o).length := by
        intro o ho
        rw [flat_len]
        have : KBool.sz = 1 := rfl
        rw [this]; omega
      have e1 : setAt (flat KBool.E o) (0 + (i : Int).toNat * 1) [.bool true] = flat KBool.E (o.set i true) := set_bool (by omega)
      have hset : ∀ b : Bool, setAt (flat KBool.E (o.set i true)) (0 + (i : Int).toNat * 1) [.bool b] = flat KBool.E ((o.set i true).set i b) := fun b => set_bool (by simp; omega)
      refine wx_roundL rfl ?_
      repeat' (first
        | refine wo_iaddrs rfl rfl (by omega) hlt rfl rfl ?_
        | refine wo_call rfl rfl rfl (hm (t[(l[(i : Int).toNat]'hlt').char.toNat]'hct) (List.getElem_mem hct) _ _ _ ?_)
        | refine wo_load rfl (get_set (get_last _ _) hn0 _) rfl rfl rfl ?_
        | refine wo_store rfl rfl rfl (get_app h0 _) rfl rfl (hle o ho) rfl ?_
        | refine wo_store rfl rfl rfl (get_set_self (get_app h0 _) _) rfl rfl (by dsimp only; rw [e1]; exact hle _ (by simp [ho])) rfl ?_
        | refine z00 ?_ | refine z01 ?_ | refine z02 ?_ | refine z03 ?_ | refine z04 ?_ | refine z05 ?_ | refine z06 ?_ | refine z07 ?_ | refine z08 ?_ | refine z09 ?_ | refine z0a ?_
        | refine z0b ?_ | refine z0c ?_ | refine z0d ?_ | refine z0e ?_ | refine z0f ?_ | refine z0g ?_ | refine z0h ?_ | refine z0i ?_ | refine z0j ?_ | refine z0k ?_ | refine z0l ?_
        | refine z0m ?_ | refine z0n ?_ | refine z0o ?_ | refine z0p ?_ | refine z0q ?_ | refine z0r ?_ | refine z0s ?_ | refine z0t ?_ | refine z0u ?_ | refine z0v ?_ | refine z0w ?_
        | refine z0x ?_ | refine z0y ?_ | refine z0z ?_ | refine z10 ?_ | refine z11 ?_ | refine z12 ?_ | refine z13 ?_ | refine z14 ?_ | refine z15 ?_ | refine z16 ?_ | refine z17 ?_
        | refine z18 ?_ | refine z19 ?_ | refine z1a ?_ | refine z1b ?_ | refine z1c ?_ | refine z1d ?_ | refine z1e ?_ | refine z1f (hk := ?_) | refine z1g ?_ | refine z1h ?_ | refine z1i ?_
        | refine z1j ?_ | refine z1k ?_ | refine z1l ?_ | refine z1m ?_ | refine z1n ?_ | refine z1o (fun hp => ?_) (fun hp => ?_) | refine z1p (fun hp => ?_) (fun hp => ?_)
        | refine z1q (fun hp => ?_) (fun hp => ?_) | refine z1r ?_ | refine z1s ?_ | refine z1t ?_ | refine z1u ?_ | refine z1v ?_ | refine z1w ?_ | refine z1x ?_ | refine z1y ?_
        | refine z1z ?_ | refine z20 ?_ | refine z21 ?_ | refine z22 ?_ | refine z23 ?_ | refine z24 ?_ | refine z25 ?_ | refine z26 ?_ | refine z27 ?_
        | refine z28 (fun hp => ?_) (fun hp => ?_) | refine z29 (fun hp => ?_) (fun hp => ?_) | refine z2a ?_ | refine z2b ?_)
      refine wx_loopL ?_
      refine ih (i + 1) (by omega) _ ((o.set i true).set i (!mk (t[(l[(i : Int).toNat]'hlt').char.toNat]'hct).r)) ?_ (by simp [ho]) ?_ hR
      · refine (get_set_self (get_set_self (get_app h0 _) _) _).trans ?_
        dsimp only
        rw [e1, hset]
        rfl
      · have e : ((o.set i true).set i (!mk (t[(l[(i : Int).toNat]'hlt').char.toNat]'hct).r)) = o.set i (!mk (t[(l[(i : Int).toNat]'hlt').char.toNat]'hct).r) := by simp
        rw [e, List.take_succ_eq_append_getElem (by simp; omega), List.take_succ_eq_append_getElem (by simp [wholeF]; omega), List.take_set_of_le (Nat.le_refl _), ht]
        congr 1
        simp only [List.getElem_set_self, wholeF, List.getElem_map, Int.toNat_natCast]
        rw [List.getD_eq_getElem?_getD, List.getElem?_eq_getElem (by simpa using hct)]
        rfl
  repeat' (first
    | refine wo_mksl rfl rfl (by omega) (by omega) (by omega) (by omega) rfl rfl ?_
    | refine z00 ?_ | refine z01 ?_ | refine z02 ?_ | refine z03 ?_ | refine z04 ?_ | refine z05 ?_ | refine z06 ?_ | refine z07 ?_ | refine z08 ?_ | refine z09 ?_ | refine z0a ?_
    | refine z0b ?_ | refine z0c ?_ | refine z0d ?_ | refine z0e ?_ | refine z0f ?_ | refine z0g ?_ | refine z0h ?_ | refine z0i ?_ | refine z0j ?_ | refine z0k ?_ | refine z0l ?_
    | refine z0m ?_ | refine z0n ?_ | refine z0o ?_ | refine z0p ?_ | refine z0q ?_ | refine z0r ?_ | refine z0s ?_ | refine z0t ?_ | refine z0u ?_ | refine z0v ?_ | refine z0w ?_
    | refine z0x ?_ | refine z0y ?_ | refine z0z ?_ | refine z10 ?_ | refine z11 ?_ | refine z12 ?_ | refine z13 ?_ | refine z14 ?_ | refine z15 ?_ | refine z16 ?_ | refine z17 ?_
    | refine z18 ?_ | refine z19 ?_ | refine z1a ?_ | refine z1b ?_ | refine z1c ?_ | refine z1d ?_ | refine z1e ?_ | refine z1f (hk := ?_) | refine z1g ?_ | refine z1h ?_ | refine z1i ?_
    | refine z1j ?_ | refine z1k ?_ | refine z1l ?_ | refine z1m ?_ | refine z1n ?_ | refine z1o (fun hp => ?_) (fun hp => ?_) | refine z1p (fun hp => ?_) (fun hp => ?_)
    | refine z1q (fun hp => ?_) (fun hp => ?_) | refine z1r ?_ | refine z1s ?_ | refine z1t ?_ | refine z1u ?_ | refine z1v ?_ | refine z1w ?_ | refine z1x ?_ | refine z1y ?_ | refine z1z ?_
    | refine z20 ?_ | refine z21 ?_ | refine z22 ?_ | refine z23 ?_ | refine z24 ?_ | refine z25 ?_ | refine z26 ?_ | refine z27 ?_ | refine z28 (fun hp => ?_) (fun hp => ?_)
    | refine z29 (fun hp => ?_) (fun hp => ?_) | refine z2a ?_ | refine z2b ?_)
  refine wx_loopL ?_
  have hb : (List.replicate (l.length : Int).toNat [MV.bool false]).flatten = flat KBool.E (List.replicate l.length false) := flat_bools _ _
  refine key l.length 0 (by omega) _ (List.replicate l.length false) ?_ (by simp) rfl ?_
  · show some _ = some _
    rw [hb]; rfl
  · intro m' h0
    repeat' (first
      | refine z00 ?_ | refine z01 ?_ | refine z02 ?_ | refine z03 ?_ | refine z04 ?_ | refine z05 ?_ | refine z06 ?_ | refine z07 ?_ | refine z08 ?_ | refine z09 ?_ | refine z0a ?_
      | refine z0b ?_ | refine z0c ?_ | refine z0d ?_ | refine z0e ?_ | refine z0f ?_ | refine z0g ?_ | refine z0h ?_ | refine z0i ?_ | refine z0j ?_ | refine z0k ?_ | refine z0l ?_
      | refine z0m ?_ | refine z0n ?_ | refine z0o ?_ | refine z0p ?_ | refine z0q ?_ | refine z0r ?_ | refine z0s ?_ | refine z0t ?_ | refine z0u ?_ | refine z0v ?_ | refine z0w ?_
      | refine z0x ?_ | refine z0y ?_ | refine z0z ?_ | refine z10 ?_ | refine z11 ?_ | refine z12 ?_ | refine z13 ?_ | refine z14 ?_ | refine z15 ?_ | refine z16 ?_ | refine z17 ?_
      | refine z18 ?_ | refine z19 ?_ | refine z1a ?_ | refine z1b ?_ | refine z1c ?_ | refine z1d ?_ | refine z1e ?_ | refine z1f (hk := ?_) | refine z1g ?_ | refine z1h ?_ | refine z1i ?_
      | refine z1j ?_ | refine z1k ?_ | refine z1l ?_ | refine z1m ?_ | refine z1n ?_ | refine z1o (fun hp => ?_) (fun hp => ?_) | refine z1p (fun hp => ?_) (fun hp => ?_)
      | refine z1q (fun hp => ?_) (fun hp => ?_) | refine z1r ?_ | refine z1s ?_ | refine z1t ?_ | refine z1u ?_ | refine z1v ?_ | refine z1w ?_ | refine z1x ?_ | refine z1y ?_ | refine z1z ?_
      | refine z20 ?_ | refine z21 ?_ | refine z22 ?_ | refine z23 ?_ | refine z24 ?_ | refine z25 ?_ | refine z26 ?_ | refine z27 ?_ | refine z28 (fun hp => ?_) (fun hp => ?_)
      | refine z29 (fun hp => ?_) (fun hp => ?_) | refine z2a ?_ | refine z2b ?_)
    have ho : Own KBool (wholeF t mk l) m' (.sl 0 0 0 l.length 1 (some l.length)) := by
      have e : (wholeF t mk l).length = l.length := by simp [wholeF]
      exact .inr ⟨0, 0, some l.length, by rw [e]; rfl, h0⟩
    exact fin_own2 ho rfl hQ
/-! ### The six cells -/

theorem app_sl {α : Type} {K : Enc α} {sz bytes b g n : Nat} {xs : List α} {c : α} {kc : Option Nat} {cs : List MV} (h : m[b]? = some ⟨flat K.E xs, g, true⟩) (hn : xs.length = n) (hcs : cs = K.E c) (hr : (n + 1) * bytes ≤ 35184372088832) (hz : K.sz = sz) :
    appM m sz bytes (.sl b g 0 n sz none) (.lit cs 1 kc) = some (.sl b (g + 1) 0 (n + 1) sz none, m.set b ⟨flat K.E (xs ++ [c]), g + 1, true⟩) := by
  subst hz; subst hn; subst hcs
  have hroom : roomy (xs.length + 1) bytes = true := by simp [roomy, hr]
  have e : lenM (.sl b g 0 xs.length K.sz none) = some xs.length := rfl
  have e2 : lenM (.lit (K.E c) 1 kc) = some 1 := rfl
  have e3 : srcCells m K.sz (.lit (K.E c) 1 kc) = some (K.E c, true) := by
    have := src_lit (m := m) (K := K) (xs := [c]) (kc := kc)
    simpa [flat] using this
  have e4 : flat K.E (xs ++ [c]) = flat K.E xs ++ K.E c := by rw [flat_append]; simp [flat]
  unfold appM
  rw [e2, e3, e]
  simp only [hroom, if_true, blk_of h rfl, take_all (flat_len K xs), fullK, e4]
  simp

def chrAt (i : Nat) : Chr := ⟨if i = 3 then 769 else 97, 0, 0, 0, 0⟩
def celAt (i : Nat) : Cell := ⟨0, 0, i, 10, false, false⟩
def chrs (n : Nat) : List Chr := (List.range n).map chrAt
def cels (n : Nat) : List Cell := (List.range n).map celAt
theorem chrs_len {n : Nat} : (chrs n).length = n := by simp [chrs]
theorem cels_len {n : Nat} : (cels n).length = n := by simp [cels]
theorem chrs_succ {n : Nat} : chrs (n + 1) = chrs n ++ [chrAt n] := by simp [chrs, List.range_succ]
theorem cels_succ {n : Nat} : cels (n + 1) = cels n ++ [celAt n] := by simp [cels, List.range_succ]

theorem cuts_loop {w : Int} : ∀ (k i : Nat), i + k = 6 → 1 ≤ i → ∀ (m : Mem), m[1]? = some ⟨flat KChr.E (chrs i), i, true⟩ → m[2]? = some ⟨flat KCell.E (cels i), i, true⟩ → ∀ {R : Ex → As → Mem → List LRec → Prop},
      (∀ m' : Mem, m'[1]? = some ⟨flat KChr.E (chrs 6), 6, true⟩ → m'[2]? = some ⟨flat KCell.E (cels 6), 6, true⟩ → R (.exit 0) [(0, .int .i64 w), (5, .sl 1 6 0 6 5 none), (6, .sl 2 6 0 6 6 none)] m' []) →
      Wx ip i_law26_cuts.nt (.loop (lv [0, 5, 6, 7] 54) law26_cuts_b0) [(0, .int .i64 w), (5, .sl 1 i 0 i 5 none), (6, .sl 2 i 0 i 6 none), (7, .int .i64 i)] m [] R := by
  intro k
  induction k with
  | zero =>
    intro i hk h1 m ht hc R hR
    have e : i = 6 := by omega
    subst e
    refine wx_roundL rfl ?_
    repeat' (first
      | refine wx_exitL [0, 5, 6] ?_
      | refine z00 ?_ | refine z01 ?_ | refine z02 ?_ | refine z03 ?_ | refine z04 ?_ | refine z05 ?_ | refine z06 ?_ | refine z07 ?_ | refine z08 ?_ | refine z09 ?_ | refine z0a ?_
      | refine z0b ?_ | refine z0c ?_ | refine z0d ?_ | refine z0e ?_ | refine z0f ?_ | refine z0g ?_ | refine z0h ?_ | refine z0i ?_ | refine z0j ?_ | refine z0k ?_ | refine z0l ?_
      | refine z0m ?_ | refine z0n ?_ | refine z0o ?_ | refine z0p ?_ | refine z0q ?_ | refine z0r ?_ | refine z0s ?_ | refine z0t ?_ | refine z0u ?_ | refine z0v ?_ | refine z0w ?_
      | refine z0x ?_ | refine z0y ?_ | refine z0z ?_ | refine z10 ?_ | refine z11 ?_ | refine z12 ?_ | refine z13 ?_ | refine z14 ?_ | refine z15 ?_ | refine z16 ?_ | refine z17 ?_
      | refine z18 ?_ | refine z19 ?_ | refine z1a ?_ | refine z1b ?_ | refine z1c ?_ | refine z1d ?_ | refine z1e ?_ | refine z1f (hk := ?_) | refine z1g ?_ | refine z1h ?_ | refine z1i ?_
      | refine z1j ?_ | refine z1k ?_ | refine z1l ?_ | refine z1m ?_ | refine z1n ?_ | refine z1o (fun hp => ?_) (fun hp => ?_) | refine z1p (fun hp => ?_) (fun hp => ?_)
      | refine z1q (fun hp => ?_) (fun hp => ?_) | refine z1r ?_ | refine z1s ?_ | refine z1t ?_ | refine z1u ?_ | refine z1v ?_ | refine z1w ?_ | refine z1x ?_ | refine z1y ?_ | refine z1z ?_
      | refine z20 ?_ | refine z21 ?_ | refine z22 ?_ | refine z23 ?_ | refine z24 ?_ | refine z25 ?_ | refine z26 ?_ | refine z27 ?_ | refine z28 (fun hp => ?_) (fun hp => ?_)
      | refine z29 (fun hp => ?_) (fun hp => ?_) | refine z2a ?_ | refine z2b ?_)
    exact hR _ ht hc
  | succ k ih =>
    intro i hk h1 m ht hc R hR
    refine wx_roundL rfl ?_
    have hm2 : 2 < m.length := get_lt hc
    by_cases h3 : (i : Int) = 3
    · have hi : i = 3 := by omega
      have hch : KChr.E (chrAt i) = [.int .i32 769, .int .i64 0, .int .i64 0, .int .i64 0, .int .u8 0] := by simp [chrAt, KChr, Chr.mv, hi]
      repeat' (first
        | refine wo_app rfl rfl (app_sl (K := KChr) (c := chrAt i) (get_app ht _) chrs_len (by rw [hch]; rfl) (by omega) rfl) rfl ?_
        | refine wo_app rfl rfl (app_sl (K := KCell) (c := celAt i) (get_set (get_app hc _) (by omega) _) cels_len rfl (by omega) rfl) rfl ?_
        | refine z00 ?_ | refine z01 ?_ | refine z02 ?_ | refine z03 ?_ | refine z04 ?_ | refine z05 ?_ | refine z06 ?_ | refine z07 ?_ | refine z08 ?_ | refine z09 ?_ | refine z0a ?_
        | refine z0b ?_ | refine z0c ?_ | refine z0d ?_ | refine z0e ?_ | refine z0f ?_ | refine z0g ?_ | refine z0h ?_ | refine z0i ?_ | refine z0j ?_ | refine z0k ?_ | refine z0l ?_
        | refine z0m ?_ | refine z0n ?_ | refine z0o ?_ | refine z0p ?_ | refine z0q ?_ | refine z0r ?_ | refine z0s ?_ | refine z0t ?_ | refine z0u ?_ | refine z0v ?_ | refine z0w ?_
        | refine z0x ?_ | refine z0y ?_ | refine z0z ?_ | refine z10 ?_ | refine z11 ?_ | refine z12 ?_ | refine z13 ?_ | refine z14 ?_ | refine z15 ?_ | refine z16 ?_ | refine z17 ?_
        | refine z18 ?_ | refine z19 ?_ | refine z1a ?_ | refine z1b ?_ | refine z1c ?_ | refine z1d ?_ | refine z1e ?_ | refine z1f (hk := ?_) | refine z1g ?_ | refine z1h ?_ | refine z1i ?_
        | refine z1j ?_ | refine z1k ?_ | refine z1l ?_ | refine z1m ?_ | refine z1n ?_ | refine z1o (fun hp => ?_) (fun hp => ?_) | refine z1p (fun hp => ?_) (fun hp => ?_)
        | refine z1q (fun hp => ?_) (fun hp => ?_) | refine z1r ?_ | refine z1s ?_ | refine z1t ?_ | refine z1u ?_ | refine z1v ?_ | refine z1w ?_ | refine z1x ?_ | refine z1y ?_
        | refine z1z ?_ | refine z20 ?_ | refine z21 ?_ | refine z22 ?_ | refine z23 ?_ | refine z24 ?_ | refine z25 ?_ | refine z26 ?_ | refine z27 ?_
        | refine z28 (fun hp => ?_) (fun hp => ?_) | refine z29 (fun hp => ?_) (fun hp => ?_) | refine z2a ?_ | refine z2b ?_)
      refine wx_loopL ?_
      refine ih (i + 1) (by omega) (by omega) _ ?_ ?_ hR
      · rw [chrs_succ]
        exact get_set (get_set_self (get_app ht _) _) (by omega) _
      · rw [cels_succ]
        exact get_set_self (get_set (get_app hc _) (by omega) _) _
    · have hi : i ≠ 3 := by omega
      have hch : KChr.E (chrAt i) = [.int .i32 97, .int .i64 0, .int .i64 0, .int .i64 0, .int .u8 0] := by simp [chrAt, KChr, Chr.mv, hi]
      repeat' (first
        | refine wo_app rfl rfl (app_sl (K := KChr) (c := chrAt i) (get_app ht _) chrs_len (by rw [hch]; rfl) (by omega) rfl) rfl ?_
        | refine wo_app rfl rfl (app_sl (K := KCell) (c := celAt i) (get_set (get_app hc _) (by omega) _) cels_len rfl (by omega) rfl) rfl ?_
        | refine z00 ?_ | refine z01 ?_ | refine z02 ?_ | refine z03 ?_ | refine z04 ?_ | refine z05 ?_ | refine z06 ?_ | refine z07 ?_ | refine z08 ?_ | refine z09 ?_ | refine z0a ?_
        | refine z0b ?_ | refine z0c ?_ | refine z0d ?_ | refine z0e ?_ | refine z0f ?_ | refine z0g ?_ | refine z0h ?_ | refine z0i ?_ | refine z0j ?_ | refine z0k ?_ | refine z0l ?_
        | refine z0m ?_ | refine z0n ?_ | refine z0o ?_ | refine z0p ?_ | refine z0q ?_ | refine z0r ?_ | refine z0s ?_ | refine z0t ?_ | refine z0u ?_ | refine z0v ?_ | refine z0w ?_
        | refine z0x ?_ | refine z0y ?_ | refine z0z ?_ | refine z10 ?_ | refine z11 ?_ | refine z12 ?_ | refine z13 ?_ | refine z14 ?_ | refine z15 ?_ | refine z16 ?_ | refine z17 ?_
        | refine z18 ?_ | refine z19 ?_ | refine z1a ?_ | refine z1b ?_ | refine z1c ?_ | refine z1d ?_ | refine z1e ?_ | refine z1f (hk := ?_) | refine z1g ?_ | refine z1h ?_ | refine z1i ?_
        | refine z1j ?_ | refine z1k ?_ | refine z1l ?_ | refine z1m ?_ | refine z1n ?_ | refine z1o (fun hp => ?_) (fun hp => ?_) | refine z1p (fun hp => ?_) (fun hp => ?_)
        | refine z1q (fun hp => ?_) (fun hp => ?_) | refine z1r ?_ | refine z1s ?_ | refine z1t ?_ | refine z1u ?_ | refine z1v ?_ | refine z1w ?_ | refine z1x ?_ | refine z1y ?_
        | refine z1z ?_ | refine z20 ?_ | refine z21 ?_ | refine z22 ?_ | refine z23 ?_ | refine z24 ?_ | refine z25 ?_ | refine z26 ?_ | refine z27 ?_
        | refine z28 (fun hp => ?_) (fun hp => ?_) | refine z29 (fun hp => ?_) (fun hp => ?_) | refine z2a ?_ | refine z2b ?_)
      refine wx_loopL ?_
      refine ih (i + 1) (by omega) (by omega) _ ?_ ?_ hR
      · rw [chrs_succ]
        exact get_set (get_set_self (get_app ht _) _) (by omega) _
      · rw [cels_succ]
        exact get_set_self (get_set (get_app hc _) (by omega) _) _

def line6 : Line := ⟨0, 6, false⟩
def marks6 (r : Int) : Bool := decide (r = 769)
theorem chrs6 : Marks (chrs 6) marks6 := by
  intro x hx m ls Q hQ
  simp only [chrs, List.mem_map, List.mem_range] at hx
  obtain ⟨i, _, rfl⟩ := hx
  by_cases h : i = 3
  · have e : (chrAt i).r = 769 := by simp [chrAt, h]
    rw [e] at hQ ⊢
    exact c_mark769 hQ
  · have e : (chrAt i).r = 97 := by simp [chrAt, h]
    rw [e] at hQ ⊢
    exact c_mark97 hQ

def cuts6 (w : Int) : CutR := cutF (cels 6) (wholeF (chrs 6) marks6 (cels 6)) line6 ⟨w, 0⟩ 10

theorem c_cuts {w : Int} (he : (cuts6 w).err = 0) (hQ : Q (.tup [.int .i64 (cuts6 w).to, .int .i64 (cuts6 w).at', .bool (cuts6 w).cut]) m ls) : Wc ip f_law26_cuts [.int .i64 w] m ls Q := by
  refine wc_fn3d rfl fn_law26_cuts rfl rfl rfl ?_
  repeat' (first
    | refine z00 ?_ | refine z01 ?_ | refine z02 ?_ | refine z03 ?_ | refine z04 ?_ | refine z05 ?_ | refine z06 ?_ | refine z07 ?_ | refine z08 ?_ | refine z09 ?_ | refine z0a ?_
    | refine z0b ?_ | refine z0c ?_ | refine z0d ?_ | refine z0e ?_ | refine z0f ?_ | refine z0g ?_ | refine z0h ?_ | refine z0i ?_ | refine z0j ?_ | refine z0k ?_ | refine z0l ?_
    | refine z0m ?_ | refine z0n ?_ | refine z0o ?_ | refine z0p ?_ | refine z0q ?_ | refine z0r ?_ | refine z0s ?_ | refine z0t ?_ | refine z0u ?_ | refine z0v ?_ | refine z0w ?_
    | refine z0x ?_ | refine z0y ?_ | refine z0z ?_ | refine z10 ?_ | refine z11 ?_ | refine z12 ?_ | refine z13 ?_ | refine z14 ?_ | refine z15 ?_ | refine z16 ?_ | refine z17 ?_
    | refine z18 ?_ | refine z19 ?_ | refine z1a ?_ | refine z1b ?_ | refine z1c ?_ | refine z1d ?_ | refine z1e ?_ | refine z1f (hk := ?_) | refine z1g ?_ | refine z1h ?_ | refine z1i ?_
    | refine z1j ?_ | refine z1k ?_ | refine z1l ?_ | refine z1m ?_ | refine z1n ?_ | refine z1o (fun hp => ?_) (fun hp => ?_) | refine z1p (fun hp => ?_) (fun hp => ?_)
    | refine z1q (fun hp => ?_) (fun hp => ?_) | refine z1r ?_ | refine z1s ?_ | refine z1t ?_ | refine z1u ?_ | refine z1v ?_ | refine z1w ?_ | refine z1x ?_ | refine z1y ?_ | refine z1z ?_
    | refine z20 ?_ | refine z21 ?_ | refine z22 ?_ | refine z23 ?_ | refine z24 ?_ | refine z25 ?_ | refine z26 ?_ | refine z27 ?_ | refine z28 (fun hp => ?_) (fun hp => ?_)
    | refine z29 (fun hp => ?_) (fun hp => ?_) | refine z2a ?_ | refine z2b ?_)
  refine wx_loopL ?_
  refine wx_roundL rfl ?_
  repeat' (first
    | refine wo_app rfl rfl (v := .lit [.int .i32 97, .int .i64 0, .int .i64 0, .int .i64 0, .int .u8 0] 1 (some 1)) rfl rfl ?_
    | refine wo_app rfl rfl rfl rfl ?_
    | refine z00 ?_ | refine z01 ?_ | refine z02 ?_ | refine z03 ?_ | refine z04 ?_ | refine z05 ?_ | refine z06 ?_ | refine z07 ?_ | refine z08 ?_ | refine z09 ?_ | refine z0a ?_
    | refine z0b ?_ | refine z0c ?_ | refine z0d ?_ | refine z0e ?_ | refine z0f ?_ | refine z0g ?_ | refine z0h ?_ | refine z0i ?_ | refine z0j ?_ | refine z0k ?_ | refine z0l ?_
    | refine z0m ?_ | refine z0n ?_ | refine z0o ?_ | refine z0p ?_ | refine z0q ?_ | refine z0r ?_ | refine z0s ?_ | refine z0t ?_ | refine z0u ?_ | refine z0v ?_ | refine z0w ?_
    | refine z0x ?_ | refine z0y ?_ | refine z0z ?_ | refine z10 ?_ | refine z11 ?_ | refine z12 ?_ | refine z13 ?_ | refine z14 ?_ | refine z15 ?_ | refine z16 ?_ | refine z17 ?_
    | refine z18 ?_ | refine z19 ?_ | refine z1a ?_ | refine z1b ?_ | refine z1c ?_ | refine z1d ?_ | refine z1e ?_ | refine z1f (hk := ?_) | refine z1g ?_ | refine z1h ?_ | refine z1i ?_
    | refine z1j ?_ | refine z1k ?_ | refine z1l ?_ | refine z1m ?_ | refine z1n ?_ | refine z1o (fun hp => ?_) (fun hp => ?_) | refine z1p (fun hp => ?_) (fun hp => ?_)
    | refine z1q (fun hp => ?_) (fun hp => ?_) | refine z1r ?_ | refine z1s ?_ | refine z1t ?_ | refine z1u ?_ | refine z1v ?_ | refine z1w ?_ | refine z1x ?_ | refine z1y ?_ | refine z1z ?_
    | refine z20 ?_ | refine z21 ?_ | refine z22 ?_ | refine z23 ?_ | refine z24 ?_ | refine z25 ?_ | refine z26 ?_ | refine z27 ?_ | refine z28 (fun hp => ?_) (fun hp => ?_)
    | refine z29 (fun hp => ?_) (fun hp => ?_) | refine z2a ?_ | refine z2b ?_)
  refine wx_loopL ?_
  refine cuts_loop 5 1 (by omega) (by omega) _ rfl rfl ?_
  intro m' ht hc
  have hz : frzs m' frzFuel [.sl 1 6 0 6 5 none, .sl 2 6 0 6 6 none] = some [.lit (flat KChr.E (chrs 6)) 6 none, .lit (flat KCell.E (cels 6)) 6 none] := by
    obtain ⟨n, hn⟩ := fuel 9 (by omega)
    rw [hn]
    have h1 : takeAt (flat KChr.E (chrs 6)) 0 30 = some (flat KChr.E (chrs 6)) := take_all (by rw [flat_len, chrs_len]; rfl)
    have h2 : takeAt (flat KCell.E (cels 6)) 0 36 = some (flat KCell.E (cels 6)) := take_all (by rw [flat_len, cels_len]; rfl)
    simp [frzs, frz, deepVs, deepV, blk?, ht, hc, h1, h2]
  have hv : Sl KChr (chrs 6) (.lit (flat KChr.E (chrs 6)) 6 none) := by
    have := Sl.lit (K := KChr) (xs := chrs 6) (kc := none)
    rw [chrs_len] at this
    exact this
  have hw : Sl KCell (cels 6) (.lit (flat KCell.E (cels 6)) 6 none) := by
    have := Sl.lit (K := KCell) (xs := cels 6) (kc := none)
    rw [cels_len] at this
    exact this
  have hk : ∀ c ∈ cels 6, c.kind = 0 ∧ 0 ≤ c.char ∧ c.char < ((chrs 6).length : Int) := by
    intro c hc
    simp only [cels, List.mem_map, List.mem_range] at hc
    obtain ⟨i, hi, rfl⟩ := hc
    rw [chrs_len]
    refine ⟨rfl, ?_, ?_⟩
    · show (0 : Int) ≤ (i : Int); omega
    · show (i : Int) < ((6 : Nat) : Int); omega
  have hok : ∀ c ∈ cels 6, c.ok := by
    intro c hc
    simp only [cels, List.mem_map, List.mem_range] at hc
    obtain ⟨i, hi, rfl⟩ := hc
    show I64 10
    unfold I64; omega
  repeat' (first
    | refine wo_call rfl rfl rfl (c_Whole chrs6 hz hv hw hk (by rw [cels_len]; omega) ?_)
    | refine z00 ?_ | refine z01 ?_ | refine z02 ?_ | refine z03 ?_ | refine z04 ?_ | refine z05 ?_ | refine z06 ?_ | refine z07 ?_ | refine z08 ?_ | refine z09 ?_ | refine z0a ?_
    | refine z0b ?_ | refine z0c ?_ | refine z0d ?_ | refine z0e ?_ | refine z0f ?_ | refine z0g ?_ | refine z0h ?_ | refine z0i ?_ | refine z0j ?_ | refine z0k ?_ | refine z0l ?_
    | refine z0m ?_ | refine z0n ?_ | refine z0o ?_ | refine z0p ?_ | refine z0q ?_ | refine z0r ?_ | refine z0s ?_ | refine z0t ?_ | refine z0u ?_ | refine z0v ?_ | refine z0w ?_
    | refine z0x ?_ | refine z0y ?_ | refine z0z ?_ | refine z10 ?_ | refine z11 ?_ | refine z12 ?_ | refine z13 ?_ | refine z14 ?_ | refine z15 ?_ | refine z16 ?_ | refine z17 ?_
    | refine z18 ?_ | refine z19 ?_ | refine z1a ?_ | refine z1b ?_ | refine z1c ?_ | refine z1d ?_ | refine z1e ?_ | refine z1f (hk := ?_) | refine z1g ?_ | refine z1h ?_ | refine z1i ?_
    | refine z1j ?_ | refine z1k ?_ | refine z1l ?_ | refine z1m ?_ | refine z1n ?_ | refine z1o (fun hp => ?_) (fun hp => ?_) | refine z1p (fun hp => ?_) (fun hp => ?_)
    | refine z1q (fun hp => ?_) (fun hp => ?_) | refine z1r ?_ | refine z1s ?_ | refine z1t ?_ | refine z1u ?_ | refine z1v ?_ | refine z1w ?_ | refine z1x ?_ | refine z1y ?_ | refine z1z ?_
    | refine z20 ?_ | refine z21 ?_ | refine z22 ?_ | refine z23 ?_ | refine z24 ?_ | refine z25 ?_ | refine z26 ?_ | refine z27 ?_ | refine z28 (fun hp => ?_) (fun hp => ?_)
    | refine z29 (fun hp => ?_) (fun hp => ?_) | refine z2a ?_ | refine z2b ?_)
  intro w' hw'
  have hz2 : frzs m' frzFuel [.sl 2 6 0 6 6 none, w', .agg [.int .i64 0, .int .i64 6, .bool false], .agg [.int .i64 w, .int .i64 0], .int .i64 10] = some [.lit (flat KCell.E (cels 6)) 6 none, w', .agg [.int .i64 0, .int .i64 6, .bool false], .agg [.int .i64 w, .int .i64 0], .int .i64 10] := by
    obtain ⟨n, hn⟩ := fuel 9 (by omega)
    rw [hn]
    have h2 : takeAt (flat KCell.E (cels 6)) 0 36 = some (flat KCell.E (cels 6)) := take_all (by rw [flat_len, cels_len]; rfl)
    simp [frzs, frz, deepVs, deepV, blk?, hc, h2, hw'.deep]
  repeat' (first
    | refine wo_call rfl rfl rfl (c_Cut (x := line6) (r := ⟨w, 0⟩) hz2 hw hw' (by rw [cels_len]; omega) hok (by simp only [I64]; omega) ?_)
    | refine wx_ifDF rfl (show ¬ (cuts6 w).err ≠ 0 by omega) ?_
    | refine z00 ?_ | refine z01 ?_ | refine z02 ?_ | refine z03 ?_ | refine z04 ?_ | refine z05 ?_ | refine z06 ?_ | refine z07 ?_ | refine z08 ?_ | refine z09 ?_ | refine z0a ?_
    | refine z0b ?_ | refine z0c ?_ | refine z0d ?_ | refine z0e ?_ | refine z0f ?_ | refine z0g ?_ | refine z0h ?_ | refine z0i ?_ | refine z0j ?_ | refine z0k ?_ | refine z0l ?_
    | refine z0m ?_ | refine z0n ?_ | refine z0o ?_ | refine z0p ?_ | refine z0q ?_ | refine z0r ?_ | refine z0s ?_ | refine z0t ?_ | refine z0u ?_ | refine z0v ?_ | refine z0w ?_
    | refine z0x ?_ | refine z0y ?_ | refine z0z ?_ | refine z10 ?_ | refine z11 ?_ | refine z12 ?_ | refine z13 ?_ | refine z14 ?_ | refine z15 ?_ | refine z16 ?_ | refine z17 ?_
    | refine z18 ?_ | refine z19 ?_ | refine z1a ?_ | refine z1b ?_ | refine z1c ?_ | refine z1d ?_ | refine z1e ?_ | refine z1f (hk := ?_) | refine z1g ?_ | refine z1h ?_ | refine z1i ?_
    | refine z1j ?_ | refine z1k ?_ | refine z1l ?_ | refine z1m ?_ | refine z1n ?_ | refine z1o (fun hp => ?_) (fun hp => ?_) | refine z1p (fun hp => ?_) (fun hp => ?_)
    | refine z1q (fun hp => ?_) (fun hp => ?_) | refine z1r ?_ | refine z1s ?_ | refine z1t ?_ | refine z1u ?_ | refine z1v ?_ | refine z1w ?_ | refine z1x ?_ | refine z1y ?_ | refine z1z ?_
    | refine z20 ?_ | refine z21 ?_ | refine z22 ?_ | refine z23 ?_ | refine z24 ?_ | refine z25 ?_ | refine z26 ?_ | refine z27 ?_ | refine z28 (fun hp => ?_) (fun hp => ?_)
    | refine z29 (fun hp => ?_) (fun hp => ?_) | refine z2a ?_ | refine z2b ?_)
  exact fin_cln rfl hQ

end
end Go.Proofs.Ytnekgoanadbmmaa
