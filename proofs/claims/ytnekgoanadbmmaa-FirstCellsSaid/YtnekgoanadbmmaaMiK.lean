/-
What any operation of Mini's but a call answers, the model's answers.
-/
import Derived.Test.YtnekgoanadbmmaaMiJ
namespace Go.Mini
open Go.RowKit
set_option linter.unusedSimpArgs false

theorem strip_eq {op s : IOp} (h : stripOp op = s) (h1 : ∀ x, s ≠ .box x) (h2 : ∀ n x, s ≠ .load n x) (h3 : ∀ n a x, s ≠ .store n a x := by simp) (h4 : ∀ z, s ≠ .alloc z := by simp) (h5 : ∀ f a, s ≠ .call f a := by simp) (h6 : ∀ n z ps, s ≠ .blit n z ps := by simp) : op = s := by
  cases op <;> simp only [stripOp] at h <;> first | exact h | exact absurd h.symm (h1 _) | exact absurd h.symm (h2 _ _) | exact absurd h.symm (h3 _ _ _) | exact absurd h.symm (h4 _) | exact absurd h.symm (h5 _ _) | exact absurd h.symm (h6 _ _ _)

theorem strip_call {op : IOp} {f : Opd} {as : List Opd} (h : stripOp op = .call f as) : op = .call f as ∨ ∃ g, op = .callt g as ∧ f = .c (.fn g [] []) := by
  cases op <;> simp only [stripOp, reduceCtorEq, IOp.call.injEq] at h <;> obtain ⟨rfl, rfl⟩ := h <;> simp

theorem strip_blit {op : IOp} {n : Nat} {z : List MV} {ps : List (Nat × Nat × Opd)} (h : stripOp op = .blit n z ps) : op = .blit n z ps ∨ ∃ k, op = .blitm n k z ps := by
  cases op <;> simp only [stripOp, reduceCtorEq, IOp.blit.injEq] at h <;> obtain ⟨rfl, rfl, rfl⟩ := h <;> simp

theorem strip_alloc {op : IOp} {z : List MV} (h : stripOp op = .alloc z) : op = .alloc z ∨ op = .alloci z := by
  cases op <;> simp only [stripOp, reduceCtorEq, IOp.alloc.injEq] at h <;> subst h <;> simp

theorem strip_box {op : IOp} {x : Opd} (h : stripOp op = .box x) : op = .box x ∨ op = .boxi x := by
  cases op <;> simp only [stripOp, reduceCtorEq, IOp.box.injEq] at h <;> subst h <;> simp

theorem strip_load {op : IOp} {n : Option Nat} {x : Opd} (h : stripOp op = .load n x) : op = .load n x ∨ op = .loadi n x ∨ ∃ k, op = .loado k n x := by
  cases op <;> simp only [stripOp, reduceCtorEq, IOp.load.injEq] at h <;> obtain ⟨rfl, rfl⟩ := h <;> simp

theorem strip_store {op : IOp} {n : Nat} {a x : Opd} (h : stripOp op = .store n a x) : op = .store n a x ∨ ∃ k, op = .storeo k n a x := by
  cases op <;> simp only [stripOp, reduceCtorEq, IOp.store.injEq] at h <;> obtain ⟨rfl, rfl, rfl⟩ := h <;> simp

theorem map_some_eq {α β : Type} {x : Option α} {f : α → β} {y : β} (h : x.map f = some y) : ∃ a, x = some a ∧ y = f a := by
  cases x with
  | none => simp at h
  | some a => simp at h; exact ⟨a, rfl, h.symm⟩

section ops
variable {P : Program} {pm : Nat → Bool} {E : Env} {m : Mem} {ls : List LRec} {base : Nat} {w : World} {T : List MV} {a : Act} {o : Oper}

theorem neg_op {op : BinOp} (h : isEq op = true) : op = if isNeq op then .neq else .eql := by
  cases op <;> simp [isEq, isNeq] at h ⊢

theorem op0_ok (hs : Sim P pm E m ls base w.heap) (hT : Vs E T a.tmps.toList) {op : IOp} (htr : trOp P o.op = some (stripOp op)) {v : MV} {m' : Mem} (hv : evOp0 T m op = some (v, m')) :
    OpOk P pm E m' ls base w ((execOp a.eval o).run P w) v := by
  generalize ho : o.op = rop at htr
  cases rop <;> try (simp only [trOp, reduceCtorEq] at htr; done)
  case move x =>
    obtain ⟨y, hx, h1⟩ := map_some_eq htr
    obtain rfl := strip_eq h1 (by simp) (by simp)
    simp only [evOp0, Option.some.injEq, Prod.mk.injEq] at hv
    obtain ⟨rfl, rfl⟩ := hv
    exact ok_move hs hT (.inl ho) hx
  case assign x =>
    obtain ⟨y, hx, h1⟩ := map_some_eq htr
    obtain rfl := strip_eq h1 (by simp) (by simp)
    simp only [evOp0, Option.some.injEq, Prod.mk.injEq] at hv
    obtain ⟨rfl, rfl⟩ := hv
    exact ok_move hs hT (.inr ho) hx
  case pick c x y =>
    simp only [trOp] at htr
    split at htr
    case h_2 => simp at htr
    rename_i c' x' y' hc hx hy
    obtain rfl := strip_eq (Option.some.inj htr).symm (by simp) (by simp)
    simp only [evOp0] at hv
    split at hv
    · rename_i hb
      simp only [Option.some.injEq, Prod.mk.injEq] at hv
      obtain ⟨rfl, rfl⟩ := hv
      exact ok_pick hs hT ho hc hx hy hb
    · rename_i hb
      simp only [Option.some.injEq, Prod.mk.injEq] at hv
      obtain ⟨rfl, rfl⟩ := hv
      exact ok_pick hs hT ho hc hx hy hb
    · simp at hv
  case alloc t =>
    simp only [trOp] at htr
    split at htr
    case h_2 => simp at htr
    rename_i z hz
    obtain ⟨cs, hc, h1⟩ := map_some_eq htr
    rcases strip_alloc h1 with rfl | rfl
    · simp only [evOp0, Option.some.injEq, Prod.mk.injEq] at hv
      obtain ⟨rfl, rfl⟩ := hv
      exact ok_alloc hs ho hz hc
    · simp only [evOp0] at hv
      split at hv
      case isFalse => simp at hv
      rename_i hd
      simp only [Option.some.injEq, Prod.mk.injEq] at hv
      obtain ⟨rfl, rfl⟩ := hv
      exact ok_alloci hs ho hz hc hd
  case box t x =>
    obtain ⟨y, hx, h1⟩ := map_some_eq htr
    rcases strip_box h1 with rfl | rfl
    · simp only [evOp0] at hv
      split at hv
      case h_2 => simp at hv
      rename_i cs hc
      simp only [Option.some.injEq, Prod.mk.injEq] at hv
      obtain ⟨rfl, rfl⟩ := hv
      exact ok_box hs hT ho hx hc
    · simp only [evOp0] at hv
      split at hv
      case h_2 => simp at hv
      rename_i cs hc
      split at hv
      case isFalse => simp at hv
      rename_i hd
      simp only [Option.some.injEq, Prod.mk.injEq] at hv
      obtain ⟨rfl, rfl⟩ := hv
      exact ok_boxi hs hT ho hx hc hd
  case build t ps =>
    simp only [trOp] at htr
    split at htr
    case h_2 => simp at htr
    rename_i z ps' hz hp
    split at htr
    case isFalse => simp at htr
    rename_i hsz
    obtain ⟨zs, hzs, h1⟩ := map_some_eq htr
    obtain rfl := strip_eq h1 (by simp) (by simp)
    simp only [evOp0] at hv
    obtain ⟨cs, hf, h2⟩ := map_some_eq hv
    simp only [Prod.mk.injEq] at h2
    obtain ⟨rfl, rfl⟩ := h2
    exact ok_build hs hT ho hz hp hsz hzs hf
  case buildSlice t len ps =>
    simp only [trOp] at htr
    split at htr
    case h_2 => simp at htr
    rename_i e hu
    split at htr
    case h_2 => simp at htr
    rename_i n hn
    split at htr
    case isTrue => simp at htr
    rename_i hle
    split at htr
    case h_2 => simp at htr
    rename_i z ps' hz hp
    obtain ⟨zs, hzs, h1⟩ := map_some_eq htr
    rcases strip_blit h1 with rfl | ⟨k, rfl⟩
    · simp only [evOp0] at hv
      split at hv
      case h_2 => simp at hv
      rename_i cs hf
      split at hv
      case isFalse => simp at hv
      rename_i hd
      simp only [Option.some.injEq, Prod.mk.injEq] at hv
      obtain ⟨rfl, rfl⟩ := hv
      exact ok_blit hs hT ho hu hn hle hz hp hzs hf hd
    · simp only [evOp0] at hv
      split at hv
      case h_2 => simp at hv
      rename_i cs hf
      split at hv
      case isFalse => simp at hv
      rename_i hd
      simp only [Option.some.injEq, Prod.mk.injEq] at hv
      obtain ⟨rfl, rfl⟩ := hv
      exact ok_blitm hs hT ho hu hn hle hz hp hzs hf hd
  case load t x =>
    simp only [trOp] at htr
    split at htr
    case h_2 => simp at htr
    rename_i n x' hn hx
    rcases strip_load (Option.some.inj htr).symm with rfl | rfl | ⟨o', rfl⟩
    · simp only [evOp0] at hv
      obtain ⟨v', h1, h2⟩ := map_some_eq hv
      simp only [Prod.mk.injEq] at h2
      obtain ⟨rfl, rfl⟩ := h2
      exact ok_load hs hT ho hx hn h1
    · simp only [evOp0] at hv
      split at hv
      case h_2 => simp at hv
      rename_i cs off hp
      obtain ⟨v', h1, h2⟩ := map_some_eq hv
      simp only [Prod.mk.injEq] at h2
      obtain ⟨rfl, rfl⟩ := h2
      exact ok_load hs hT ho hx hn (by rw [hp]; exact h1)
    · simp only [evOp0] at hv
      split at hv
      case h_2 => simp at hv
      rename_i b g off hp
      split at hv
      case isFalse => simp at hv
      rename_i ho2
      subst ho2
      obtain ⟨v', h1, h2⟩ := map_some_eq hv
      simp only [Prod.mk.injEq] at h2
      obtain ⟨rfl, rfl⟩ := h2
      exact ok_load hs hT ho hx hn (by rw [hp]; exact h1)
  case store t x y =>
    simp only [trOp] at htr
    split at htr
    case h_2 => simp at htr
    rename_i n x' y' hn hx hy
    rcases strip_store (Option.some.inj htr).symm with rfl | ⟨o', rfl⟩
    · simp only [evOp0] at hv
      obtain ⟨m1, h1, h2⟩ := map_some_eq hv
      simp only [Prod.mk.injEq] at h2
      obtain ⟨rfl, rfl⟩ := h2
      exact ok_store hs hT ho hx hy hn h1
    · simp only [evOp0] at hv
      split at hv
      case h_2 => simp at hv
      rename_i b g off hp
      split at hv
      case isFalse => simp at hv
      rename_i ho2
      subst ho2
      obtain ⟨m1, h1, h2⟩ := map_some_eq hv
      simp only [Prod.mk.injEq] at h2
      obtain ⟨rfl, rfl⟩ := h2
      exact ok_store hs hT ho hx hy hn (by rw [hp]; exact h1)
  case nilCheck x =>
    obtain ⟨y, hx, h1⟩ := map_some_eq htr
    obtain rfl := strip_eq h1 (by simp) (by simp)
    have hm : m' = m := by
      simp only [evOp0] at hv
      split at hv <;> simp at hv <;> exact hv.2.symm
    subst hm
    refine ok_nchk hs hT ho hx ?_
    simp only [evOp0] at hv
    split at hv <;> first
      | (simp at hv; done)
      | (rename_i hp
         simp only [Option.some.injEq, Prod.mk.injEq, and_true] at hv
         rw [hp]
         simp [hv])
  case binOp op t x y u =>
    simp only [trOp] at htr
    split at htr
    case h_2 => simp at htr
    rename_i x' y' hx hy
    have hbin : ∀ iop : IOp, some (IOp.bin op x' y') = some (stripOp iop) → evOp0 T m iop = some (v, m') → OpOk P pm E m' ls base w ((execOp a.eval o).run P w) v := by
      intro iop h1 h2
      obtain rfl := strip_eq (Option.some.inj h1).symm (by simp) (by simp)
      simp only [evOp0] at h2
      obtain ⟨v', h3, h4⟩ := map_some_eq h2
      simp only [Prod.mk.injEq] at h4
      obtain ⟨rfl, rfl⟩ := h4
      exact ok_bin hs hT ho hx hy h3
    unfold trBin at htr
    split at htr
    case isFalse => exact hbin _ htr hv
    rename_i hop
    have ho' := ho
    rw [neg_op hop] at ho'
    split at htr
    · rename_i hu
      obtain rfl := strip_eq (Option.some.inj htr).symm (by simp) (by simp)
      simp only [evOp0] at hv
      split at hv
      case h_2 => simp at hv
      rename_i p q hp hq
      simp only [Option.some.injEq, Prod.mk.injEq] at hv
      obtain ⟨rfl, rfl⟩ := hv
      exact ok_eqb hs hT ho' hu hx hy hp hq
    · exact hbin _ htr hv
    · exact hbin _ htr hv
    · rename_i e hu
      obtain rfl := strip_eq (Option.some.inj htr).symm (by simp) (by simp)
      simp only [evOp0] at hv
      obtain ⟨v', h3, h4⟩ := map_some_eq hv
      simp only [Prod.mk.injEq] at h4
      obtain ⟨rfl, rfl⟩ := h4
      exact ok_eqn hs hT ho' hx hy h3 ⟨_, hu⟩
    · rename_i e hu
      obtain rfl := strip_eq (Option.some.inj htr).symm (by simp) (by simp)
      simp only [evOp0] at hv
      obtain ⟨v', h3, h4⟩ := map_some_eq hv
      simp only [Prod.mk.injEq] at h4
      obtain ⟨rfl, rfl⟩ := h4
      exact ok_eqn hs hT ho' hx hy h3 ⟨_, hu⟩
    · rename_i e1 e2 e3 hu
      obtain rfl := strip_eq (Option.some.inj htr).symm (by simp) (by simp)
      simp only [evOp0] at hv
      obtain ⟨v', h3, h4⟩ := map_some_eq hv
      simp only [Prod.mk.injEq] at h4
      obtain ⟨rfl, rfl⟩ := h4
      exact ok_eqn hs hT ho' hx hy h3 ⟨_, _, _, hu⟩
    · rename_i fs hu
      split at htr
      case h_2 => simp at htr
      rename_i ks hk
      split at htr
      case isFalse => simp at htr
      rename_i hg
      obtain rfl := strip_eq (Option.some.inj htr).symm (by simp) (by simp)
      simp only [evOp0] at hv
      split at hv
      case h_2 => simp at hv
      rename_i p q hp hq
      obtain ⟨v', h3, h4⟩ := map_some_eq hv
      simp only [Prod.mk.injEq] at h4
      obtain ⟨rfl, rfl⟩ := h4
      exact ok_eqa hs hT ho' hx hy hp hq hk hu hg h3
    · simp at htr
  case unOp uop t x =>
    obtain ⟨y, hx, h1⟩ := map_some_eq htr
    obtain rfl := strip_eq h1 (by simp) (by simp)
    simp only [evOp0] at hv
    obtain ⟨v', h3, h4⟩ := map_some_eq hv
    simp only [Prod.mk.injEq] at h4
    obtain ⟨rfl, rfl⟩ := h4
    exact ok_un hs hT ho hx h3
  case convert s d x =>
    simp only [trOp] at htr
    split at htr
    · rename_i ds k x' hs' hd hx
      obtain rfl := strip_eq (Option.some.inj htr).symm (by simp) (by simp)
      simp only [evOp0] at hv
      split at hv
      case h_2 => simp at hv
      rename_i j n hp
      simp only [Option.some.injEq, Prod.mk.injEq] at hv
      obtain ⟨rfl, rfl⟩ := hv
      exact ok_conv hs hT ho hx hs' hd hp
    · rename_i x' hs' hd hx
      obtain rfl := strip_eq (Option.some.inj htr).symm (by simp) (by simp)
      simp only [evOp0] at hv
      split at hv
      case h_2 => simp at hv
      rename_i b hp
      simp only [Option.some.injEq, Prod.mk.injEq] at hv
      obtain ⟨rfl, rfl⟩ := hv
      exact ok_convs hs hT ho hx hs' hd hp
    · simp at htr
  case makeFunc f x y =>
    cases f <;> try (simp only [trOp, reduceCtorEq] at htr; done)
    case func f =>
      simp only [trOp] at htr
      split at htr
      case h_2 => simp at htr
      rename_i x' y' hx hy
      obtain rfl := strip_eq (Option.some.inj htr).symm (by simp) (by simp)
      simp only [evOp0, Option.some.injEq, Prod.mk.injEq] at hv
      obtain ⟨rfl, rfl⟩ := hv
      exact ok_mkfn hs hT ho hx hy
  case makeSlice t l c =>
    simp only [trOp] at htr
    split at htr
    case h_2 => simp at htr
    rename_i e hu
    split at htr
    case h_2 => simp at htr
    rename_i n b z l' c' hz hb hzr hl hc
    split at htr
    case isTrue => simp at htr
    obtain ⟨zs, hzs, h1⟩ := map_some_eq htr
    obtain rfl := strip_eq h1 (by simp) (by simp)
    simp only [evOp0] at hv
    split at hv
    case h_2 => simp at hv
    rename_i ln cn hln hcn
    split at hv
    case isFalse => simp at hv
    rename_i hcond
    obtain ⟨q1, q2, q3, q4⟩ := hcond
    simp only [Option.some.injEq, Prod.mk.injEq] at hv
    obtain ⟨rfl, rfl⟩ := hv
    exact ok_mksl hs hT ho hu hz hb hzr hzs hl hc hln hcn q1 q2 q3 q4
  case slice t x lo hi mx =>
    simp only [trOp] at htr
    split at htr
    case h_2 => simp at htr
    rename_i x' lo' hi' mx' hx hl hh hm
    have harr : ∀ (n sz : Nat) (e : TypeId) (iop : IOp), (P.underlying t = some (.array n e) ∨ ∃ q, P.underlying t = some (.pointer q) ∧ P.underlying q = some (.array n e)) → sizeP P e = some sz → mx' = none →
        stripOp iop = .slarr n sz x' lo' hi' → evOp0 T m iop = some (v, m') → OpOk P pm E m' ls base w ((execOp a.eval o).run P w) v := by
      intro n sz e iop hu hz hmx h1 h2
      subst hmx
      obtain rfl := trOpt_none hm
      obtain rfl := strip_eq h1 (by simp) (by simp)
      simp only [evOp0] at h2
      split at h2
      case h_2 => simp at h2
      rename_i l h mm hb
      have hm' : m' = m := by
        split at h2
        · split at h2
          · split at h2 <;> simp at h2; exact h2.2.symm
          · simp at h2
        · split at h2 <;> simp at h2; exact h2.2.symm
        · simp at h2
      subst hm'
      refine ok_slarr hs hT ho hx hl hh hu hz hb ?_
      split at h2
      · rename_i b g off hp
        split at h2
        · rename_i k hk
          split at h2
          · rename_i hc
            simp only [Option.some.injEq, Prod.mk.injEq, and_true] at h2
            simp [hp, hk, hc, ← h2]
          · simp at h2
        · simp at h2
      · rename_i cs off hp
        split at h2
        · rename_i c hc
          simp only [Option.some.injEq, Prod.mk.injEq, and_true] at h2
          simp [hp, hc, ← h2]
        · simp at h2
      · simp at h2
    unfold trSlice at htr
    split at htr
    · rename_i e hu
      obtain ⟨sz, hz, h1⟩ := map_some_eq htr
      obtain rfl := strip_eq h1 (by simp) (by simp)
      simp only [evOp0] at hv
      split at hv
      case h_2 => simp at hv
      rename_i len hlen
      split at hv
      case h_2 => simp at hv
      rename_i l h mm hb
      obtain ⟨v', h3, h4⟩ := map_some_eq hv
      simp only [Prod.mk.injEq] at h4
      obtain ⟨rfl, rfl⟩ := h4
      exact ok_slice hs hT ho hx hl hh hm hu hz hlen hb h3
    · rename_i hu
      split at htr
      case isFalse => simp at htr
      rename_i hmx
      have hmx' : mx' = none := by simpa using hmx
      subst hmx'
      obtain rfl := trOpt_none hm
      obtain rfl := strip_eq (Option.some.inj htr).symm (by simp) (by simp)
      simp only [evOp0] at hv
      split at hv
      case h_2 => simp at hv
      rename_i s hp
      split at hv
      case h_2 => simp at hv
      rename_i l h mm hb
      simp only [Option.some.injEq, Prod.mk.injEq] at hv
      obtain ⟨rfl, rfl⟩ := hv
      exact ok_slstr hs hT ho hx hl hh hu hp hb
    · rename_i n e hu
      split at htr
      case isFalse => simp at htr
      rename_i hmx
      obtain ⟨sz, hz, h1⟩ := map_some_eq htr
      exact harr n sz e _ (.inl hu) hz (by simpa using hmx) h1 hv
    · rename_i q hu
      split at htr
      case h_2 => simp at htr
      rename_i n e hq
      split at htr
      case isFalse => simp at htr
      rename_i hmx
      obtain ⟨sz, hz, h1⟩ := map_some_eq htr
      exact harr n sz e _ (.inr ⟨q, hu, hq⟩) hz (by simpa using hmx) h1 hv
    · simp at htr
  case fieldAddr s x f =>
    simp only [trOp] at htr
    split at htr
    case h_2 => simp at htr
    rename_i fs x' hu hx
    split at htr
    case h_2 => simp at htr
    rename_i g hg
    split at htr
    case h_2 => simp at htr
    rename_i n hn
    split at htr
    case isTrue => simp at htr
    rename_i h0
    obtain rfl := strip_eq (Option.some.inj htr).symm (by simp) (by simp)
    have hm : m' = m := by
      simp only [evOp0] at hv
      split at hv <;> simp at hv <;> exact hv.2.symm
    subst hm
    refine ok_faddr hs hT ho hx hu hg hn h0 ?_
    simp only [evOp0] at hv
    split at hv <;> simp_all
  case field s x f =>
    simp only [trOp] at htr
    split at htr
    case h_2 => simp at htr
    rename_i fs x' hu hx
    split at htr
    case h_2 => simp at htr
    rename_i g hg
    obtain ⟨n, hn, h1⟩ := map_some_eq htr
    obtain rfl := strip_eq h1 (by simp) (by simp)
    simp only [evOp0] at hv
    split at hv
    case h_2 => simp at hv
    rename_i cs hp
    obtain ⟨v', h3, h4⟩ := map_some_eq hv
    simp only [Prod.mk.injEq] at h4
    obtain ⟨rfl, rfl⟩ := h4
    exact ok_fld hs hT ho hx hu hg hn hp h3
  case indexAddr t x i =>
    simp only [trOp] at htr
    split at htr
    · rename_i e x' i' hu hx hi
      obtain ⟨sz, hz, h1⟩ := map_some_eq htr
      obtain rfl := strip_eq h1 (by simp) (by simp)
      simp only [evOp0] at hv
      split at hv
      case h_2 => simp at hv
      rename_i k hk
      have hm : m' = m := by
        split at hv
        · split at hv <;> simp at hv; exact hv.2.symm
        · split at hv <;> simp at hv; exact hv.2.symm
        · simp at hv
      subst hm
      refine ok_iaddr hs hT ho hx hi hu hz hk ?_
      split at hv
      · rename_i hp
        split at hv
        · rename_i hc
          simp only [Option.some.injEq, Prod.mk.injEq, and_true] at hv
          simp [hp, hc, ← hv]
        · simp at hv
      · rename_i hp
        split at hv
        · rename_i hc
          simp only [Option.some.injEq, Prod.mk.injEq, and_true] at hv
          simp [hp, hc, ← hv]
        · simp at hv
      · simp at hv
    · rename_i l e x' i' hu hx hi
      obtain ⟨sz, hz, h1⟩ := map_some_eq htr
      obtain rfl := strip_eq h1 (by simp) (by simp)
      simp only [evOp0] at hv
      split at hv
      case h_2 => simp at hv
      rename_i k hk
      have hm : m' = m := by
        split at hv
        · split at hv <;> simp at hv; exact hv.2.symm
        · split at hv <;> simp at hv; exact hv.2.symm
        · simp at hv
      subst hm
      refine ok_iaddra hs hT ho hx hi hu hz hk ?_
      split at hv
      · rename_i hp
        split at hv
        · rename_i hc
          simp only [Option.some.injEq, Prod.mk.injEq, and_true] at hv
          simp [hp, hc, ← hv]
        · simp at hv
      · rename_i hp
        split at hv
        · rename_i hc
          simp only [Option.some.injEq, Prod.mk.injEq, and_true] at hv
          simp [hp, hc, ← hv]
        · simp at hv
      · simp at hv
    · simp at htr
  case index t x i =>
    simp only [trOp] at htr
    split at htr
    · rename_i l e x' i' hu hx hi
      split at htr
      case h_2 => simp at htr
      rename_i n ag hn hag
      split at htr
      case isTrue => simp at htr
      rename_i hc
      obtain rfl := strip_eq (Option.some.inj htr).symm (by simp) (by simp)
      simp only [evOp0] at hv
      split at hv
      case h_2 => simp at hv
      rename_i k hk
      split at hv
      case h_2 => simp at hv
      rename_i cs hp
      split at hv
      case isFalse => simp at hv
      rename_i hlt
      obtain ⟨v', h3, h4⟩ := map_some_eq hv
      simp only [Prod.mk.injEq] at h4
      obtain ⟨rfl, rfl⟩ := h4
      exact ok_idx hs hT ho hx hi hu hn hag (fun h => Decidable.byContradiction fun h' => hc ⟨h, h'⟩) hk hp hlt h3
    · rename_i x' i' hu hx hi
      obtain rfl := strip_eq (Option.some.inj htr).symm (by simp) (by simp)
      simp only [evOp0] at hv
      split at hv
      case h_2 => simp at hv
      rename_i k s hk hp
      split at hv
      case h_2 => simp at hv
      rename_i b hb
      simp only [Option.some.injEq, Prod.mk.injEq] at hv
      obtain ⟨rfl, rfl⟩ := hv
      exact ok_idxs hs hT ho hx hi hu hk hp hb
    · simp at htr
  case extract x i =>
    obtain ⟨y, hx, h1⟩ := map_some_eq htr
    obtain rfl := strip_eq h1 (by simp) (by simp)
    simp only [evOp0] at hv
    split at hv
    case h_2 => simp at hv
    rename_i vs hp
    obtain ⟨v', h3, h4⟩ := map_some_eq hv
    simp only [Prod.mk.injEq] at h4
    obtain ⟨rfl, rfl⟩ := h4
    exact ok_extr hs hT ho hx hp h3
  case call c =>
    simp only [trOp] at htr
    split at htr
    case h_2 => simp at htr
    rename_i args' hargs
    split at htr
    · obtain ⟨f, _, h1⟩ := map_some_eq htr
      rcases strip_call h1 with rfl | ⟨g, rfl, _⟩ <;> simp [evOp0] at hv
    · rename_i b hb
      have one : ∀ {xs : List Operand} {y : Opd}, trOpds xs = some [y] → ∃ x, xs = [x] ∧ trOpd x = some y := by
        intro xs y h
        match xs with
        | [] => simp [trOpds] at h
        | [x] =>
          simp only [trOpds] at h
          split at h
          · rename_i z hz; simp at h; subst h; exact ⟨x, rfl, hz⟩
          · simp at h
        | x :: x2 :: xs =>
          exfalso
          simp only [trOpds] at h
          cases hx : trOpd x with
          | none => simp [hx] at h
          | some x1 =>
            cases hx2 : trOpd x2 with
            | none => simp [hx, hx2] at h
            | some x3 =>
              cases hr : trOpds xs with
              | none => simp [hx, hx2, hr] at h
              | some ys => simp [hx, hx2, hr] at h
      have two : ∀ {xs : List Operand} {y z : Opd}, trOpds xs = some [y, z] → ∃ a b, xs = [a, b] ∧ trOpd a = some y ∧ trOpd b = some z := by
        intro xs y z h
        match xs with
        | [] => simp [trOpds] at h
        | x :: xs =>
          simp only [trOpds] at h
          cases hx : trOpd x with
          | none => simp [hx] at h
          | some x1 =>
            cases hr : trOpds xs with
            | none => simp [hx, hr] at h
            | some ys =>
              simp only [hx, hr, Option.some.injEq, List.cons.injEq] at h
              obtain ⟨rfl, rfl⟩ := h
              obtain ⟨b, rfl, hb⟩ := one hr
              exact ⟨x, b, rfl, hx, hb⟩
      unfold trBuiltin at htr
      split at htr
      · rename_i t x' ht
        obtain ⟨x, ha, hx⟩ := one hargs
        split at htr
        · rename_i e hu
          obtain rfl := strip_eq (Option.some.inj htr).symm (by simp) (by simp)
          simp only [evOp0] at hv
          obtain ⟨v', h3, h4⟩ := map_some_eq hv
          simp only [Prod.mk.injEq] at h4
          obtain ⟨rfl, rfl⟩ := h4
          exact ok_len hs hT ho hb ha ht hu hx h3
        · rename_i hu
          obtain rfl := strip_eq (Option.some.inj htr).symm (by simp) (by simp)
          simp only [evOp0] at hv
          split at hv
          case h_2 => simp at hv
          rename_i s hp
          simp only [Option.some.injEq, Prod.mk.injEq] at hv
          obtain ⟨rfl, rfl⟩ := hv
          exact ok_lens hs hT ho hb ha ht hu hx hp
        · rename_i n e hu
          obtain rfl := strip_eq (Option.some.inj htr).symm (by simp) (by simp)
          simp only [evOp0, Option.some.injEq, Prod.mk.injEq] at hv
          obtain ⟨rfl, rfl⟩ := hv
          exact ok_lenc hs ho hb ha ht (.inl ⟨e, hu⟩)
        · rename_i q hu
          split at htr
          case h_2 => simp at htr
          rename_i n e hq
          obtain rfl := strip_eq (Option.some.inj htr).symm (by simp) (by simp)
          simp only [evOp0, Option.some.injEq, Prod.mk.injEq] at hv
          obtain ⟨rfl, rfl⟩ := hv
          exact ok_lenc hs ho hb ha ht (.inr ⟨q, e, hu, hq⟩)
        · simp at htr
      · rename_i s t x' y' ht
        obtain ⟨x, y, ha, hx, hy⟩ := two hargs
        split at htr
        case h_2 => simp at htr
        rename_i e e' hu hu'
        split at htr
        case h_2 => simp at htr
        rename_i n bb z hn hbb hz
        split at htr
        case isFalse => simp at htr
        rename_i hc
        obtain ⟨rfl, hzs, hb0⟩ := hc
        obtain rfl := strip_eq (Option.some.inj htr).symm (by simp) (by simp)
        simp only [evOp0] at hv
        exact ok_app hs hT ho hb ha hx hy ht hu hn hbb hz hzs hb0 hv
      · rename_i x' y'
        obtain ⟨x, y, ha, hx, hy⟩ := two hargs
        obtain rfl := strip_eq (Option.some.inj htr).symm (by simp) (by simp)
        simp only [evOp0] at hv
        split at hv
        case h_2 => simp at hv
        rename_i k p j q hp hq
        simp only [Option.some.injEq, Prod.mk.injEq] at hv
        obtain ⟨rfl, rfl⟩ := hv
        exact ok_mx hs hT ho hb ha hx hy hp hq
      · rename_i x' y'
        obtain ⟨x, y, ha, hx, hy⟩ := two hargs
        obtain rfl := strip_eq (Option.some.inj htr).symm (by simp) (by simp)
        simp only [evOp0] at hv
        split at hv
        case h_2 => simp at hv
        rename_i k p j q hp hq
        simp only [Option.some.injEq, Prod.mk.injEq] at hv
        obtain ⟨rfl, rfl⟩ := hv
        exact ok_mn hs hT ho hb ha hx hy hp hq
      · simp at htr
    · simp at htr

end ops
end Go.Mini
