/-
The document's answers of law26: its head returns true (2).
-/
import Derived.Test.YtnekgoanadbmmaaDb
namespace Go.Proofs.Ytnekgoanadbmmaa
open Go.Mini
set_option linter.unusedSimpArgs false
set_option linter.unusedVariables false
set_option maxHeartbeats 4000000
section
variable {m : Mem} {ls : List LRec} {Q : MV → Mem → List LRec → Prop}

theorem c_cuts2 {w a b : Int} {c : Bool} (h : cuts6 w = ⟨a, b, c, 0⟩) (hQ : Q (.tup [.int .i64 a, .int .i64 b, .bool c]) m ls) : Wc ip f_law26_cuts [.int .i64 w] m ls Q :=
  c_cuts (by rw [h]) (by rw [h]; exact hQ)

theorem c_is {w a b : Int} {c : Bool} (hc : ∀ (m : Mem) (ls : List LRec) (Q : MV → Mem → List LRec → Prop), Q (.tup [.int .i64 a, .int .i64 b, .bool c]) m ls → Wc ip f_law26_cuts [.int .i64 w] m ls Q) (hQ : Q (.bool true) m ls) : Wc ip f_law26_is [.int .i64 w, .int .i64 a, .int .i64 b, .bool c] m ls Q := by
  refine wc_fn3d rfl fn_law26_is rfl rfl rfl ?_
  repeat' (first
    | refine wo_call rfl rfl rfl (hc _ _ _ ?_)
    | refine z00 ?_ | refine z01 ?_ | refine z02 ?_ | refine z03 ?_ | refine z04 ?_ | refine z05 ?_ | refine z06 ?_ | refine z07 ?_ | refine z08 ?_ | refine z09 ?_ | refine z0a ?_
    | refine z0b ?_ | refine z0c ?_ | refine z0d ?_ | refine z0e ?_ | refine z0f ?_ | refine z0g ?_ | refine z0h ?_ | refine z0i ?_ | refine z0j ?_ | refine z0k ?_ | refine z0l ?_
    | refine z0m ?_ | refine z0n ?_ | refine z0o ?_ | refine z0p ?_ | refine z0q ?_ | refine z0r ?_ | refine z0s ?_ | refine z0t ?_ | refine z0u ?_ | refine z0v ?_ | refine z0w ?_
    | refine z0x ?_ | refine z0y ?_ | refine z0z ?_ | refine z10 ?_ | refine z11 ?_ | refine z12 ?_ | refine z13 ?_ | refine z14 ?_ | refine z15 ?_ | refine z16 ?_ | refine z17 ?_
    | refine z18 ?_ | refine z19 ?_ | refine z1a ?_ | refine z1b ?_ | refine z1c ?_ | refine z1d ?_ | refine z1e ?_ | refine z1f (hk := ?_) | refine z1g ?_ | refine z1h ?_ | refine z1i ?_
    | refine z1j ?_ | refine z1k ?_ | refine z1l ?_ | refine z1m ?_ | refine z1n ?_ | refine z1o (fun hp => ?_) (fun hp => ?_) | refine z1p (fun hp => ?_) (fun hp => ?_)
    | refine z1q (fun hp => ?_) (fun hp => ?_) | refine z1r ?_ | refine z1s ?_ | refine z1t ?_ | refine z1u ?_ | refine z1v ?_ | refine z1w ?_ | refine z1x ?_ | refine z1y ?_ | refine z1z ?_
    | refine z20 ?_ | refine z21 ?_ | refine z22 ?_ | refine z23 ?_ | refine z24 ?_ | refine z25 ?_ | refine z26 ?_ | refine z27 ?_ | refine z28 (fun hp => ?_) (fun hp => ?_)
    | refine z29 (fun hp => ?_) (fun hp => ?_) | refine z2a ?_ | refine z2b ?_)
  exact fin_cln rfl (by simpa [one] using hQ)

theorem ran_whole1 : (mach ip (59 + 1)).call f_ellipsis_Whole [.nils, .lit [.int .u8 0, .int .i64 0, .int .i64 0, .int .i64 0, .bool false, .bool false] 1 (some 1)] [] [] = some (.tup [.nils, .int .i64 2], [], []) := by kernel_rfl
theorem c_whole0 (hQ : Q (.tup [.nils, .int .i64 2]) m ls) : Wc ip f_ellipsis_Whole [.nils, .lit [.int .u8 0, .int .i64 0, .int .i64 0, .int .i64 0, .bool false, .bool false] 1 (some 1)] m ls Q := wc_ran rfl fn_ellipsis_Whole rfl rfl rfl ran_whole1 hQ
theorem c_places0 (hQ : Q (.tup [.nils, .int .i64 2]) m ls) : Wc ip f_ellipsis_Places [.nils, .nils, .agg [.int .i64 0, .int .i64 1, .bool false]] m ls Q := wc_ran rfl fn_ellipsis_Places rfl rfl rfl ran_places0 hQ

def CutsAre (w a b : Int) (c : Bool) : Prop := ∀ (m : Mem) (ls : List LRec) (Q : MV → Mem → List LRec → Prop), Q (.tup [.int .i64 a, .int .i64 b, .bool c]) m ls → Wc ip f_law26_cuts [.int .i64 w] m ls Q

theorem head26_of (h0 : CutsAre 60 6 60 false) (h1 : CutsAre 59 4 40 true) (h2 : CutsAre 50 4 40 true) (h3 : CutsAre 45 2 20 true) (h4 : CutsAre 30 2 20 true) (h5 : CutsAre 9 0 0 true) : Head26 := by
  intro m ls Q hQ
  refine wc_fn3d rfl fn_law26_head rfl rfl rfl ?_
  repeat' (first
    | refine wo_call rfl rfl rfl (c_whole0 ?_)
    | refine wo_call rfl rfl rfl (c_places0 ?_)
    | refine wo_call rfl rfl rfl (c_is h0 ?_)
    | refine wo_call rfl rfl rfl (c_is h1 ?_)
    | refine wo_call rfl rfl rfl (c_is h2 ?_)
    | refine wo_call rfl rfl rfl (c_is h3 ?_)
    | refine wo_call rfl rfl rfl (c_is h4 ?_)
    | refine wo_call rfl rfl rfl (c_is h5 ?_)
    | refine z00 ?_ | refine z01 ?_ | refine z02 ?_ | refine z03 ?_ | refine z04 ?_ | refine z05 ?_ | refine z06 ?_ | refine z07 ?_ | refine z08 ?_ | refine z09 ?_ | refine z0a ?_
    | refine z0b ?_ | refine z0c ?_ | refine z0d ?_ | refine z0e ?_ | refine z0f ?_ | refine z0g ?_ | refine z0h ?_ | refine z0i ?_ | refine z0j ?_ | refine z0k ?_ | refine z0l ?_
    | refine z0m ?_ | refine z0n ?_ | refine z0o ?_ | refine z0p ?_ | refine z0q ?_ | refine z0r ?_ | refine z0s ?_ | refine z0t ?_ | refine z0u ?_ | refine z0v ?_ | refine z0w ?_
    | refine z0x ?_ | refine z0y ?_ | refine z0z ?_ | refine z10 ?_ | refine z11 ?_ | refine z12 ?_ | refine z13 ?_ | refine z14 ?_ | refine z15 ?_ | refine z16 ?_ | refine z17 ?_
    | refine z18 ?_ | refine z19 ?_ | refine z1a ?_ | refine z1b ?_ | refine z1c ?_ | refine z1d ?_ | refine z1e ?_ | refine z1f (hk := ?_) | refine z1g ?_ | refine z1h ?_ | refine z1i ?_
    | refine z1j ?_ | refine z1k ?_ | refine z1l ?_ | refine z1m ?_ | refine z1n ?_ | refine z1o (fun hp => ?_) (fun hp => ?_) | refine z1p (fun hp => ?_) (fun hp => ?_)
    | refine z1q (fun hp => ?_) (fun hp => ?_) | refine z1r ?_ | refine z1s ?_ | refine z1t ?_ | refine z1u ?_ | refine z1v ?_ | refine z1w ?_ | refine z1x ?_ | refine z1y ?_ | refine z1z ?_
    | refine z20 ?_ | refine z21 ?_ | refine z22 ?_ | refine z23 ?_ | refine z24 ?_ | refine z25 ?_ | refine z26 ?_ | refine z27 ?_ | refine z28 (fun hp => ?_) (fun hp => ?_)
    | refine z29 (fun hp => ?_) (fun hp => ?_) | refine z2a ?_ | refine z2b ?_)
  exact fin_cln rfl (by simpa [one] using hQ)
end

theorem whl : wholeF (chrs 6) marks6 (cels 6) = [true, true, true, false, true, true] := by decide
theorem cuts_60 : cuts6 60 = ⟨6, 60, false, 0⟩ := by unfold cuts6; rw [whl]; kernel_rfl
theorem cuts_59 : cuts6 59 = ⟨4, 40, true, 0⟩ := by unfold cuts6; rw [whl]; kernel_rfl
theorem cuts_50 : cuts6 50 = ⟨4, 40, true, 0⟩ := by unfold cuts6; rw [whl]; kernel_rfl
theorem cuts_45 : cuts6 45 = ⟨2, 20, true, 0⟩ := by unfold cuts6; rw [whl]; kernel_rfl
theorem cuts_30 : cuts6 30 = ⟨2, 20, true, 0⟩ := by unfold cuts6; rw [whl]; kernel_rfl
theorem cuts_9 : cuts6 9 = ⟨0, 0, true, 0⟩ := by unfold cuts6; rw [whl]; kernel_rfl

theorem head26 : Head26 := head26_of (fun _ _ _ => c_cuts2 cuts_60) (fun _ _ _ => c_cuts2 cuts_59) (fun _ _ _ => c_cuts2 cuts_50) (fun _ _ _ => c_cuts2 cuts_45) (fun _ _ _ => c_cuts2 cuts_30) (fun _ _ _ => c_cuts2 cuts_9)
end Go.Proofs.Ytnekgoanadbmmaa
