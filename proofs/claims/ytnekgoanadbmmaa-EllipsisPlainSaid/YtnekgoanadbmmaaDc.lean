/-
The document's answers of law26: its head returns true (2).
-/
import Derived.Test.YtnekgoanadbmmaaDb
namespace Go.Proofs.Ytnekgoanadbmmaa
open Go.Mini
set_option linter.unusedSimpArgs false
set_option linter.unusedVariables false
set_option maxHeartbeats 4000000
section
variable {m : Mem} {ls : List LRec} {Q : MV → Mem → List LRec → Prop}

theorem c_cuts2 {w a b : Int} {c : Bool} (h : cuts6 w = ⟨a, b, c, 0⟩) (hQ : Q (.tup [.int .i64 a, .int .i64 b, .bool c]) m ls) : Wc ip f_law26_cuts [.int .i64 w] m ls Q :=
  c_cuts (by rw [h]) (by rw [h]; exact hQ)

theorem c_is {w a b : Int} {c : Bool} (hc : ∀ (m : Mem) (ls : List LRec) (Q : MV → Mem → List LRec → Prop), Q (.tup [.int .i64 a, .int .i64 b, .bool c]) m ls → Wc ip f_law26_cuts [.int .i64 w] m ls Q) (hQ : Q (.bool true) m ls) : Wc ip f_law26_is [.int .i64 w, .int .i64 a, .int .i64 b, .bool c] m ls Q := by
  refine wc_fn3d rfl fn_law26_is rfl rfl rfl ?_
  repeat' (first
    | refine wo_call rfl rfl rfl (hc _ _ _ ?_)
    | refine wx_seq ?_
    | refine wx_reg ?_
    | refine then_n ?_
    | refine wo_mv rfl rfl ?_
    | refine wo_nil ?_
    | refine wo_loadc rfl (by first | assumption | omega) rfl rfl ?_
    | refine wo_loadi rfl rfl rfl ?_
    | refine wo_loadp rfl rfl rfl ?_
    | refine wo_faddrc rfl rfl rfl ?_
    | refine wo_faddri rfl rfl rfl ?_
    | refine wo_lss rfl rfl rfl ?_
    | refine wo_leq rfl rfl rfl ?_
    | refine wo_gtr rfl rfl rfl ?_
    | refine wo_geq rfl rfl rfl ?_
    | refine wo_eql rfl rfl rfl ?_
    | refine wo_neq rfl rfl rfl ?_
    | refine wo_addO rfl rfl (by omega) rfl ?_
    | refine wo_subO rfl rfl (by omega) rfl ?_
    | refine wo_extr rfl rfl rfl ?_
    | refine wo_alloc rfl ?_
    | refine wo_storeL rfl rfl (by first | rfl | assumption) rfl rfl (by first | exact Nat.le_of_ble_eq_true rfl | (simp; done)) rfl ?_
    | refine wo_loadL rfl rfl rfl rfl ?_
    | refine wo_faddrp rfl rfl rfl ?_
    | refine wo_load rfl (by first | assumption | exact get_set (by assumption) (by first | decide | omega) _ | exact get_app (by assumption) _ | exact get_set_self (by assumption) _ | exact get_set (get_app (by assumption) _) (by first | decide | omega) _ | exact get_set_self (get_app (by assumption) _) _ | exact get_app (get_app (by assumption) _) _ | exact get_set (get_set (by assumption) (by first | decide | omega) _) (by first | decide | omega) _ | exact get_set (get_set_self (by assumption) _) (by first | decide | omega) _) (by rfl) (by rfl) rfl ?_
    | refine wo_store rfl rfl (by first | rfl | assumption) (by first | assumption | exact get_set (by assumption) (by first | decide | omega) _ | exact get_app (by assumption) _ | exact get_set_self (by assumption) _ | exact get_set (get_app (by assumption) _) (by first | decide | omega) _ | exact get_set_self (get_app (by assumption) _) _ | exact get_app (get_app (by assumption) _) _ | exact get_set (get_set (by assumption) (by first | decide | omega) _) (by first | decide | omega) _ | exact get_set (get_set_self (by assumption) _) (by first | decide | omega) _) (by rfl) (by rfl) (by first | exact Nat.le_of_ble_eq_true rfl | (simp; done)) rfl ?_
    | refine wo_go rfl ?_
    | refine wo_skipF rfl rfl ?_
    | refine wo_skipT rfl rfl ?_
    | refine wo_skipN rfl rfl ?_
    | refine wo_pickT rfl rfl rfl ?_
    | refine wo_pickF rfl rfl rfl ?_
    | refine wo_lenS rfl (by assumption) rfl ?_
    | refine wo_len rfl rfl rfl ?_
    | refine wo_lens rfl rfl ?_
    | refine wo_lenc rfl ?_
    | refine wo_boxi rfl (by first | rfl | assumption) (by first | rfl | assumption) rfl ?_
    | refine wo_build rfl rfl ?_
    | refine wo_blit rfl (by first | rfl | assumption) rfl ?_
    | refine wo_fld rfl rfl rfl ?_
    | refine wo_notD rfl rfl ?_
    | refine wo_not rfl rfl ?_
    | refine wo_eqb0 rfl rfl rfl ?_
    | refine wo_eqb1 rfl rfl rfl ?_
    | refine wo_mkfn rfl rfl rfl ?_
    | refine wo_iaddrS rfl (by assumption) rfl (by omega) rfl rfl ?_
    | refine wo_loade rfl (by first | assumption | omega) rfl rfl ?_
    | refine wo_mx rfl rfl rfl ?_
    | refine wo_mn rfl rfl rfl ?_
    | refine wo_negO rfl (by omega) rfl ?_
    | refine wo_convO rfl (by omega) rfl ?_
    | refine wo_guardDT rfl (by first | omega | assumption) rfl ?_
    | refine wo_guardDF rfl (by first | omega | assumption) rfl ?_
    | refine wo_guardET rfl (by first | omega | assumption) rfl ?_
    | refine wo_guardEF rfl (by first | omega | assumption) rfl ?_
    | refine wo_guardD rfl rfl (fun hp => ?_) (fun hp => ?_)
    | refine wo_guardE rfl rfl (fun hp => ?_) (fun hp => ?_)
    | refine wo_guardB rfl rfl (fun hp => ?_) (fun hp => ?_)
    | refine wx_block ?_
    | refine wx_skip ?_
    | refine wx_exit ?_
    | refine wx_ret ?_
    | refine then_e ?_
    | refine then_r ?_
    | refine block_n ?_
    | refine block_r ?_
    | refine block_e rfl ?_
    | refine block_o rfl ?_
    | refine again_n ?_
    | refine again_e ?_
    | refine again_r ?_
    | refine wx_ifT rfl ?_
    | refine wx_ifF rfl ?_
    | refine wx_ifDT rfl (by first | omega | assumption) ?_
    | refine wx_ifDF rfl (by first | omega | assumption) ?_
    | refine wx_ifD rfl (fun hp => ?_) (fun hp => ?_)
    | refine wx_if rfl (fun hp => ?_) (fun hp => ?_)
    | refine end_n rfl ?_
    | refine end_r rfl ?_)
  exact fin_cln rfl (by simpa [one] using hQ)

theorem ran_whole1 : (mach ip (59 + 1)).call f_ellipsis_Whole [.nils, .lit [.int .u8 0, .int .i64 0, .int .i64 0, .int .i64 0, .bool false, .bool false] 1 (some 1)] [] [] = some (.tup [.nils, .int .i64 2], [], []) := by kernel_rfl
theorem c_whole0 (hQ : Q (.tup [.nils, .int .i64 2]) m ls) : Wc ip f_ellipsis_Whole [.nils, .lit [.int .u8 0, .int .i64 0, .int .i64 0, .int .i64 0, .bool false, .bool false] 1 (some 1)] m ls Q := wc_ran rfl fn_ellipsis_Whole rfl rfl rfl ran_whole1 hQ
theorem c_places0 (hQ : Q (.tup [.nils, .int .i64 2]) m ls) : Wc ip f_ellipsis_Places [.nils, .nils, .agg [.int .i64 0, .int .i64 1, .bool false]] m ls Q := wc_ran rfl fn_ellipsis_Places rfl rfl rfl ran_places0 hQ

def CutsAre (w a b : Int) (c : Bool) : Prop := ∀ (m : Mem) (ls : List LRec) (Q : MV → Mem → List LRec → Prop), Q (.tup [.int .i64 a, .int .i64 b, .bool c]) m ls → Wc ip f_law26_cuts [.int .i64 w] m ls Q

theorem head26_of (h0 : CutsAre 60 6 60 false) (h1 : CutsAre 59 4 40 true) (h2 : CutsAre 50 4 40 true) (h3 : CutsAre 45 2 20 true) (h4 : CutsAre 30 2 20 true) (h5 : CutsAre 9 0 0 true) : Head26 := by
  intro m ls Q hQ
  refine wc_fn3d rfl fn_law26_head rfl rfl rfl ?_
  repeat' (first
    | refine wo_call rfl rfl rfl (c_whole0 ?_)
    | refine wo_call rfl rfl rfl (c_places0 ?_)
    | refine wo_call rfl rfl rfl (c_is h0 ?_)
    | refine wo_call rfl rfl rfl (c_is h1 ?_)
    | refine wo_call rfl rfl rfl (c_is h2 ?_)
    | refine wo_call rfl rfl rfl (c_is h3 ?_)
    | refine wo_call rfl rfl rfl (c_is h4 ?_)
    | refine wo_call rfl rfl rfl (c_is h5 ?_)
    | refine wx_seq ?_
    | refine wx_reg ?_
    | refine then_n ?_
    | refine wo_mv rfl rfl ?_
    | refine wo_nil ?_
    | refine wo_loadc rfl (by first | assumption | omega) rfl rfl ?_
    | refine wo_loadi rfl rfl rfl ?_
    | refine wo_loadp rfl rfl rfl ?_
    | refine wo_faddrc rfl rfl rfl ?_
    | refine wo_faddri rfl rfl rfl ?_
    | refine wo_lss rfl rfl rfl ?_
    | refine wo_leq rfl rfl rfl ?_
    | refine wo_gtr rfl rfl rfl ?_
    | refine wo_geq rfl rfl rfl ?_
    | refine wo_eql rfl rfl rfl ?_
    | refine wo_neq rfl rfl rfl ?_
    | refine wo_addO rfl rfl (by omega) rfl ?_
    | refine wo_subO rfl rfl (by omega) rfl ?_
    | refine wo_extr rfl rfl rfl ?_
    | refine wo_alloc rfl ?_
    | refine wo_storeL rfl rfl (by first | rfl | assumption) rfl rfl (by first | exact Nat.le_of_ble_eq_true rfl | (simp; done)) rfl ?_
    | refine wo_loadL rfl rfl rfl rfl ?_
    | refine wo_faddrp rfl rfl rfl ?_
    | refine wo_load rfl (by first | assumption | exact get_set (by assumption) (by first | decide | omega) _ | exact get_app (by assumption) _ | exact get_set_self (by assumption) _ | exact get_set (get_app (by assumption) _) (by first | decide | omega) _ | exact get_set_self (get_app (by assumption) _) _ | exact get_app (get_app (by assumption) _) _ | exact get_set (get_set (by assumption) (by first | decide | omega) _) (by first | decide | omega) _ | exact get_set (get_set_self (by assumption) _) (by first | decide | omega) _) (by rfl) (by rfl) rfl ?_
    | refine wo_store rfl rfl (by first | rfl | assumption) (by first | assumption | exact get_set (by assumption) (by first | decide | omega) _ | exact get_app (by assumption) _ | exact get_set_self (by assumption) _ | exact get_set (get_app (by assumption) _) (by first | decide | omega) _ | exact get_set_self (get_app (by assumption) _) _ | exact get_app (get_app (by assumption) _) _ | exact get_set (get_set (by assumption) (by first | decide | omega) _) (by first | decide | omega) _ | exact get_set (get_set_self (by assumption) _) (by first | decide | omega) _) (by rfl) (by rfl) (by first | exact Nat.le_of_ble_eq_true rfl | (simp; done)) rfl ?_
    | refine wo_go rfl ?_
    | refine wo_skipF rfl rfl ?_
    | refine wo_skipT rfl rfl ?_
    | refine wo_skipN rfl rfl ?_
    | refine wo_pickT rfl rfl rfl ?_
    | refine wo_pickF rfl rfl rfl ?_
    | refine wo_lenS rfl (by assumption) rfl ?_
    | refine wo_len rfl rfl rfl ?_
    | refine wo_lens rfl rfl ?_
    | refine wo_lenc rfl ?_
    | refine wo_boxi rfl (by first | rfl | assumption) (by first | rfl | assumption) rfl ?_
    | refine wo_build rfl rfl ?_
    | refine wo_blit rfl (by first | rfl | assumption) rfl ?_
    | refine wo_fld rfl rfl rfl ?_
    | refine wo_notD rfl rfl ?_
    | refine wo_not rfl rfl ?_
    | refine wo_eqb0 rfl rfl rfl ?_
    | refine wo_eqb1 rfl rfl rfl ?_
    | refine wo_mkfn rfl rfl rfl ?_
    | refine wo_iaddrS rfl (by assumption) rfl (by omega) rfl rfl ?_
    | refine wo_loade rfl (by first | assumption | omega) rfl rfl ?_
    | refine wo_mx rfl rfl rfl ?_
    | refine wo_mn rfl rfl rfl ?_
    | refine wo_negO rfl (by omega) rfl ?_
    | refine wo_convO rfl (by omega) rfl ?_
    | refine wo_guardDT rfl (by first | omega | assumption) rfl ?_
    | refine wo_guardDF rfl (by first | omega | assumption) rfl ?_
    | refine wo_guardET rfl (by first | omega | assumption) rfl ?_
    | refine wo_guardEF rfl (by first | omega | assumption) rfl ?_
    | refine wo_guardD rfl rfl (fun hp => ?_) (fun hp => ?_)
    | refine wo_guardE rfl rfl (fun hp => ?_) (fun hp => ?_)
    | refine wo_guardB rfl rfl (fun hp => ?_) (fun hp => ?_)
    | refine wx_block ?_
    | refine wx_skip ?_
    | refine wx_exit ?_
    | refine wx_ret ?_
    | refine then_e ?_
    | refine then_r ?_
    | refine block_n ?_
    | refine block_r ?_
    | refine block_e rfl ?_
    | refine block_o rfl ?_
    | refine again_n ?_
    | refine again_e ?_
    | refine again_r ?_
    | refine wx_ifT rfl ?_
    | refine wx_ifF rfl ?_
    | refine wx_ifDT rfl (by first | omega | assumption) ?_
    | refine wx_ifDF rfl (by first | omega | assumption) ?_
    | refine wx_ifD rfl (fun hp => ?_) (fun hp => ?_)
    | refine wx_if rfl (fun hp => ?_) (fun hp => ?_)
    | refine end_n rfl ?_
    | refine end_r rfl ?_)
  exact fin_cln rfl (by simpa [one] using hQ)
end

theorem whl : wholeF (chrs 6) marks6 (cels 6) = [true, true, true, false, true, true] := by decide
theorem cuts_60 : cuts6 60 = ⟨6, 60, false, 0⟩ := by unfold cuts6; rw [whl]; kernel_rfl
theorem cuts_59 : cuts6 59 = ⟨4, 40, true, 0⟩ := by unfold cuts6; rw [whl]; kernel_rfl
theorem cuts_50 : cuts6 50 = ⟨4, 40, true, 0⟩ := by unfold cuts6; rw [whl]; kernel_rfl
theorem cuts_45 : cuts6 45 = ⟨2, 20, true, 0⟩ := by unfold cuts6; rw [whl]; kernel_rfl
theorem cuts_30 : cuts6 30 = ⟨2, 20, true, 0⟩ := by unfold cuts6; rw [whl]; kernel_rfl
theorem cuts_9 : cuts6 9 = ⟨0, 0, true, 0⟩ := by unfold cuts6; rw [whl]; kernel_rfl

theorem head26 : Head26 := head26_of (fun _ _ _ => c_cuts2 cuts_60) (fun _ _ _ => c_cuts2 cuts_59) (fun _ _ _ => c_cuts2 cuts_50) (fun _ _ _ => c_cuts2 cuts_45) (fun _ _ _ => c_cuts2 cuts_30) (fun _ _ _ => c_cuts2 cuts_9)
end Go.Proofs.Ytnekgoanadbmmaa
