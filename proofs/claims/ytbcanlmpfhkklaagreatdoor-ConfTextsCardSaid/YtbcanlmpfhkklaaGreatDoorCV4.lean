/- The law ConfTexts. -/
import Derived.Test.YtbcanlmpfhkklaaGreatDoorCX1
import Derived.Test.YtbcanlmpfhkklaaGreatDoorCU
set_option linter.unusedSimpArgs false
set_option linter.unusedVariables false
namespace Go.Proofs.YtbcanlmpfhkklaaGreatDoor
open Go.Ax
open Cel (c)
theorem qV41 {p : Prop} (h : p := by exact (fun hb => by (try (apply AStepD.uncond 4 rfl (gpf hb))); exact qU122)) : p := h
theorem qV42 {p : Prop} (h : p := by exact (fun _ hb => by (try (apply AStepD.uncond 4 rfl (gpf hb))); exact qU122)) : p := h
set_option linter.unusedSimpArgs false
set_option linter.unusedVariables false
open Cel (c)

set_option maxHeartbeats 4000000 in
theorem texts_law (H : AHeap) (s : Stt) (ok : s.Ok) : ACalls Tryz.prog 3 [stA s] H (fun r _ => r = .v (.bool true)) := by
  have hcs := ok.fc (vecA s.known)
  refine ACalls.of_body tok Tryz.func3 rfl Tryz.ntmps3 (Nat.le_of_ble_eq_true rfl) (fun base => ?_)
  refine AW.seq_region (fun K hK => ?_)
  refine AL.step rfl rfl rfl (by exact AStepD.box (cs := s.cs (vecA s.known)) rfl rfl (s.cs_one rfl)) ?_
  refine AL.step rfl rfl rfl qU119 ?_
  refine AL.nil_then (hK _ _ ?_); clear hK K
  refine AW.seq_k (fun K1 hK1 => ?_)
  refine AW.seq_region (fun K hK => ?_)
  refine AL.step rfl rfl rfl (by exact AStepD.callf rfl en9 rfl (anchor_calls _)) ?_
  refine AL.step rfl rfl rfl (by first | exact AStepD.not rfl rfl | exact AStepD.neg rfl rfl (by first | exact IntWalk.i64_in _ (by omega) | exact IntWalk.i64_in _ (by simp only [Bool.or_eq_true, Bool.and_eq_true, Bool.or_eq_false_iff, Bool.and_eq_false_iff, Bool.not_eq_true', Bool.not_eq_false', decide_eq_true_eq, decide_eq_false_iff_not, Int.not_lt, Int.not_le, beq_iff_eq] at *; omega) | exact rfl)) ?_
  refine AL.nil_then (hK _ _ ?_); clear hK K
  refine AW.cond_false rfl rfl (AW.skip ?_)
  refine hK1 _ _ ?_; try clear hK1 K1
  refine AW.seq_k (fun K2 hK2 => ?_)
  refine AW.seq_region (fun K hK => ?_)
  refine AL.step rfl rfl rfl qU136 ?_
  refine AL.step rfl rfl rfl qU132 ?_
  refine AL.step rfl rfl rfl qU128 ?_
  refine AL.step rfl rfl rfl qX117 ?_
  refine AL.nil_then (hK _ _ ?_); clear hK K
  refine AW.cond _ rfl (fun hc => ?_) (fun hc => ?_)
  · refine AW.seq_region (fun K hK => ?_)
    refine AL.step rfl rfl rfl qU119 ?_
    refine AL.nil_then (hK _ _ ?_); clear hK K
    exact AW.ret (RetQ.mk (.inr rfl) (retA_tmp rfl qU11 retA_nil) rfl)
  (try simp only [Bool.or_eq_true, Bool.and_eq_true, Bool.or_eq_false_iff, Bool.and_eq_false_iff, Bool.not_eq_true', Bool.not_eq_false', decide_eq_true_eq, decide_eq_false_iff_not, Int.not_lt, Int.not_le] at hc)
  have hkl : s.known.length ≤ 40 := by omega
  clear hc
  refine AW.skip ?_
  refine hK2 _ _ ?_; try clear hK2 K2
  refine AW.seq_region (fun K hK => ?_)
  refine AL.step rfl rfl rfl (by exact AStepD.load_agg (cs := s.cs (vecA s.known)) (zs := s.cs (vecA s.known)) tok rfl rfl rfl qU121 rfl (show _ = 134 from rfl) (by omega) qP42) ?_
  refine AL.step rfl rfl rfl (by exact AStepD.callf rfl en10 rfl (made_calls _ s ok (by omega))) ?_
  refine AL.step rfl rfl rfl qU21 ?_
  refine AL.step0 rfl rfl (by exact AStepD.store' (k := 134) (cs := zS.cs (.v (.slice none 0 0))) (ys := s.cs (vecA s.known)) (zs := s.cs (vecA s.known)) tok rfl rfl (by rw [← zS33]; exact AHeap.get_new_same _ _) rfl rfl (Stt.cs_one _ rfl) rfl hcs rfl (by rw [zS_ok.fc]; omega) (over_all (by rw [zS_ok.fc, hcs]; rfl))) ?_
  refine AL.nil_then (hK _ _ ?_); clear hK K
  refine AW.seq_region (fun K hK => ?_)
  refine AL.step rfl rfl rfl (by exact AStepD.load_agg (cs := s.cs (vecA s.known)) (zs := s.cs (vecA s.known)) tok rfl rfl rfl qU121 rfl (show _ = 134 from rfl) (by omega) qP42) ?_
  refine AL.step rfl rfl rfl (by exact AStepD.callf rfl en11 rfl (statetext_calls _ s ok)) ?_
  refine AL.step rfl rfl rfl qU122 ?_
  refine AL.step rfl rfl rfl qU24 ?_
  refine AL.step rfl rfl rfl qU24 ?_
  refine AL.step rfl rfl rfl qU119 ?_
  refine AL.step rfl rfl rfl qU119 ?_
  refine AL.nil_then (hK _ _ ?_); clear hK K
  refine AW.seq_k (fun K3 hK3 => ?_)
  refine AW.seq_k (fun K hK => ?_)
  apply AW.draw mixed [_, _, _, _, _] [] [_] [(0, 0), (1, 0), (2, 0), (3, 0), (4, 0)] rfl rfl rfl qP33
  · refine ⟨?_, ?_, ?_, ?_, ?_⟩
    · refine Ob.mk _ [1] 0 rfl rfl (restr_cons qU11 restr_nil) rfl ?_
      simp only [List.getD_cons_zero, List.getD_cons_succ]
      exact GStep.plain rfl (by exact AStepD.load_agg (cs := s.cs (vecA s.known)) (zs := s.cs (vecA s.known)) tok rfl rfl rfl qU121 rfl (show _ = 134 from rfl) (by omega) qP42)
    · refine Ob.mk _ [21] 0 rfl rfl (restr_cons qU11 restr_nil) rfl ?_
      simp only [List.getD_cons_zero, List.getD_cons_succ]
      exact GStep.plain rfl (by exact AStepD.callf rfl en12 rfl (right_calls _ s ok))
    · refine Ob.mk _ [3] 0 rfl rfl (restr_cons qU11 restr_nil) rfl ?_
      simp only [List.getD_cons_zero, List.getD_cons_succ]
      exact GStep.plain rfl (by exact AStepD.load_agg (cs := s.cs (vecA s.known)) (zs := s.cs (vecA s.known)) tok rfl rfl rfl qU121 rfl (show _ = 134 from rfl) (by omega) qP42)
    · refine Ob.mk _ [23] 0 rfl rfl (restr_cons qU11 restr_nil) rfl ?_
      simp only [List.getD_cons_zero, List.getD_cons_succ]
      exact GStep.plain rfl (by exact AStepD.callf rfl en13 rfl (rightx_calls _ s ok))
    · refine Ob.mk _ [22, 24] 0 rfl rfl (restr_cons qU11 (restr_cons qU11 restr_nil)) rfl ?_
      simp only [List.getD_cons_zero, List.getD_cons_succ]
      exact GStep.plain rfl qU15
  refine hK _ _ ?_; clear hK K
  refine AW.frame qP38 qP39 ?_
  refine AW.cond_false rfl (by simp) (AW.skip ?_)
  refine hK3 _ _ ?_; try clear hK3 K3

  refine AW.seq_k (fun K4 hK4 => ?_)
  refine AW.seq_region (fun K hK => ?_)
  refine AL.step rfl rfl rfl (by exact AStepD.load_agg (cs := s.cs (vecA s.known)) (zs := s.cs (vecA s.known)) tok rfl rfl rfl qU121 rfl (show _ = 134 from rfl) (by omega) qP42) ?_
  refine AL.step rfl rfl rfl (by exact AStepD.callf rfl en13 rfl (rightx_calls _ s ok)) ?_
  refine AL.step rfl rfl rfl (by first | exact AStepD.not rfl rfl | exact AStepD.neg rfl rfl (by first | exact IntWalk.i64_in _ (by omega) | exact IntWalk.i64_in _ (by simp only [Bool.or_eq_true, Bool.and_eq_true, Bool.or_eq_false_iff, Bool.and_eq_false_iff, Bool.not_eq_true', Bool.not_eq_false', decide_eq_true_eq, decide_eq_false_iff_not, Int.not_lt, Int.not_le, beq_iff_eq] at *; omega) | exact rfl)) ?_
  refine AL.nil_then (hK _ _ ?_); clear hK K
  cases hr : rightB s with
  | false =>
    rw [if_neg (by decide), if_neg (by decide)]
    refine AW.cond_true rfl rfl ?_
    refine AW.seq_region (fun K hK => ?_)
    refine AL.step rfl rfl rfl qU122 ?_
    refine AL.step rfl rfl rfl qU25 ?_
    refine AL.step rfl rfl rfl qU122 ?_
    first | refine AL.gstep rfl rfl rfl rfl rfl rfl rfl qU122 ?_ | refine AL.gskip rfl rfl rfl rfl rfl rfl rfl ?_ | refine AL.gnone rfl rfl rfl rfl rfl ?_ | refine AL.gmay rfl rfl rfl rfl rfl rfl qV41 ?_ | refine AL.gmay2 rfl rfl rfl rfl rfl rfl qV42 ?_
    first | refine AL.gstep rfl rfl rfl rfl rfl rfl rfl qU25 ?_ | refine AL.gskip rfl rfl rfl rfl rfl rfl rfl ?_ | refine AL.gnone rfl rfl rfl rfl rfl ?_ | refine AL.gmay rfl rfl rfl rfl rfl rfl (fun hb => by (try (apply AStepD.uncond 32 rfl (gpf hb))); exact qU25) ?_ | refine AL.gmay2 rfl rfl rfl rfl rfl rfl (fun _ hb => by (try (apply AStepD.uncond 32 rfl (gpf hb))); exact qU25) ?_
    refine AL.step rfl rfl rfl qU124 ?_
    refine AL.step rfl rfl rfl qU119 ?_
    refine AL.nil_then (hK _ _ ?_); clear hK K
    refine AW.ret (RetQ.mk (.inr rfl) (retA_tmp rfl qU11 retA_nil) rfl)
  | true =>
  rw [if_pos rfl, if_pos rfl]
  have r := right_rt hr
  have hdl := docL_len (all_ok r)
  have hal := all_len r
  rw [← docT] at hdl
  have hp := parse_doc ok hr
  refine AW.cond_false rfl rfl (AW.skip ?_)
  refine hK4 _ _ ?_; try clear hK4 K4
  refine AW.seq_region (fun K hK => ?_)
  refine AL.step rfl rfl rfl qU122 ?_
  refine AL.step rfl rfl rfl (by exact AStepD.val (AStepD.callf rfl en14 rfl (parseS_calls _ (docT s) (by omega))) (y := .tup [stA s, .v (.int .i64 0)]) (by rw [hp]; rfl)) ?_
  refine AL.step rfl rfl rfl qU122 ?_
  refine AL.step rfl rfl rfl qU24 ?_
  refine AL.step rfl rfl rfl qU24 ?_
  refine AL.step rfl rfl rfl qU21 ?_
  refine AL.step0 rfl rfl (by exact AStepD.store' (k := 134) (cs := zS.cs (.v (.slice none 0 0))) (ys := s.cs (vecA s.known)) (zs := s.cs (vecA s.known)) tok rfl rfl (by rw [← zS_zero]; exact AHeap.get_new_same _ _) rfl rfl (Stt.cs_one _ rfl) rfl hcs rfl (by rw [zS_ok.fc]; omega) (over_all (by rw [zS_ok.fc, hcs]; rfl))) ?_
  refine AL.step rfl rfl rfl qU119 ?_
  refine AL.nil_then (hK _ _ ?_); clear hK K
  refine AW.seq_region (fun K hK => ?_)
  refine AL.step rfl rfl rfl qU122 ?_
  refine AL.step rfl rfl rfl qU25 ?_
  refine AL.step rfl rfl rfl qU122 ?_
  first | refine AL.gstep rfl rfl rfl rfl rfl rfl rfl qU122 ?_ | refine AL.gskip rfl rfl rfl rfl rfl rfl rfl ?_ | refine AL.gnone rfl rfl rfl rfl rfl ?_ | refine AL.gmay rfl rfl rfl rfl rfl rfl qV41 ?_ | refine AL.gmay2 rfl rfl rfl rfl rfl rfl qV42 ?_
  first | refine AL.gstep rfl rfl rfl rfl rfl rfl rfl (by exact AStepD.load_agg (cs := s.cs (vecA s.known)) (zs := s.cs (vecA s.known)) tok rfl rfl rfl qU121 rfl (show _ = 134 from rfl) (by omega) qP42) ?_ | refine AL.gskip rfl rfl rfl rfl rfl rfl rfl ?_ | refine AL.gnone rfl rfl rfl rfl rfl ?_ | refine AL.gmay rfl rfl rfl rfl rfl rfl (fun hb => by (try (apply AStepD.uncond 3 rfl (gpf hb))); exact (by exact AStepD.load_agg (cs := s.cs (vecA s.known)) (zs := s.cs (vecA s.known)) tok rfl rfl rfl qU121 rfl (show _ = 134 from rfl) (by omega) qP42)) ?_ | refine AL.gmay2 rfl rfl rfl rfl rfl rfl (fun _ hb => by (try (apply AStepD.uncond 3 rfl (gpf hb))); exact (by exact AStepD.load_agg (cs := s.cs (vecA s.known)) (zs := s.cs (vecA s.known)) tok rfl rfl rfl qU121 rfl (show _ = 134 from rfl) (by omega) qP42)) ?_
  first | refine AL.gstep rfl rfl rfl rfl rfl rfl rfl (by exact AStepD.callf rfl en15 rfl (textx_calls _ s ok r)) ?_ | refine AL.gskip rfl rfl rfl rfl rfl rfl rfl ?_ | refine AL.gnone rfl rfl rfl rfl rfl ?_ | refine AL.gmay rfl rfl rfl rfl rfl rfl (fun hb => by (try (apply AStepD.uncond 44 rfl (gpf hb))); exact (by exact AStepD.callf rfl en15 rfl (textx_calls _ s ok r))) ?_ | refine AL.gmay2 rfl rfl rfl rfl rfl rfl (fun _ hb => by (try (apply AStepD.uncond 44 rfl (gpf hb))); exact (by exact AStepD.callf rfl en15 rfl (textx_calls _ s ok r))) ?_
  first | refine AL.gstep rfl rfl rfl rfl rfl rfl rfl qU25 ?_ | refine AL.gskip rfl rfl rfl rfl rfl rfl rfl ?_ | refine AL.gnone rfl rfl rfl rfl rfl ?_ | refine AL.gmay rfl rfl rfl rfl rfl rfl (fun hb => by (try (apply AStepD.uncond 43 rfl (gpf hb))); (try (apply AStepD.uncond 45 rfl (gpf hb))); exact qU25) ?_ | refine AL.gmay2 rfl rfl rfl rfl rfl rfl (fun _ hb => by (try (apply AStepD.uncond 43 rfl (gpf hb))); (try (apply AStepD.uncond 45 rfl (gpf hb))); exact qU25) ?_
  refine AL.step rfl rfl rfl qU124 ?_
  refine AL.step rfl rfl rfl qU122 ?_
  first | refine AL.gstep rfl rfl rfl rfl rfl rfl rfl qU122 ?_ | refine AL.gskip rfl rfl rfl rfl rfl rfl rfl ?_ | refine AL.gnone rfl rfl rfl rfl rfl ?_ | refine AL.gmay rfl rfl rfl rfl rfl rfl (fun hb => by (try (apply AStepD.uncond 7 rfl (gpf hb))); exact qU122) ?_ | refine AL.gmay2 rfl rfl rfl rfl rfl rfl (fun _ hb => by (try (apply AStepD.uncond 7 rfl (gpf hb))); exact qU122) ?_
  first | refine AL.gstep rfl rfl rfl rfl rfl rfl rfl qU25 ?_ | refine AL.gskip rfl rfl rfl rfl rfl rfl rfl ?_ | refine AL.gnone rfl rfl rfl rfl rfl ?_ | refine AL.gmay rfl rfl rfl rfl rfl rfl (fun hb => by (try (apply AStepD.uncond 49 rfl (gpf hb))); exact qU25) ?_ | refine AL.gmay2 rfl rfl rfl rfl rfl rfl (fun _ hb => by (try (apply AStepD.uncond 49 rfl (gpf hb))); exact qU25) ?_
  refine AL.step rfl rfl rfl qU124 ?_
  refine AL.step rfl rfl rfl qU122 ?_
  first | refine AL.gstep rfl rfl rfl rfl rfl rfl rfl (by exact AStepD.load_agg (cs := s.cs (vecA s.known)) (zs := s.cs (vecA s.known)) tok rfl rfl rfl qU121 rfl (show _ = 134 from rfl) (by omega) qP42) ?_ | refine AL.gskip rfl rfl rfl rfl rfl rfl rfl ?_ | refine AL.gnone rfl rfl rfl rfl rfl ?_ | refine AL.gmay rfl rfl rfl rfl rfl rfl (fun hb => by (try (apply AStepD.uncond 1 rfl (gpf hb))); exact (by exact AStepD.load_agg (cs := s.cs (vecA s.known)) (zs := s.cs (vecA s.known)) tok rfl rfl rfl qU121 rfl (show _ = 134 from rfl) (by omega) qP42)) ?_ | refine AL.gmay2 rfl rfl rfl rfl rfl rfl (fun _ hb => by (try (apply AStepD.uncond 1 rfl (gpf hb))); exact (by exact AStepD.load_agg (cs := s.cs (vecA s.known)) (zs := s.cs (vecA s.known)) tok rfl rfl rfl qU121 rfl (show _ = 134 from rfl) (by omega) qP42)) ?_
  first | refine AL.gstep rfl rfl rfl rfl rfl rfl rfl (by exact AStepD.load_agg (cs := s.cs (vecA s.known)) (zs := s.cs (vecA s.known)) tok rfl rfl rfl qU121 rfl (show _ = 134 from rfl) (by omega) qP42) ?_ | refine AL.gskip rfl rfl rfl rfl rfl rfl rfl ?_ | refine AL.gnone rfl rfl rfl rfl rfl ?_ | refine AL.gmay rfl rfl rfl rfl rfl rfl (fun hb => by (try (apply AStepD.uncond 6 rfl (gpf hb))); exact (by exact AStepD.load_agg (cs := s.cs (vecA s.known)) (zs := s.cs (vecA s.known)) tok rfl rfl rfl qU121 rfl (show _ = 134 from rfl) (by omega) qP42)) ?_ | refine AL.gmay2 rfl rfl rfl rfl rfl rfl (fun _ hb => by (try (apply AStepD.uncond 6 rfl (gpf hb))); exact (by exact AStepD.load_agg (cs := s.cs (vecA s.known)) (zs := s.cs (vecA s.known)) tok rfl rfl rfl qU121 rfl (show _ = 134 from rfl) (by omega) qP42)) ?_
  first | refine AL.gstep rfl rfl rfl rfl rfl rfl rfl (by exact AStepD.callf rfl en16 rfl (same_calls _ s s ok ok)) ?_ | refine AL.gskip rfl rfl rfl rfl rfl rfl rfl ?_ | refine AL.gnone rfl rfl rfl rfl rfl ?_ | refine AL.gmay rfl rfl rfl rfl rfl rfl (fun hb => by (try (apply AStepD.uncond 53 rfl (gpf hb))); (try (apply AStepD.uncond 54 rfl (gpf hb))); exact (by exact AStepD.callf rfl en16 rfl (same_calls _ s s ok ok))) ?_ | refine AL.gmay2 rfl rfl rfl rfl rfl rfl (fun _ hb => by (try (apply AStepD.uncond 53 rfl (gpf hb))); (try (apply AStepD.uncond 54 rfl (gpf hb))); exact (by exact AStepD.callf rfl en16 rfl (same_calls _ s s ok ok))) ?_
  refine AL.step rfl rfl rfl qU124 ?_
  refine AL.step rfl rfl rfl qU119 ?_
  refine AL.nil_then (hK _ _ ?_); clear hK K
  refine AW.ret (RetQ.mk (.inr rfl) (retA_tmp rfl qU11 retA_nil) ?_)
  rw [decide_eq_true rfl, decide_eq_true rfl, decide_eq_true rfl]; rfl
end Go.Proofs.YtbcanlmpfhkklaaGreatDoor
