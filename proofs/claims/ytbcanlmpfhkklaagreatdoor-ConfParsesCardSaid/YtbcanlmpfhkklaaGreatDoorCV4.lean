/- The law ConfParses. -/
import Derived.Test.YtbcanlmpfhkklaaGreatDoorCX2
import Derived.Test.YtbcanlmpfhkklaaGreatDoorCU
set_option linter.unusedSimpArgs false
set_option linter.unusedVariables false
namespace Go.Proofs.YtbcanlmpfhkklaaGreatDoor
open Go.Ax
open Cel (c)
theorem qV51 {p : Prop} (h : p := by first | exact GW.yes rfl rfl rfl rfl rfl rfl rfl qU134 | exact GW.no rfl rfl rfl rfl rfl rfl rfl | exact GW.none rfl rfl rfl rfl rfl | exact GW.may rfl rfl rfl rfl rfl rfl (fun hb => by (repeat (first | apply UW.yes rfl (gpf hb) | apply UW.no)); exact UW.nil qU134) | exact GW.may2 rfl rfl rfl rfl rfl rfl (fun _ hb => by (repeat (first | apply UW.yes rfl (gpf hb) | apply UW.no)); exact UW.nil qU134)) : p := h
theorem qV52 {p : Prop} (h : p := by exact (fun hb => by (repeat (first | apply UW.yes rfl (gpf hb) | apply UW.no)); exact UW.nil qU25)) : p := h
theorem qV53 {p : Prop} (h : p := by exact (fun _ hb => by (repeat (first | apply UW.yes rfl (gpf hb) | apply UW.no)); exact UW.nil qU25)) : p := h
theorem qV54 {p : Prop} (h : p := by first | exact GW.yes rfl rfl rfl rfl rfl rfl rfl qU25 | exact GW.no rfl rfl rfl rfl rfl rfl rfl | exact GW.none rfl rfl rfl rfl rfl | exact GW.may rfl rfl rfl rfl rfl rfl qV52 | exact GW.may2 rfl rfl rfl rfl rfl rfl qV53) : p := h
set_option linter.unusedSimpArgs false
set_option linter.unusedVariables false
open Cel (c)

set_option maxHeartbeats 4000000 in
theorem parses_law (H : AHeap) (t : List UInt8) : ACalls Tryz.prog 4 [strA t] H (fun r _ => r = .v (.bool true)) := by
  have hcz := zS_ok.fc (vecA zS.known)
  refine ACalls.of_body tok Tryz.func4 rfl Tryz.ntmps4 (Nat.le_of_ble_eq_true rfl) (fun base => ?_)
  refine rg fun K hK => ?_
  refine st qU133 <| nt (hK _ _ ?_)
  clear hK K
  refine AW.seq_k (fun K1 hK1 => ?_)
  refine rg fun K hK => ?_
  refine st (by exact SD.s rfl rfl rfl (by exact AStepD.callf rfl en9 rfl (anchor_calls _))) <| st (by exact SD.s rfl rfl rfl (by first | exact AStepD.not rfl rfl | exact AStepD.neg rfl rfl (by first | exact IntWalk.i64_in _ (by omega) | exact IntWalk.i64_in _ (by simp only [Bool.or_eq_true, Bool.and_eq_true, Bool.or_eq_false_iff, Bool.and_eq_false_iff, Bool.not_eq_true', Bool.not_eq_false', decide_eq_true_eq, decide_eq_false_iff_not, Int.not_lt, Int.not_le, beq_iff_eq] at *; omega) | exact rfl))) <| nt (hK _ _ ?_)
  clear hK K
  refine AW.cond_false rfl rfl (AW.skip ?_)
  refine hK1 _ _ ?_; try clear hK1 K1
  refine AW.seq_k (fun K2 hK2 => ?_)
  refine rg fun K hK => ?_
  refine st qU136 <| st (by exact SD.s rfl rfl rfl (by exact strA_len tok rfl rfl rfl rfl)) <| st (by exact SD.s rfl rfl rfl qX117) <| nt (hK _ _ ?_)
  clear hK K
  refine AW.cond _ rfl (fun hc => ?_) (fun hc => ?_)
  · refine rg fun K hK => ?_
    refine st qU133 <| nt (hK _ _ ?_)
    clear hK K
    exact AW.ret (RetQ.mk (.inr rfl) (retA_tmp rfl qU11 retA_nil) rfl)
  (try simp only [Bool.or_eq_true, Bool.and_eq_true, Bool.or_eq_false_iff, Bool.and_eq_false_iff, Bool.not_eq_true', Bool.not_eq_false', decide_eq_true_eq, decide_eq_false_iff_not, Int.not_lt, Int.not_le] at hc)
  have htl : t.length ≤ 4000 := by omega
  clear hc
  refine AW.skip ?_
  refine hK2 _ _ ?_; try clear hK2 K2
  cases hp : parseP t with
  | none =>
    refine rg fun K hK => ?_
    refine st qU136 <| st (by exact SD.s rfl rfl rfl (by exact AStepD.val (AStepD.callf rfl en14 rfl (parseS_calls _ t (by omega))) (y := .tup [stA zS, .v (.int .i64 60)]) (by rw [hp]; rfl))) <| st qU136 <| st qU27 <| st qU27 <| st qU26 <| st0 (by exact ⟨rfl, rfl, (by exact AStepD.store' (k := 134) (cs := zS.cs (.v (.slice none 0 0))) (ys := zS.cs (vecA zS.known)) (zs := zS.cs (vecA zS.known)) tok rfl rfl (by rw [← zS_zero]; exact AHeap.get_new_same _ _) rfl rfl (Stt.cs_one _ rfl) rfl hcz rfl (by rw [zS_ok.fc]; omega) (over_all (by rw [zS_ok.fc, hcz]; rfl)))⟩) <| st qU133 <| nt (hK _ _ ?_)
    clear hK K
    refine rg fun K hK => ?_
    refine st qU136 <| st (by exact SD.s rfl rfl rfl (by exact AStepD.val (AStepD.callf rfl en17 rfl (parsex_calls _ t (by omega))) (y := .tup [stA zS, .v (.bool false)]) (by rw [hp]; rfl))) <| st qU136 <| st qU27 <| st qU27 <| st qU26 <| st0 (by exact ⟨rfl, rfl, (by exact AStepD.store' (k := 134) (cs := zS.cs (.v (.slice none 0 0))) (ys := zS.cs (vecA zS.known)) (zs := zS.cs (vecA zS.known)) tok rfl rfl (by rw [← zS33]; exact AHeap.get_new_same _ _) rfl rfl (Stt.cs_one _ rfl) rfl hcz rfl (by rw [zS_ok.fc]; omega) (over_all (by rw [zS_ok.fc, hcz]; rfl)))⟩) <| st qU133 <| nt (hK _ _ ?_)
    clear hK K
    refine AW.seq_k (fun K3 hK3 => ?_)
    refine rg fun K hK => ?_
    refine st qU136 <| st (by exact SD.s rfl rfl rfl (by first | exact AStepD.not rfl rfl | exact AStepD.neg rfl rfl (by first | exact IntWalk.i64_in _ (by omega) | exact IntWalk.i64_in _ (by simp only [Bool.or_eq_true, Bool.and_eq_true, Bool.or_eq_false_iff, Bool.and_eq_false_iff, Bool.not_eq_true', Bool.not_eq_false', decide_eq_true_eq, decide_eq_false_iff_not, Int.not_lt, Int.not_le, beq_iff_eq] at *; omega) | exact rfl))) <| nt (hK _ _ ?_)
    clear hK K
    refine AW.cond_true rfl rfl ?_
    refine rg fun K hK => ?_
    refine st qU136 <| st (by exact SD.s rfl rfl rfl qU25) <| st qU136 <| st (GW.p (l := [3]) qV51) <| st (GW.p (l := [29]) qU160) <| st (GW.p (l := [30]) qV54) <| st qU139 <| st qU136 <| st (GW.p (l := [3]) qU163) <| st (GW.p (l := [34]) qU160) <| st (GW.p (l := [35]) qU158) <| st (GW.p (l := [36]) qV54) <| st qU139 <| st qU133 <| nt (hK _ _ ?_)
    clear hK K
    exact AW.ret (RetQ.mk (.inr rfl) (retA_tmp rfl qU11 retA_nil) rfl)
  | some s =>
    obtain ⟨hr, hd⟩ := parse_some hp
    have ok := parse_ok hp
    have r := right_rt hr
    have hcs := ok.fc (vecA s.known)
    have hkl := r.len
    refine rg fun K hK => ?_
    refine st qU136 <| st (by exact SD.s rfl rfl rfl (by exact AStepD.val (AStepD.callf rfl en14 rfl (parseS_calls _ t (by omega))) (y := .tup [stA s, .v (.int .i64 0)]) (by rw [hp]; rfl))) <| st qU136 <| st qU27 <| st qU27 <| st qU26 <| st0 (by exact ⟨rfl, rfl, (by exact AStepD.store' (k := 134) (cs := zS.cs (.v (.slice none 0 0))) (ys := s.cs (vecA s.known)) (zs := s.cs (vecA s.known)) tok rfl rfl (by rw [← zS_zero]; exact AHeap.get_new_same _ _) rfl rfl (Stt.cs_one _ rfl) rfl hcs rfl (by rw [zS_ok.fc]; omega) (over_all (by rw [zS_ok.fc, hcs]; rfl)))⟩) <| st qU133 <| nt (hK _ _ ?_)
    clear hK K
    refine rg fun K hK => ?_
    refine st qU136 <| st (by exact SD.s rfl rfl rfl (by exact AStepD.val (AStepD.callf rfl en17 rfl (parsex_calls _ t (by omega))) (y := .tup [stA s, .v (.bool true)]) (by rw [hp]; rfl))) <| st qU136 <| st qU27 <| st qU27 <| st qU26 <| st0 (by exact ⟨rfl, rfl, (by exact AStepD.store' (k := 134) (cs := zS.cs (.v (.slice none 0 0))) (ys := s.cs (vecA s.known)) (zs := s.cs (vecA s.known)) tok rfl rfl (by rw [← zS33]; exact AHeap.get_new_same _ _) rfl rfl (Stt.cs_one _ rfl) rfl hcs rfl (by rw [zS_ok.fc]; omega) (over_all (by rw [zS_ok.fc, hcs]; rfl)))⟩) <| st qU133 <| nt (hK _ _ ?_)
    clear hK K
    refine AW.seq_k (fun K3 hK3 => ?_)
    refine rg fun K hK => ?_
    refine st qU136 <| st (by exact SD.s rfl rfl rfl (by first | exact AStepD.not rfl rfl | exact AStepD.neg rfl rfl (by first | exact IntWalk.i64_in _ (by omega) | exact IntWalk.i64_in _ (by simp only [Bool.or_eq_true, Bool.and_eq_true, Bool.or_eq_false_iff, Bool.and_eq_false_iff, Bool.not_eq_true', Bool.not_eq_false', decide_eq_true_eq, decide_eq_false_iff_not, Int.not_lt, Int.not_le, beq_iff_eq] at *; omega) | exact rfl))) <| nt (hK _ _ ?_)
    clear hK K
    refine AW.cond_false rfl rfl (AW.skip ?_)
    refine hK3 _ _ ?_; try clear hK3 K3
    refine rg fun K hK => ?_
    refine st (by exact SD.s rfl rfl rfl (by exact AStepD.load_agg (cs := s.cs (vecA s.known)) (zs := s.cs (vecA s.known)) tok rfl rfl rfl qU121 rfl (show _ = 134 from rfl) (by omega) qP42)) <| st (by exact SD.s rfl rfl rfl (by exact AStepD.val (AStepD.callf rfl en11 rfl (statetext_calls _ s ok)) (y := .tup [strA t, .v (.int .i64 0)]) (by rw [if_pos hr, if_pos hr, hd]))) <| st qU136 <| st qU27 <| st qU27 <| st qU133 <| st qU133 <| nt (hK _ _ ?_)
    clear hK K
    refine AW.seq_k (fun K hK => ?_)
    apply AW.draw mixed [_, _, _, _, _, _, _, _, _, _, _, _, _, _, _, _, _, _, _, _] [] [_] [(0, 0), (1, 0), (2, 0), (3, 0), (4, 0), (5, 0), (6, 0), (7, 0), (8, 0), (9, 0), (10, 0), (11, 0), (12, 0), (13, 0), (14, 0), (15, 0), (16, 0), (17, 0), (18, 0), (19, 0)] rfl rfl rfl qP33
    · refine ⟨?_, ?_, ?_, ?_, ?_, ?_, ?_, ?_, ?_, ?_, ?_, ?_, ?_, ?_, ?_, ?_, ?_, ?_, ?_, ?_⟩
      · refine Ob.mk _ [4] 0 rfl rfl (restr_cons qU11 restr_nil) rfl ?_
        simp only [List.getD_cons_zero, List.getD_cons_succ]
        exact GStep.plain rfl qU122
      · refine Ob.mk _ [44] 0 rfl rfl (restr_cons qU11 restr_nil) rfl ?_
        simp only [List.getD_cons_zero, List.getD_cons_succ]
        exact GStep.plain rfl qU25
      · refine Ob.mk _ [45] 0 rfl rfl (restr_cons qU11 restr_nil) rfl ?_
        simp only [List.getD_cons_zero, List.getD_cons_succ]
        exact GStep.plain rfl qU122
      · refine Ob.mk _ [8, 46] 0 rfl rfl (restr_cons qU11 (restr_cons qU11 restr_nil)) rfl ?_
        simp only [List.getD_cons_zero, List.getD_cons_succ]
        first | exact GStep.yes rfl rfl rfl rfl rfl qU122 | exact GStep.no rfl rfl rfl rfl rfl | exact GStep.none rfl rfl rfl | exact GStep.may rfl rfl rfl rfl (fun hb => by (try (apply AStepD.uncond 8 rfl (gpf hb))); exact qU122) | exact GStep.may2 rfl rfl rfl rfl (fun _ hb => by (try (apply AStepD.uncond 8 rfl (gpf hb))); exact qU122)
      · refine Ob.mk _ [47, 46] 0 rfl rfl (restr_cons qU11 (restr_cons qU11 restr_nil)) rfl ?_
        simp only [List.getD_cons_zero, List.getD_cons_succ]
        first | exact GStep.yes rfl rfl rfl rfl rfl qU25 | exact GStep.no rfl rfl rfl rfl rfl | exact GStep.none rfl rfl rfl | exact GStep.may rfl rfl rfl rfl (fun hb => by (try (apply AStepD.uncond 47 rfl (gpf hb))); exact qU25) | exact GStep.may2 rfl rfl rfl rfl (fun _ hb => by (try (apply AStepD.uncond 47 rfl (gpf hb))); exact qU25)
      · refine Ob.mk _ [46, 48] 0 rfl rfl (restr_cons qU11 (restr_cons qU11 restr_nil)) rfl ?_
        simp only [List.getD_cons_zero, List.getD_cons_succ]
        exact GStep.plain rfl qU126
      · refine Ob.mk _ [49] 0 rfl rfl (restr_cons qU11 restr_nil) rfl ?_
        simp only [List.getD_cons_zero, List.getD_cons_succ]
        exact GStep.plain rfl qU122
      · refine Ob.mk _ [7, 50] 0 rfl rfl (restr_cons qU11 (restr_cons qU11 restr_nil)) rfl ?_
        simp only [List.getD_cons_zero, List.getD_cons_succ]
        first | exact GStep.yes rfl rfl rfl rfl rfl qU122 | exact GStep.no rfl rfl rfl rfl rfl | exact GStep.none rfl rfl rfl | exact GStep.may rfl rfl rfl rfl (fun hb => by (try (apply AStepD.uncond 7 rfl (gpf hb))); exact qU122) | exact GStep.may2 rfl rfl rfl rfl (fun _ hb => by (try (apply AStepD.uncond 7 rfl (gpf hb))); exact qU122)
      · refine Ob.mk _ [0, 50] 0 rfl rfl (restr_cons qU11 (restr_cons qU11 restr_nil)) rfl ?_
        simp only [List.getD_cons_zero, List.getD_cons_succ]
        first | exact GStep.yes rfl rfl rfl rfl rfl qU122 | exact GStep.no rfl rfl rfl rfl rfl | exact GStep.none rfl rfl rfl | exact GStep.may rfl rfl rfl rfl (fun hb => by (try (apply AStepD.uncond 0 rfl (gpf hb))); exact qU122) | exact GStep.may2 rfl rfl rfl rfl (fun _ hb => by (try (apply AStepD.uncond 0 rfl (gpf hb))); exact qU122)
      · refine Ob.mk _ [51, 52, 50] 0 rfl rfl (restr_cons qU11 (restr_cons qU11 (restr_cons qU11 restr_nil))) rfl ?_
        simp only [List.getD_cons_zero, List.getD_cons_succ]
        first | exact GStep.yes rfl rfl rfl rfl rfl qU25 | exact GStep.no rfl rfl rfl rfl rfl | exact GStep.none rfl rfl rfl | exact GStep.may rfl rfl rfl rfl (fun hb => by (try (apply AStepD.uncond 51 rfl (gpf hb))); (try (apply AStepD.uncond 52 rfl (gpf hb))); exact qU25) | exact GStep.may2 rfl rfl rfl rfl (fun _ hb => by (try (apply AStepD.uncond 51 rfl (gpf hb))); (try (apply AStepD.uncond 52 rfl (gpf hb))); exact qU25)
      · refine Ob.mk _ [50, 53] 0 rfl rfl (restr_cons qU11 (restr_cons qU11 restr_nil)) rfl ?_
        simp only [List.getD_cons_zero, List.getD_cons_succ]
        exact GStep.plain rfl qU126
      · refine Ob.mk _ [54] 0 rfl rfl (restr_cons qU11 restr_nil) rfl ?_
        simp only [List.getD_cons_zero, List.getD_cons_succ]
        exact GStep.plain rfl qU122
      · refine Ob.mk _ [3, 55] 0 rfl rfl (restr_cons qU11 (restr_cons qU11 restr_nil)) rfl ?_
        simp only [List.getD_cons_zero, List.getD_cons_succ]
        first | exact GStep.yes rfl rfl rfl rfl rfl (by exact AStepD.load_agg (cs := s.cs (vecA s.known)) (zs := s.cs (vecA s.known)) tok rfl rfl rfl qU121 rfl (show _ = 134 from rfl) (by omega) qP42) | exact GStep.no rfl rfl rfl rfl rfl | exact GStep.none rfl rfl rfl | exact GStep.may rfl rfl rfl rfl (fun hb => by (try (apply AStepD.uncond 3 rfl (gpf hb))); exact (by exact AStepD.load_agg (cs := s.cs (vecA s.known)) (zs := s.cs (vecA s.known)) tok rfl rfl rfl qU121 rfl (show _ = 134 from rfl) (by omega) qP42)) | exact GStep.may2 rfl rfl rfl rfl (fun _ hb => by (try (apply AStepD.uncond 3 rfl (gpf hb))); exact (by exact AStepD.load_agg (cs := s.cs (vecA s.known)) (zs := s.cs (vecA s.known)) tok rfl rfl rfl qU121 rfl (show _ = 134 from rfl) (by omega) qP42))
      · refine Ob.mk _ [56, 55] 0 rfl rfl (restr_cons qU11 (restr_cons qU11 restr_nil)) rfl ?_
        simp only [List.getD_cons_zero, List.getD_cons_succ]
        first | exact GStep.yes rfl rfl rfl rfl rfl (by exact AStepD.callf rfl en10 rfl (made_calls _ s ok (by omega))) | exact GStep.no rfl rfl rfl rfl rfl | exact GStep.none rfl rfl rfl | exact GStep.may rfl rfl rfl rfl (fun hb => by (try (apply AStepD.uncond 56 rfl (gpf hb))); exact (by exact AStepD.callf rfl en10 rfl (made_calls _ s ok (by omega)))) | exact GStep.may2 rfl rfl rfl rfl (fun _ hb => by (try (apply AStepD.uncond 56 rfl (gpf hb))); exact (by exact AStepD.callf rfl en10 rfl (made_calls _ s ok (by omega))))
      · refine Ob.mk _ [57, 55] 0 rfl rfl (restr_cons qU11 (restr_cons qU11 restr_nil)) rfl ?_
        simp only [List.getD_cons_zero, List.getD_cons_succ]
        first | exact GStep.yes rfl rfl rfl rfl rfl (by exact AStepD.callf rfl en15 rfl (textx_calls _ s ok r)) | exact GStep.no rfl rfl rfl rfl rfl | exact GStep.none rfl rfl rfl | exact GStep.may rfl rfl rfl rfl (fun hb => by (try (apply AStepD.uncond 57 rfl (gpf hb))); exact (by exact AStepD.callf rfl en15 rfl (textx_calls _ s ok r))) | exact GStep.may2 rfl rfl rfl rfl (fun _ hb => by (try (apply AStepD.uncond 57 rfl (gpf hb))); exact (by exact AStepD.callf rfl en15 rfl (textx_calls _ s ok r)))
      · refine Ob.mk _ [5, 55] 0 rfl rfl (restr_cons qU11 (restr_cons qU11 restr_nil)) rfl ?_
        simp only [List.getD_cons_zero, List.getD_cons_succ]
        first | exact GStep.yes rfl rfl rfl rfl rfl (by exact AStepD.load_agg (cs := s.cs (vecA s.known)) (zs := s.cs (vecA s.known)) tok rfl rfl rfl qU121 rfl (show _ = 134 from rfl) (by omega) qP42) | exact GStep.no rfl rfl rfl rfl rfl | exact GStep.none rfl rfl rfl | exact GStep.may rfl rfl rfl rfl (fun hb => by (try (apply AStepD.uncond 5 rfl (gpf hb))); exact (by exact AStepD.load_agg (cs := s.cs (vecA s.known)) (zs := s.cs (vecA s.known)) tok rfl rfl rfl qU121 rfl (show _ = 134 from rfl) (by omega) qP42)) | exact GStep.may2 rfl rfl rfl rfl (fun _ hb => by (try (apply AStepD.uncond 5 rfl (gpf hb))); exact (by exact AStepD.load_agg (cs := s.cs (vecA s.known)) (zs := s.cs (vecA s.known)) tok rfl rfl rfl qU121 rfl (show _ = 134 from rfl) (by omega) qP42))
      · refine Ob.mk _ [59, 55] 0 rfl rfl (restr_cons qU11 (restr_cons qU11 restr_nil)) rfl ?_
        simp only [List.getD_cons_zero, List.getD_cons_succ]
        first | exact GStep.yes rfl rfl rfl rfl rfl (by exact AStepD.callf rfl en15 rfl (textx_calls _ s ok r)) | exact GStep.no rfl rfl rfl rfl rfl | exact GStep.none rfl rfl rfl | exact GStep.may rfl rfl rfl rfl (fun hb => by (try (apply AStepD.uncond 59 rfl (gpf hb))); exact (by exact AStepD.callf rfl en15 rfl (textx_calls _ s ok r))) | exact GStep.may2 rfl rfl rfl rfl (fun _ hb => by (try (apply AStepD.uncond 59 rfl (gpf hb))); exact (by exact AStepD.callf rfl en15 rfl (textx_calls _ s ok r)))
      · refine Ob.mk _ [58, 60, 55] 0 rfl rfl (restr_cons qU11 (restr_cons qU11 (restr_cons qU11 restr_nil))) rfl ?_
        simp only [List.getD_cons_zero, List.getD_cons_succ]
        first | exact GStep.yes rfl rfl rfl rfl rfl qU25 | exact GStep.no rfl rfl rfl rfl rfl | exact GStep.none rfl rfl rfl | exact GStep.may rfl rfl rfl rfl (fun hb => by (try (apply AStepD.uncond 58 rfl (gpf hb))); (try (apply AStepD.uncond 60 rfl (gpf hb))); exact qU25) | exact GStep.may2 rfl rfl rfl rfl (fun _ hb => by (try (apply AStepD.uncond 58 rfl (gpf hb))); (try (apply AStepD.uncond 60 rfl (gpf hb))); exact qU25)
      · refine Ob.mk _ [55, 61] 0 rfl rfl (restr_cons qU11 (restr_cons qU11 restr_nil)) rfl ?_
        simp only [List.getD_cons_zero, List.getD_cons_succ]
        exact GStep.plain rfl qU126
      · refine Ob.mk _ [62] 0 rfl rfl (restr_cons qU11 restr_nil) rfl ?_
        simp only [List.getD_cons_zero, List.getD_cons_succ]
        exact GStep.plain rfl qU119
    refine hK _ _ ?_; clear hK K
    refine AW.frame qP38 qP39 ?_
    refine AW.ret (RetQ.mk (.inr rfl) (retA_tmp rfl qU11 retA_nil) ?_)
    simp only [decide_true]; rfl
end Go.Proofs.YtbcanlmpfhkklaaGreatDoor
