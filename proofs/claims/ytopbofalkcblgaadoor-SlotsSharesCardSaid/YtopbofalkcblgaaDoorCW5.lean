/- The anchor, and the laws SlotsTexts, SlotsParses. -/
import Derived.Test.YtopbofalkcblgaaDoorCW4
set_option linter.unusedSimpArgs false
set_option linter.unusedVariables false
namespace Go.Proofs.YtopbofalkcblgaaDoor
open Go.Ax
open Cel (c)
theorem qS11 {p : Prop} (h : p := by exact (fun hb => by (try (apply AStepD.uncond 3 rfl (gpf hb))); exact qR212)) : p := h
theorem qS12 {p : Prop} (h : p := by exact (fun _ hb => by (try (apply AStepD.uncond 3 rfl (gpf hb))); exact qR212)) : p := h
set_option linter.unusedSimpArgs false
set_option linter.unusedVariables false

theorem row_zero : (AV.ofV (tt 30).zero).length = 64 := by rw [flF_zero]; exact row_len _
theorem anchor_facts : ofE [0, 1, 2, 5] = 0 ∧ textS (ofS [0, 1, 2, 5]) = [48, 45, 50, 32, 53] ∧ parseE [49, 32, 50] = 60 ∧ shareE 3 1 = 0 ∧ textS (shareS 3 1) = [50, 49, 45, 52, 49] := by
  decide +kernel
theorem anchor_calls (H : AHeap) : ACalls Tryd.prog 10 [] H (fun r H' => r = .v (.bool true) ∧ H' = H) := by
  obtain ⟨a1, a2, a3, a4, a5⟩ := anchor_facts
  refine ACalls.quiet_keep ?_ (.v _)
  refine ACalls.of_body tok Tryd.func10 rfl Tryd.ntmps10 (Nat.le_of_ble_eq_true rfl) (fun base => ?_)
  refine AW.seq_region (fun K hK => ?_)
  refine AL.step rfl rfl rfl qR211 ?_
  refine AL.nil_then (hK _ _ ?_); clear hK K
  refine AW.seq_region (fun K hK => ?_)
  refine AL.step rfl rfl rfl (by exact AStepD.vec_flat (l := ([0, 1, 2, 5] : List Int)) (AStepD.buildSlice_seq tok rfl rfl rfl rfl (show _ = 1 from rfl) (map_p qR21 (map_p qR21 (map_p qR21 (map_p qR21 map_n)))) rfl (by decide) (by decide) rfl qR23 qR22) rfl rfl rfl) ?_
  refine AL.step rfl rfl rfl (by exact AStepD.callf rfl en18 rfl (of_calls _ [0, 1, 2, 5] (by decide))) ?_
  refine AL.step rfl rfl rfl qR212 ?_
  refine AL.step rfl rfl rfl qR51 ?_
  refine AL.step rfl rfl rfl qR51 ?_
  refine AL.step rfl rfl rfl qR211 ?_
  refine AL.step rfl rfl rfl qR211 ?_
  refine AL.nil_then (hK _ _ ?_); clear hK K
  refine AW.seq_region (fun K hK => ?_)
  refine AL.step rfl rfl rfl (by exact AStepD.callf rfl en11 rfl (parse_calls _ [49, 32, 50] (by decide))) ?_
  refine AL.step rfl rfl rfl qR212 ?_
  refine AL.step rfl rfl rfl qR51 ?_
  refine AL.step rfl rfl rfl qR51 ?_
  refine AL.step rfl rfl rfl qR211 ?_
  refine AL.step rfl rfl rfl qR211 ?_
  refine AL.nil_then (hK _ _ ?_); clear hK K
  refine AW.seq_region (fun K hK => ?_)
  refine AL.step rfl rfl rfl (by exact AStepD.callf rfl en21 rfl (share_calls _ 3 1)) ?_
  refine AL.step rfl rfl rfl qR212 ?_
  refine AL.step rfl rfl rfl qR51 ?_
  refine AL.step rfl rfl rfl qR51 ?_
  refine AL.step rfl rfl rfl qR211 ?_
  refine AL.step rfl rfl rfl qR211 ?_
  refine AL.nil_then (hK _ _ ?_); clear hK K
  refine AW.seq_region (fun K hK => ?_)
  refine AL.step rfl rfl rfl qR212 ?_
  refine AL.step rfl rfl rfl (by exact AStepD.bool (AStepD.eql rfl rfl rfl) (c := true) (by rw [a1]; rfl)) ?_
  refine AL.step rfl rfl rfl qR212 ?_
  first | refine AL.gstep rfl rfl rfl rfl rfl rfl rfl qR212 ?_ | refine AL.gskip rfl rfl rfl rfl rfl rfl rfl ?_ | refine AL.gnone rfl rfl rfl rfl rfl ?_ | refine AL.gmay rfl rfl rfl rfl rfl rfl qR219 ?_ | refine AL.gmay2 rfl rfl rfl rfl rfl rfl qR220 ?_
  first | refine AL.gstep rfl rfl rfl rfl rfl rfl rfl (by exact AStepD.callf rfl en12 rfl (text_calls _ (ofS [0, 1, 2, 5]))) ?_ | refine AL.gskip rfl rfl rfl rfl rfl rfl rfl ?_ | refine AL.gnone rfl rfl rfl rfl rfl ?_ | refine AL.gmay rfl rfl rfl rfl rfl rfl (fun hb => by (try (apply AStepD.uncond 23 rfl (gpf hb))); exact (by exact AStepD.callf rfl en12 rfl (text_calls _ (ofS [0, 1, 2, 5])))) ?_ | refine AL.gmay2 rfl rfl rfl rfl rfl rfl (fun _ hb => by (try (apply AStepD.uncond 23 rfl (gpf hb))); exact (by exact AStepD.callf rfl en12 rfl (text_calls _ (ofS [0, 1, 2, 5])))) ?_
  first | refine AL.gstep rfl rfl rfl rfl rfl rfl rfl (by exact AStepD.bool (AStepD.str_eql rfl rfl rfl) (c := true) (by rw [a2]; rfl)) ?_ | refine AL.gskip rfl rfl rfl rfl rfl rfl rfl ?_ | refine AL.gnone rfl rfl rfl rfl rfl ?_ | refine AL.gmay rfl rfl rfl rfl rfl rfl (fun hb => by (try (apply AStepD.uncond 24 rfl (gpf hb))); exact (by exact AStepD.bool (AStepD.str_eql rfl rfl rfl) (c := true) (by rw [a2]; rfl))) ?_ | refine AL.gmay2 rfl rfl rfl rfl rfl rfl (fun _ hb => by (try (apply AStepD.uncond 24 rfl (gpf hb))); exact (by exact AStepD.bool (AStepD.str_eql rfl rfl rfl) (c := true) (by rw [a2]; rfl))) ?_
  refine AL.step rfl rfl rfl qR216 ?_
  refine AL.step rfl rfl rfl qR212 ?_
  first | refine AL.gstep rfl rfl rfl rfl rfl rfl rfl qR212 ?_ | refine AL.gskip rfl rfl rfl rfl rfl rfl rfl ?_ | refine AL.gnone rfl rfl rfl rfl rfl ?_ | refine AL.gmay rfl rfl rfl rfl rfl rfl qR46 ?_ | refine AL.gmay2 rfl rfl rfl rfl rfl rfl qR47 ?_
  first | refine AL.gstep rfl rfl rfl rfl rfl rfl rfl (by exact AStepD.bool (AStepD.eql rfl rfl rfl) (c := true) (by rw [a3]; rfl)) ?_ | refine AL.gskip rfl rfl rfl rfl rfl rfl rfl ?_ | refine AL.gnone rfl rfl rfl rfl rfl ?_ | refine AL.gmay rfl rfl rfl rfl rfl rfl (fun hb => by (try (apply AStepD.uncond 28 rfl (gpf hb))); exact (by exact AStepD.bool (AStepD.eql rfl rfl rfl) (c := true) (by rw [a3]; rfl))) ?_ | refine AL.gmay2 rfl rfl rfl rfl rfl rfl (fun _ hb => by (try (apply AStepD.uncond 28 rfl (gpf hb))); exact (by exact AStepD.bool (AStepD.eql rfl rfl rfl) (c := true) (by rw [a3]; rfl))) ?_
  refine AL.step rfl rfl rfl qR216 ?_
  refine AL.step rfl rfl rfl qR212 ?_
  first | refine AL.gstep rfl rfl rfl rfl rfl rfl rfl qR212 ?_ | refine AL.gskip rfl rfl rfl rfl rfl rfl rfl ?_ | refine AL.gnone rfl rfl rfl rfl rfl ?_ | refine AL.gmay rfl rfl rfl rfl rfl rfl (fun hb => by (try (apply AStepD.uncond 6 rfl (gpf hb))); exact qR212) ?_ | refine AL.gmay2 rfl rfl rfl rfl rfl rfl (fun _ hb => by (try (apply AStepD.uncond 6 rfl (gpf hb))); exact qR212) ?_
  first | refine AL.gstep rfl rfl rfl rfl rfl rfl rfl (by exact AStepD.bool (AStepD.eql rfl rfl rfl) (c := true) (by rw [a4]; rfl)) ?_ | refine AL.gskip rfl rfl rfl rfl rfl rfl rfl ?_ | refine AL.gnone rfl rfl rfl rfl rfl ?_ | refine AL.gmay rfl rfl rfl rfl rfl rfl (fun hb => by (try (apply AStepD.uncond 32 rfl (gpf hb))); exact (by exact AStepD.bool (AStepD.eql rfl rfl rfl) (c := true) (by rw [a4]; rfl))) ?_ | refine AL.gmay2 rfl rfl rfl rfl rfl rfl (fun _ hb => by (try (apply AStepD.uncond 32 rfl (gpf hb))); exact (by exact AStepD.bool (AStepD.eql rfl rfl rfl) (c := true) (by rw [a4]; rfl))) ?_
  refine AL.step rfl rfl rfl qR216 ?_
  refine AL.step rfl rfl rfl qR212 ?_
  first | refine AL.gstep rfl rfl rfl rfl rfl rfl rfl qR212 ?_ | refine AL.gskip rfl rfl rfl rfl rfl rfl rfl ?_ | refine AL.gnone rfl rfl rfl rfl rfl ?_ | refine AL.gmay rfl rfl rfl rfl rfl rfl qR41 ?_ | refine AL.gmay2 rfl rfl rfl rfl rfl rfl qR42 ?_
  first | refine AL.gstep rfl rfl rfl rfl rfl rfl rfl (by exact AStepD.callf rfl en12 rfl (text_calls _ (shareS 3 1))) ?_ | refine AL.gskip rfl rfl rfl rfl rfl rfl rfl ?_ | refine AL.gnone rfl rfl rfl rfl rfl ?_ | refine AL.gmay rfl rfl rfl rfl rfl rfl (fun hb => by (try (apply AStepD.uncond 36 rfl (gpf hb))); exact (by exact AStepD.callf rfl en12 rfl (text_calls _ (shareS 3 1)))) ?_ | refine AL.gmay2 rfl rfl rfl rfl rfl rfl (fun _ hb => by (try (apply AStepD.uncond 36 rfl (gpf hb))); exact (by exact AStepD.callf rfl en12 rfl (text_calls _ (shareS 3 1)))) ?_
  first | refine AL.gstep rfl rfl rfl rfl rfl rfl rfl (by exact AStepD.bool (AStepD.str_eql rfl rfl rfl) (c := true) (by rw [a5]; rfl)) ?_ | refine AL.gskip rfl rfl rfl rfl rfl rfl rfl ?_ | refine AL.gnone rfl rfl rfl rfl rfl ?_ | refine AL.gmay rfl rfl rfl rfl rfl rfl (fun hb => by (try (apply AStepD.uncond 37 rfl (gpf hb))); exact (by exact AStepD.bool (AStepD.str_eql rfl rfl rfl) (c := true) (by rw [a5]; rfl))) ?_ | refine AL.gmay2 rfl rfl rfl rfl rfl rfl (fun _ hb => by (try (apply AStepD.uncond 37 rfl (gpf hb))); exact (by exact AStepD.bool (AStepD.str_eql rfl rfl rfl) (c := true) (by rw [a5]; rfl))) ?_
  refine AL.step rfl rfl rfl qR216 ?_
  refine AL.step rfl rfl rfl qR211 ?_
  refine AL.nil_then (hK _ _ ?_); clear hK K
  refine AW.ret (RetQ.mk (.inr rfl) (retA_tmp rfl qR21 retA_nil) ⟨rfl, qR25⟩)

theorem texts_law (H : AHeap) (s : BitVec 64) : ACalls Tryd.prog 3 [u64A s] H (fun r _ => r = .v (.bool true)) := by
  refine ACalls.of_body tok Tryd.func3 rfl Tryd.ntmps3 (Nat.le_of_ble_eq_true rfl) (fun base => ?_)
  refine AW.seq_region (fun K hK => ?_)
  refine AL.step rfl rfl rfl qR211 ?_
  refine AL.nil_then (hK _ _ ?_); clear hK K
  refine AW.seq_k (fun K1 hK1 => ?_)
  refine AW.seq_region (fun K hK => ?_)
  refine AL.step rfl rfl rfl (by exact AStepD.callf rfl en10 rfl (anchor_calls _)) ?_
  refine AL.step rfl rfl rfl (by first | exact AStepD.not rfl rfl | exact AStepD.neg rfl rfl (by first | exact IntWalk.i64_in _ (by omega) | exact IntWalk.i64_in _ (by simp only [Bool.or_eq_true, Bool.and_eq_true, Bool.or_eq_false_iff, Bool.and_eq_false_iff, Bool.not_eq_true', Bool.not_eq_false', decide_eq_true_eq, decide_eq_false_iff_not, Int.not_lt, Int.not_le, beq_iff_eq] at *; omega) | exact rfl)) ?_
  refine AL.nil_then (hK _ _ ?_); clear hK K
  refine AW.cond_false rfl rfl (AW.skip ?_)
  refine hK1 _ _ ?_; try clear hK1 K1
  have hp : parseS (textS s) = s ∧ parseE (textS s) = 0 := by rw [parseS, parseE, parse_text]; exact ⟨rfl, rfl⟩
  have hl := textS_len s
  refine AW.seq_region (fun K hK => ?_)
  refine AL.step rfl rfl rfl qR212 ?_
  refine AL.step rfl rfl rfl (by exact AStepD.callf rfl en12 rfl (text_calls _ s)) ?_
  refine AL.step rfl rfl rfl (by exact AStepD.callf rfl en11 rfl (parse_calls _ (textS s) (by omega))) ?_
  refine AL.step rfl rfl rfl qR212 ?_
  refine AL.step rfl rfl rfl qR51 ?_
  refine AL.step rfl rfl rfl qR51 ?_
  refine AL.step rfl rfl rfl qR211 ?_
  refine AL.step rfl rfl rfl qR211 ?_
  refine AL.nil_then (hK _ _ ?_); clear hK K
  refine AW.seq_region (fun K hK => ?_)
  refine AL.step rfl rfl rfl qR212 ?_
  refine AL.step rfl rfl rfl (by exact AStepD.callf rfl en12 rfl (text_calls _ s)) ?_
  refine AL.step rfl rfl rfl qR212 ?_
  refine AL.step rfl rfl rfl (by exact AStepD.callf rfl en14 rfl (flags_calls _ s)) ?_
  refine AL.step rfl rfl rfl (by exact AStepD.callf rfl en13 rfl (reftext_calls _ s)) ?_
  refine AL.step rfl rfl rfl (by exact AStepD.bool (AStepD.str_eql rfl rfl rfl) (c := true) (by simp)) ?_
  refine AL.step rfl rfl rfl qR212 ?_
  first | refine AL.gstep rfl rfl rfl rfl rfl rfl rfl qR212 ?_ | refine AL.gskip rfl rfl rfl rfl rfl rfl rfl ?_ | refine AL.gnone rfl rfl rfl rfl rfl ?_ | refine AL.gmay rfl rfl rfl rfl rfl rfl qR46 ?_ | refine AL.gmay2 rfl rfl rfl rfl rfl rfl qR47 ?_
  first | refine AL.gstep rfl rfl rfl rfl rfl rfl rfl (by exact AStepD.bool (AStepD.eql rfl rfl rfl) (c := true) (by rw [hp.2]; rfl)) ?_ | refine AL.gskip rfl rfl rfl rfl rfl rfl rfl ?_ | refine AL.gnone rfl rfl rfl rfl rfl ?_ | refine AL.gmay rfl rfl rfl rfl rfl rfl (fun hb => by (try (apply AStepD.uncond 20 rfl (gpf hb))); exact (by exact AStepD.bool (AStepD.eql rfl rfl rfl) (c := true) (by rw [hp.2]; rfl))) ?_ | refine AL.gmay2 rfl rfl rfl rfl rfl rfl (fun _ hb => by (try (apply AStepD.uncond 20 rfl (gpf hb))); exact (by exact AStepD.bool (AStepD.eql rfl rfl rfl) (c := true) (by rw [hp.2]; rfl))) ?_
  refine AL.step rfl rfl rfl qR216 ?_
  refine AL.step rfl rfl rfl qR212 ?_
  first | refine AL.gstep rfl rfl rfl rfl rfl rfl rfl qR212 ?_ | refine AL.gskip rfl rfl rfl rfl rfl rfl rfl ?_ | refine AL.gnone rfl rfl rfl rfl rfl ?_ | refine AL.gmay rfl rfl rfl rfl rfl rfl qS11 ?_ | refine AL.gmay2 rfl rfl rfl rfl rfl rfl qS12 ?_
  first | refine AL.gstep rfl rfl rfl rfl rfl rfl rfl qR212 ?_ | refine AL.gskip rfl rfl rfl rfl rfl rfl rfl ?_ | refine AL.gnone rfl rfl rfl rfl rfl ?_ | refine AL.gmay rfl rfl rfl rfl rfl rfl qR221 ?_ | refine AL.gmay2 rfl rfl rfl rfl rfl rfl qR222 ?_
  first | refine AL.gstep rfl rfl rfl rfl rfl rfl rfl (by exact AStepD.bool (AStepD.eql rfl rfl rfl) (c := true) (by rw [hp.1]; simp)) ?_ | refine AL.gskip rfl rfl rfl rfl rfl rfl rfl ?_ | refine AL.gnone rfl rfl rfl rfl rfl ?_ | refine AL.gmay rfl rfl rfl rfl rfl rfl (fun hb => by (try (apply AStepD.uncond 24 rfl (gpf hb))); (try (apply AStepD.uncond 25 rfl (gpf hb))); exact (by exact AStepD.bool (AStepD.eql rfl rfl rfl) (c := true) (by rw [hp.1]; simp))) ?_ | refine AL.gmay2 rfl rfl rfl rfl rfl rfl (fun _ hb => by (try (apply AStepD.uncond 24 rfl (gpf hb))); (try (apply AStepD.uncond 25 rfl (gpf hb))); exact (by exact AStepD.bool (AStepD.eql rfl rfl rfl) (c := true) (by rw [hp.1]; simp))) ?_
  refine AL.step rfl rfl rfl qR216 ?_
  refine AL.step rfl rfl rfl qR211 ?_
  refine AL.nil_then (hK _ _ ?_); clear hK K
  exact AW.ret (RetQ.mk (.inr rfl) (retA_tmp rfl qR21 retA_nil) rfl)

theorem parses_law (H : AHeap) (l : List UInt8) : ACalls Tryd.prog 4 [strA l] H (fun r _ => r = .v (.bool true)) := by
  refine ACalls.of_body tok Tryd.func4 rfl Tryd.ntmps4 (Nat.le_of_ble_eq_true rfl) (fun base => ?_)
  refine AW.seq_region (fun K hK => ?_)
  refine AL.step rfl rfl rfl qR211 ?_
  refine AL.nil_then (hK _ _ ?_); clear hK K
  refine AW.seq_k (fun K1 hK1 => ?_)
  refine AW.seq_region (fun K hK => ?_)
  refine AL.step rfl rfl rfl (by exact AStepD.callf rfl en10 rfl (anchor_calls _)) ?_
  refine AL.step rfl rfl rfl (by first | exact AStepD.not rfl rfl | exact AStepD.neg rfl rfl (by first | exact IntWalk.i64_in _ (by omega) | exact IntWalk.i64_in _ (by simp only [Bool.or_eq_true, Bool.and_eq_true, Bool.or_eq_false_iff, Bool.and_eq_false_iff, Bool.not_eq_true', Bool.not_eq_false', decide_eq_true_eq, decide_eq_false_iff_not, Int.not_lt, Int.not_le, beq_iff_eq] at *; omega) | exact rfl)) ?_
  refine AL.nil_then (hK _ _ ?_); clear hK K
  refine AW.cond_false rfl rfl (AW.skip ?_)
  refine hK1 _ _ ?_; try clear hK1 K1
  refine AW.seq_k (fun K2 hK2 => ?_)
  refine AW.seq_region (fun K hK => ?_)
  refine AL.step rfl rfl rfl qR212 ?_
  refine AL.step rfl rfl rfl (by exact strA_len tok rfl rfl rfl rfl) ?_
  refine AL.step rfl rfl rfl qR414 ?_
  refine AL.nil_then (hK _ _ ?_); clear hK K
  refine AW.cond _ rfl (fun hc => ?_) (fun hc => ?_)
  · refine AW.seq_region (fun K hK => ?_)
    refine AL.step rfl rfl rfl qR211 ?_
    refine AL.nil_then (hK _ _ ?_); clear hK K
    exact AW.ret (RetQ.mk (.inr rfl) (retA_tmp rfl qR21 retA_nil) rfl)
  have hl : l.length ≤ 1000000 := by
    have := of_decide_eq_false hc
    omega
  clear hc
  refine AW.skip ?_
  refine hK2 _ _ ?_; try clear hK2 K2
  refine AW.seq_region (fun K hK => ?_)
  refine AL.step rfl rfl rfl qR212 ?_
  refine AL.step rfl rfl rfl (by exact AStepD.callf rfl en11 rfl (parse_calls _ l hl)) ?_
  refine AL.step rfl rfl rfl qR212 ?_
  refine AL.step rfl rfl rfl qR51 ?_
  refine AL.step rfl rfl rfl qR51 ?_
  refine AL.step rfl rfl rfl qR211 ?_
  refine AL.step rfl rfl rfl qR211 ?_
  refine AL.nil_then (hK _ _ ?_); clear hK K
  refine AW.seq_region (fun K hK => ?_)
  refine AL.step rfl rfl rfl qR212 ?_
  refine AL.step rfl rfl rfl (by exact AStepD.callf rfl en15 rfl (refparse_calls _ l hl)) ?_
  refine AL.step rfl rfl rfl qR212 ?_
  refine AL.step rfl rfl rfl qR51 ?_
  refine AL.step rfl rfl rfl qR51 ?_
  refine AL.step rfl rfl rfl qR31 ?_
  refine AL.step0 rfl rfl (by first | exact AStepD.store_row (k := 64) tok rfl rfl qR214 rfl rfl rfl (by first | with_reducible assumption | exact row_len _ | exact row_zero) (by first | with_reducible assumption | exact row_len _ | exact row_zero) | exact AStepD.store' tok rfl rfl qR214 qR21 qR35 qR22 rfl qR21 rfl qR36 qR37) ?_
  refine AL.step rfl rfl rfl qR211 ?_
  refine AL.nil_then (hK _ _ ?_); clear hK K
  refine AW.seq_k (fun K3 hK3 => ?_)
  refine AW.seq_region (fun K hK => ?_)
  refine AL.step rfl rfl rfl qR212 ?_
  refine AL.step rfl rfl rfl (by first | exact AStepD.not rfl rfl | exact AStepD.neg rfl rfl (by first | exact IntWalk.i64_in _ (by omega) | exact IntWalk.i64_in _ (by simp only [Bool.or_eq_true, Bool.and_eq_true, Bool.or_eq_false_iff, Bool.and_eq_false_iff, Bool.not_eq_true', Bool.not_eq_false', decide_eq_true_eq, decide_eq_false_iff_not, Int.not_lt, Int.not_le, beq_iff_eq] at *; omega) | exact rfl)) ?_
  refine AL.nil_then (hK _ _ ?_); clear hK K
  refine AW.cond _ rfl (fun hc => ?_) (fun hc => ?_)
  · have hno : parseE l = 60 ∧ parseS l = 0#64 := by
      cases h : parseO l with
      | none => rw [parseE, parseS, h]; exact ⟨rfl, rfl⟩
      | some s => rw [h] at hc; simp at hc
    refine AW.seq_region (fun K hK => ?_)
    refine AL.step rfl rfl rfl qR212 ?_
    refine AL.step rfl rfl rfl (by exact AStepD.bool (AStepD.eql rfl rfl rfl) (c := true) (by rw [hno.1]; rfl)) ?_
    refine AL.step rfl rfl rfl qR212 ?_
    first | refine AL.gstep rfl rfl rfl rfl rfl rfl rfl qR212 ?_ | refine AL.gskip rfl rfl rfl rfl rfl rfl rfl ?_ | refine AL.gnone rfl rfl rfl rfl rfl ?_ | refine AL.gmay rfl rfl rfl rfl rfl rfl qS11 ?_ | refine AL.gmay2 rfl rfl rfl rfl rfl rfl qS12 ?_
    first | refine AL.gstep rfl rfl rfl rfl rfl rfl rfl (by exact AStepD.bool (AStepD.eql rfl rfl rfl) (c := true) (by rw [hno.2]; rfl)) ?_ | refine AL.gskip rfl rfl rfl rfl rfl rfl rfl ?_ | refine AL.gnone rfl rfl rfl rfl rfl ?_ | refine AL.gmay rfl rfl rfl rfl rfl rfl (fun hb => by (try (apply AStepD.uncond 27 rfl (gpf hb))); exact (by exact AStepD.bool (AStepD.eql rfl rfl rfl) (c := true) (by rw [hno.2]; rfl))) ?_ | refine AL.gmay2 rfl rfl rfl rfl rfl rfl (fun _ hb => by (try (apply AStepD.uncond 27 rfl (gpf hb))); exact (by exact AStepD.bool (AStepD.eql rfl rfl rfl) (c := true) (by rw [hno.2]; rfl))) ?_
    refine AL.step rfl rfl rfl qR216 ?_
    refine AL.step rfl rfl rfl qR211 ?_
    refine AL.nil_then (hK _ _ ?_); clear hK K
    exact AW.ret (RetQ.mk (.inr rfl) (retA_tmp rfl qR21 retA_nil) rfl)
  · obtain ⟨s, hs⟩ : ∃ s, parseO l = some s := by
      cases h : parseO l with
      | none => rw [h] at hc; simp at hc
      | some s => exact ⟨s, rfl⟩
    have hyes : parseE l = 0 ∧ parseS l = s := by rw [parseE, parseS, hs]; exact ⟨rfl, rfl⟩
    have htx := text_of_parse hs
    refine AW.skip ?_
    refine hK3 _ _ ?_; try clear hK3 K3
    refine AW.seq_region (fun K hK => ?_)
    refine AL.step rfl rfl rfl qR212 ?_
    refine AL.step rfl rfl rfl (by exact AStepD.bool (AStepD.eql rfl rfl rfl) (c := true) (by rw [hyes.1]; rfl)) ?_
    refine AL.step rfl rfl rfl qR212 ?_
    first | refine AL.gstep rfl rfl rfl rfl rfl rfl rfl qR212 ?_ | refine AL.gskip rfl rfl rfl rfl rfl rfl rfl ?_ | refine AL.gnone rfl rfl rfl rfl rfl ?_ | refine AL.gmay rfl rfl rfl rfl rfl rfl qS11 ?_ | refine AL.gmay2 rfl rfl rfl rfl rfl rfl qS12 ?_
    first | refine AL.gstep rfl rfl rfl rfl rfl rfl rfl (by first | exact AStepD.load_row tok rfl rfl rfl qR214 rfl (show _ = 64 from rfl) (by first | with_reducible assumption | exact row_len _ | exact row_zero) | exact AStepD.load_cel_ip tok rfl rfl rfl rfl (show _ = 64 from rfl) rfl | exact AStepD.load_agg tok rfl rfl rfl qR214 rfl (show _ = 64 from rfl) qR36 qR39 | exact AStepD.load_agg_ip tok rfl rfl rfl rfl (show _ = 64 from rfl) qR36 qR39) ?_ | refine AL.gskip rfl rfl rfl rfl rfl rfl rfl ?_ | refine AL.gnone rfl rfl rfl rfl rfl ?_ | refine AL.gmay rfl rfl rfl rfl rfl rfl (fun hb => by (try (apply AStepD.uncond 5 rfl (gpf hb))); exact (by first | exact AStepD.load_row tok rfl rfl rfl qR214 rfl (show _ = 64 from rfl) (by first | with_reducible assumption | exact row_len _ | exact row_zero) | exact AStepD.load_cel_ip tok rfl rfl rfl rfl (show _ = 64 from rfl) rfl | exact AStepD.load_agg tok rfl rfl rfl qR214 rfl (show _ = 64 from rfl) qR36 qR39 | exact AStepD.load_agg_ip tok rfl rfl rfl rfl (show _ = 64 from rfl) qR36 qR39)) ?_ | refine AL.gmay2 rfl rfl rfl rfl rfl rfl (fun _ hb => by (try (apply AStepD.uncond 5 rfl (gpf hb))); exact (by first | exact AStepD.load_row tok rfl rfl rfl qR214 rfl (show _ = 64 from rfl) (by first | with_reducible assumption | exact row_len _ | exact row_zero) | exact AStepD.load_cel_ip tok rfl rfl rfl rfl (show _ = 64 from rfl) rfl | exact AStepD.load_agg tok rfl rfl rfl qR214 rfl (show _ = 64 from rfl) qR36 qR39 | exact AStepD.load_agg_ip tok rfl rfl rfl rfl (show _ = 64 from rfl) qR36 qR39)) ?_
    first | refine AL.gstep rfl rfl rfl rfl rfl rfl rfl (by exact AStepD.callf rfl en16 rfl (set_calls _ s)) ?_ | refine AL.gskip rfl rfl rfl rfl rfl rfl rfl ?_ | refine AL.gnone rfl rfl rfl rfl rfl ?_ | refine AL.gmay rfl rfl rfl rfl rfl rfl (fun hb => by (try (apply AStepD.uncond 34 rfl (gpf hb))); exact (by exact AStepD.callf rfl en16 rfl (set_calls _ s))) ?_ | refine AL.gmay2 rfl rfl rfl rfl rfl rfl (fun _ hb => by (try (apply AStepD.uncond 34 rfl (gpf hb))); exact (by exact AStepD.callf rfl en16 rfl (set_calls _ s))) ?_
    first | refine AL.gstep rfl rfl rfl rfl rfl rfl rfl (by exact AStepD.bool (AStepD.eql rfl rfl rfl) (c := true) (by rw [hyes.2]; simp)) ?_ | refine AL.gskip rfl rfl rfl rfl rfl rfl rfl ?_ | refine AL.gnone rfl rfl rfl rfl rfl ?_ | refine AL.gmay rfl rfl rfl rfl rfl rfl (fun hb => by (try (apply AStepD.uncond 33 rfl (gpf hb))); (try (apply AStepD.uncond 35 rfl (gpf hb))); exact (by exact AStepD.bool (AStepD.eql rfl rfl rfl) (c := true) (by rw [hyes.2]; simp))) ?_ | refine AL.gmay2 rfl rfl rfl rfl rfl rfl (fun _ hb => by (try (apply AStepD.uncond 33 rfl (gpf hb))); (try (apply AStepD.uncond 35 rfl (gpf hb))); exact (by exact AStepD.bool (AStepD.eql rfl rfl rfl) (c := true) (by rw [hyes.2]; simp))) ?_
    refine AL.step rfl rfl rfl qR216 ?_
    refine AL.step rfl rfl rfl qR212 ?_
    first | refine AL.gstep rfl rfl rfl rfl rfl rfl rfl qR212 ?_ | refine AL.gskip rfl rfl rfl rfl rfl rfl rfl ?_ | refine AL.gnone rfl rfl rfl rfl rfl ?_ | refine AL.gmay rfl rfl rfl rfl rfl rfl qS11 ?_ | refine AL.gmay2 rfl rfl rfl rfl rfl rfl qS12 ?_
    first | refine AL.gstep rfl rfl rfl rfl rfl rfl rfl (by exact AStepD.callf rfl en12 rfl (text_calls _ (parseS l))) ?_ | refine AL.gskip rfl rfl rfl rfl rfl rfl rfl ?_ | refine AL.gnone rfl rfl rfl rfl rfl ?_ | refine AL.gmay rfl rfl rfl rfl rfl rfl (fun hb => by (try (apply AStepD.uncond 39 rfl (gpf hb))); exact (by exact AStepD.callf rfl en12 rfl (text_calls _ (parseS l)))) ?_ | refine AL.gmay2 rfl rfl rfl rfl rfl rfl (fun _ hb => by (try (apply AStepD.uncond 39 rfl (gpf hb))); exact (by exact AStepD.callf rfl en12 rfl (text_calls _ (parseS l)))) ?_
    first | refine AL.gstep rfl rfl rfl rfl rfl rfl rfl qR212 ?_ | refine AL.gskip rfl rfl rfl rfl rfl rfl rfl ?_ | refine AL.gnone rfl rfl rfl rfl rfl ?_ | refine AL.gmay rfl rfl rfl rfl rfl rfl qR221 ?_ | refine AL.gmay2 rfl rfl rfl rfl rfl rfl qR222 ?_
    first | refine AL.gstep rfl rfl rfl rfl rfl rfl rfl (by exact AStepD.bool (AStepD.str_eql rfl rfl rfl) (c := true) (by rw [hyes.2, htx]; simp)) ?_ | refine AL.gskip rfl rfl rfl rfl rfl rfl rfl ?_ | refine AL.gnone rfl rfl rfl rfl rfl ?_ | refine AL.gmay rfl rfl rfl rfl rfl rfl (fun hb => by (try (apply AStepD.uncond 40 rfl (gpf hb))); (try (apply AStepD.uncond 41 rfl (gpf hb))); exact (by exact AStepD.bool (AStepD.str_eql rfl rfl rfl) (c := true) (by rw [hyes.2, htx]; simp))) ?_ | refine AL.gmay2 rfl rfl rfl rfl rfl rfl (fun _ hb => by (try (apply AStepD.uncond 40 rfl (gpf hb))); (try (apply AStepD.uncond 41 rfl (gpf hb))); exact (by exact AStepD.bool (AStepD.str_eql rfl rfl rfl) (c := true) (by rw [hyes.2, htx]; simp))) ?_
    refine AL.step rfl rfl rfl qR216 ?_
    refine AL.step rfl rfl rfl qR211 ?_
    refine AL.nil_then (hK _ _ ?_); clear hK K
    exact AW.ret (RetQ.mk (.inr rfl) (retA_tmp rfl qR21 retA_nil) rfl)
end Go.Proofs.YtopbofalkcblgaaDoor

/- The law SlotsOf. -/

namespace Go.Proofs.YtopbofalkcblgaaDoor
open Go.Ax
open Cel (c)
theorem qS21 {p : Prop} (h : p := by first | exact IsSl.vec | exact IsSl.sl | exact IsSl.slc | exact IsSl.nil | with_reducible assumption) : p := h
theorem qS22 {p : Prop} (h : p := by exact (fun hb => by (try (apply AStepD.uncond 9 rfl (gpf hb))); exact qR212)) : p := h
theorem qS23 {p : Prop} (h : p := by exact (fun _ hb => by (try (apply AStepD.uncond 9 rfl (gpf hb))); exact qR212)) : p := h
theorem qS24 {p : Prop} (h : p := by first | exact AStepD.len_str tok rfl rfl rfl rfl | exact AStepD.len_sl tok rfl qR21 qS21 rfl rfl | exact AStepD.len_arr tok rfl rfl rfl) : p := h
set_option linter.unusedSimpArgs false
set_option linter.unusedVariables false

/-- How many slots lie below a place. -/
def cntB (s : BitVec 64) (i : Nat) : Nat := ((List.range i).filter s.getLsbD).length
theorem cntB_next (s : BitVec 64) (i : Nat) : cntB s (i + 1) = cntB s i + (if s.getLsbD i then 1 else 0) := by
  rw [cntB, cntB, List.range_succ, List.filter_append, List.length_append]
  congr 1
  by_cases h : s.getLsbD i = true
  · rw [if_pos h, List.filter_cons_of_pos h]; rfl
  · rw [if_neg h, List.filter_cons_of_neg h]; rfl
theorem cntB_all (s : BitVec 64) : cntB s 64 = (memS s).length := by rw [cntB, memS, List.length_map, memN]
theorem mem_at (s : BitVec 64) (i : Nat) (hi : i < 64) (h : s.getLsbD i = true) : ∃ h2 : cntB s i < (memS s).length, (memS s)[cntB s i] = (i : Nat) := by
  have e : List.range 64 = List.range i ++ i :: List.range' (i + 1) (64 - i - 1) := by
    rw [List.range_eq_range', List.range_eq_range', show 64 = i + ((64 - i - 1) + 1) by omega, ← List.range'_append_1, List.range'_succ]
    simp
  have e2 : memN s = (List.range i).filter s.getLsbD ++ i :: (List.range' (i + 1) (64 - i - 1)).filter s.getLsbD := by
    rw [memN, e, List.filter_append, List.filter_cons_of_pos h]
  have e3 : memS s = ((List.range i).filter s.getLsbD).map (fun (n : Nat) => (n : Int)) ++ ((i : Nat) : Int) :: ((List.range' (i + 1) (64 - i - 1)).filter s.getLsbD).map (fun (n : Nat) => (n : Int)) := by
    rw [memS, e2, List.map_append, List.map_cons]
  have hc : cntB s i = (((List.range i).filter s.getLsbD).map (fun (n : Nat) => (n : Int))).length := by rw [cntB, List.length_map]
  refine ⟨by rw [e3, List.length_append, hc, List.length_cons]; omega, ?_⟩
  simp only [e3, hc]
  rw [List.getElem_append_right (Nat.le_refl _)]
  simp
theorem flF_index (f : Nat → Bool) (i : Nat) (h : i < 64) {o : Oper} {T : Fr} {H : AHeap} {x y : Operand} {k : IntKind} {j : Int} (ho : o.op = .index 30 x y) (hx : aev T x = .agg (flat (flF f))) (hy : aev T y = .v (.int k j)) (hj : j = (i : Nat)) : AStepD Tryd.prog o T H (.v (.bool (f i))) H := by
  have := AStepD.index_arr (P := Tryd.prog) (H := H) (n := 64) (e := 4) (i := i) tok ho hx hy rfl rfl rfl hj h (by have := row_len f; show i * 1 + 1 ≤ _; omega) (fun _ => rfl)
  rw [show (tt 4).size = 1 from rfl, flF_at f i h] at this
  exact this

set_option maxHeartbeats 4000000 in
theorem of_law (H : AHeap) (l : List Int) (ask : Int) : ACalls Tryd.prog 6 [vecA l, .v (.int .i64 ask)] H (fun r _ => r = .v (.bool true)) := by
  refine ACalls.of_body tok Tryd.func6 rfl Tryd.ntmps6 (Nat.le_of_ble_eq_true rfl) (fun base => ?_)
  refine AW.seq_region (fun K hK => ?_)
  refine AL.step rfl rfl rfl qR211 ?_
  refine AL.nil_then (hK _ _ ?_); clear hK K
  refine AW.seq_k (fun K1 hK1 => ?_)
  refine AW.seq_region (fun K hK => ?_)
  refine AL.step rfl rfl rfl (by exact AStepD.callf rfl en10 rfl (anchor_calls _)) ?_
  refine AL.step rfl rfl rfl (by first | exact AStepD.not rfl rfl | exact AStepD.neg rfl rfl (by first | exact IntWalk.i64_in _ (by omega) | exact IntWalk.i64_in _ (by simp only [Bool.or_eq_true, Bool.and_eq_true, Bool.or_eq_false_iff, Bool.and_eq_false_iff, Bool.not_eq_true', Bool.not_eq_false', decide_eq_true_eq, decide_eq_false_iff_not, Int.not_lt, Int.not_le, beq_iff_eq] at *; omega) | exact rfl)) ?_
  refine AL.nil_then (hK _ _ ?_); clear hK K
  refine AW.cond_false rfl rfl (AW.skip ?_)
  refine hK1 _ _ ?_; try clear hK1 K1
  refine AW.seq_k (fun K2 hK2 => ?_)
  refine AW.seq_region (fun K hK => ?_)
  refine AL.step rfl rfl rfl qR212 ?_
  refine AL.step rfl rfl rfl qS24 ?_
  refine AL.step rfl rfl rfl qR414 ?_
  refine AL.nil_then (hK _ _ ?_); clear hK K
  refine AW.cond _ rfl (fun hc => ?_) (fun hc => ?_)
  · refine AW.seq_region (fun K hK => ?_)
    refine AL.step rfl rfl rfl qR211 ?_
    refine AL.nil_then (hK _ _ ?_); clear hK K
    exact AW.ret (RetQ.mk (.inr rfl) (retA_tmp rfl qR21 retA_nil) rfl)
  have hlen : l.length ≤ 200 := by
    have := of_decide_eq_false hc
    omega
  clear hc
  refine AW.skip ?_
  refine hK2 _ _ ?_; try clear hK2 K2
  refine AW.seq_region (fun K hK => ?_)
  refine AL.step rfl rfl rfl qR31 ?_
  refine AL.nil_then (hK _ _ ?_); clear hK K
  rw [flF_zero, flF_none]
  refine AW.seq_region (fun K hK => ?_)
  refine AL.step rfl rfl rfl qR211 ?_
  refine AL.nil_then (hK _ _ ?_); clear hK K
  refine AW.seq_k (fun K3 hK3 => ?_)
  refine AW.seq_region (fun K hK => ?_)
  refine AL.step rfl rfl rfl qR212 ?_
  refine AL.step rfl rfl rfl qS24 ?_
  refine AL.step rfl rfl rfl qR212 ?_
  refine AL.nil_then (hK _ _ ?_); clear hK K
  refine AW.block ?_
  refine AW.loop_at (ι := Nat) (fun i => [(23, .v (.int .i64 (i : Nat))), (22, .v (.int .i64 (l.length : Nat))), (21, vecA l), (6, .v (.bool true)), (5, .ptr H.next 0), (1, .v (.int .i64 ask)), (0, vecA l)])
    (fun i H' => i ≤ l.length ∧ (l.take i).all okI = true ∧ H'.get H.next = some (.cells 30 (flat (flF (orI (l.take i)).getLsbD)))) (fun i => l.length - i) 0 qR215 ⟨Nat.zero_le _, rfl, qR214⟩ ?_
  rintro i H2 ⟨hi, hok, g0⟩
  have hfl := row_len (orI (l.take i)).getLsbD
  refine AW.lts fun hlt => ?_
  refine AW.seq_region (fun K hK => ?_)
  refine AL.step rfl rfl rfl qR27 ?_
  refine AL.nil_then (hK _ _ ?_); clear hK K
  refine AW.seq_k (fun K4 hK4 => ?_)
  refine AW.cond _ rfl (fun hc => ?_) (fun hc => ?_)
  · have hil : i < l.length := by simpa using hc
    clear hc
    refine AW.skip ?_
    refine hK4 _ _ ?_; try clear hK4 K4
    refine AW.seq_k (fun K5 hK5 => ?_)
    refine AW.block ?_
    refine AW.seq_region (fun K hK => ?_)
    refine AL.step rfl rfl rfl qR310 ?_
    refine AL.step rfl rfl rfl qR415 ?_
    refine AL.step rfl rfl rfl qR211 ?_
    refine AL.nil_then (hK _ _ ?_); clear hK K
    refine AW.seq_k (fun K6 hK6 => ?_)
    refine AW.seq_region (fun K hK => ?_)
    refine AL.step rfl rfl rfl qR212 ?_
    refine AL.step rfl rfl rfl qR27 ?_
    refine AL.step rfl rfl rfl qR212 ?_
    first | refine AL.gstep rfl rfl rfl rfl rfl rfl rfl qR212 ?_ | refine AL.gskip rfl rfl rfl rfl rfl rfl rfl ?_ | refine AL.gnone rfl rfl rfl rfl rfl ?_ | refine AL.gmay rfl rfl rfl rfl rfl rfl (fun hb => by (try (apply AStepD.uncond 8 rfl (gpf hb))); exact qR212) ?_ | refine AL.gmay2 rfl rfl rfl rfl rfl rfl (fun _ hb => by (try (apply AStepD.uncond 8 rfl (gpf hb))); exact qR212) ?_
    first | refine AL.gstep rfl rfl rfl rfl rfl rfl rfl qR414 ?_ | refine AL.gskip rfl rfl rfl rfl rfl rfl rfl ?_ | refine AL.gnone rfl rfl rfl rfl rfl ?_ | refine AL.gmay rfl rfl rfl rfl rfl rfl (fun hb => by (try (apply AStepD.uncond 30 rfl (gpf hb))); exact qR414) ?_ | refine AL.gmay2 rfl rfl rfl rfl rfl rfl (fun _ hb => by (try (apply AStepD.uncond 30 rfl (gpf hb))); exact qR414) ?_
    refine AL.step rfl rfl rfl qR216 ?_
    refine AL.nil_then (hK _ _ ?_); clear hK K
    refine AW.cond _ rfl (fun hc => ?_) (fun hc => ?_)
    · have hno : okI l[i] = false := by
        simp only [Bool.or_eq_true, decide_eq_true_eq] at hc
        simp only [okI, Bool.and_eq_false_iff, decide_eq_false_iff_not]
        omega
      have hall := not_allI hil hno
      have hS : ofS l = 0#64 ∧ ofE l = 20 := by rw [ofS, ofE, hall]; exact ⟨rfl, rfl⟩
      clear hc
      refine AW.seq_region (fun K hK => ?_)
      refine AL.step rfl rfl rfl qR211 ?_
      refine AL.nil_then (hK _ _ ?_); clear hK K
      refine AW.exit ?_
      refine hK3 _ _ ?_; try clear hK3 K3
      refine AW.seq_region (fun K hK => ?_)
      refine AL.step rfl rfl rfl qR212 ?_
      refine AL.step rfl rfl rfl (by exact AStepD.callf rfl en18 rfl (of_calls _ l (by omega))) ?_
      refine AL.step rfl rfl rfl qR212 ?_
      refine AL.step rfl rfl rfl qR51 ?_
      refine AL.step rfl rfl rfl qR51 ?_
      refine AL.step rfl rfl rfl qR211 ?_
      refine AL.step rfl rfl rfl qR211 ?_
      refine AL.nil_then (hK _ _ ?_); clear hK K
      refine AW.seq_k (fun K7 hK7 => ?_)
      refine AW.seq_region (fun K hK => ?_)
      refine AL.step rfl rfl rfl qR212 ?_
      refine AL.step rfl rfl rfl (by first | exact AStepD.not rfl rfl | exact AStepD.neg rfl rfl (by first | exact IntWalk.i64_in _ (by omega) | exact IntWalk.i64_in _ (by simp only [Bool.or_eq_true, Bool.and_eq_true, Bool.or_eq_false_iff, Bool.and_eq_false_iff, Bool.not_eq_true', Bool.not_eq_false', decide_eq_true_eq, decide_eq_false_iff_not, Int.not_lt, Int.not_le, beq_iff_eq] at *; omega) | exact rfl)) ?_
      refine AL.nil_then (hK _ _ ?_); clear hK K
      refine AW.cond_true rfl rfl ?_
      refine AW.seq_region (fun K hK => ?_)
      refine AL.step rfl rfl rfl qR212 ?_
      refine AL.step rfl rfl rfl (by exact AStepD.bool (AStepD.eql rfl rfl rfl) (c := true) (by rw [hS.2]; rfl)) ?_
      refine AL.step rfl rfl rfl qR212 ?_
      first | refine AL.gstep rfl rfl rfl rfl rfl rfl rfl qR212 ?_ | refine AL.gskip rfl rfl rfl rfl rfl rfl rfl ?_ | refine AL.gnone rfl rfl rfl rfl rfl ?_ | refine AL.gmay rfl rfl rfl rfl rfl rfl qS22 ?_ | refine AL.gmay2 rfl rfl rfl rfl rfl rfl qS23 ?_
      first | refine AL.gstep rfl rfl rfl rfl rfl rfl rfl (by exact AStepD.bool (AStepD.eql rfl rfl rfl) (c := true) (by rw [hS.1]; rfl)) ?_ | refine AL.gskip rfl rfl rfl rfl rfl rfl rfl ?_ | refine AL.gnone rfl rfl rfl rfl rfl ?_ | refine AL.gmay rfl rfl rfl rfl rfl rfl (fun hb => by (try (apply AStepD.uncond 46 rfl (gpf hb))); exact (by exact AStepD.bool (AStepD.eql rfl rfl rfl) (c := true) (by rw [hS.1]; rfl))) ?_ | refine AL.gmay2 rfl rfl rfl rfl rfl rfl (fun _ hb => by (try (apply AStepD.uncond 46 rfl (gpf hb))); exact (by exact AStepD.bool (AStepD.eql rfl rfl rfl) (c := true) (by rw [hS.1]; rfl))) ?_
      refine AL.step rfl rfl rfl qR216 ?_
      refine AL.step rfl rfl rfl qR211 ?_
      refine AL.nil_then (hK _ _ ?_); clear hK K
      exact AW.ret (RetQ.mk (.inr rfl) (retA_tmp rfl qR21 retA_nil) rfl)
    · have hyes : okI l[i] = true := by
        simp only [Bool.or_eq_false_iff, decide_eq_false_iff_not] at hc
        simp only [okI, Bool.and_eq_true, decide_eq_true_eq]
        omega
      have hnx := orI_next l i hil
      have hall := allI_next (p := okI) l i hil
      rw [hok, hyes] at hall
      have hb : 0 ≤ l[i] ∧ l[i] < 64 := by
        simp only [okI, Bool.and_eq_true, decide_eq_true_eq] at hyes
        exact hyes
      obtain ⟨n, hn⟩ := Int.eq_ofNat_of_zero_le hb.1
      rw [hn] at hb hnx
      rw [Int.toNat_natCast] at hnx
      simp only [hn]
      clear hc hyes
      refine AW.skip ?_
      refine hK6 _ _ ?_; try clear hK6 K6
      refine AW.region ?_
      refine AL.step rfl rfl rfl qR212 ?_
      refine AL.step rfl rfl rfl qR310 ?_
      refine AL.step0 rfl rfl (by exact AStepD.store' tok rfl rfl qR214 qR21 qR35 qR22 rfl qR21 rfl qR36 qR37) ?_
      refine AL.nil ?_
      refine hK5 _ _ ?_; try clear hK5 K5
      refine AW.region ?_
      refine AL.step rfl rfl rfl (by first | exact AStepD.add rfl rfl rfl (by first | exact IntWalk.i64_in _ (by omega) | exact IntWalk.i64_in _ (by simp only [Bool.or_eq_true, Bool.and_eq_true, Bool.or_eq_false_iff, Bool.and_eq_false_iff, Bool.not_eq_true', Bool.not_eq_false', decide_eq_true_eq, decide_eq_false_iff_not, Int.not_lt, Int.not_le, beq_iff_eq] at *; omega) | exact rfl) | exact AStepD.str_add rfl rfl rfl (by omega)) ?_
      refine AL.step rfl rfl rfl qR212 ?_
      refine AL.nil ?_
      refine ⟨i + 1, by omega, qR215, hil, hall, ?_⟩
      rw [hnx, flF_put _ (orI (l.take i) ||| 1#64 <<< n).getLsbD n _ (by omega) (by rw [BitVec.getLsbD_or, one_bit]; simp; omega) (fun j hj hji => by rw [BitVec.getLsbD_or, one_bit, decide_eq_false hji]; simp)]
      exact qR214
  · have hil : i = l.length := by
      have := of_decide_eq_false hc
      omega
    rw [hil, List.take_length] at hok g0
    have hS : ofS l = orI l ∧ ofE l = 0 := by rw [ofS, ofE, hok]; exact ⟨rfl, rfl⟩
    clear hc hil hi
    rw [← hS.1] at g0
    clear hfl
    obtain ⟨s, hs⟩ : ∃ s, s = ofS l := ⟨_, rfl⟩
    rw [← hs] at g0 hS
    refine AW.exit ?_
    refine hK3 _ _ ?_; try clear hK3 K3
    refine AW.seq_region (fun K hK => ?_)
    refine AL.step rfl rfl rfl qR212 ?_
    refine AL.step rfl rfl rfl (by exact AStepD.callf rfl en18 rfl (of_calls _ l (by omega))) ?_
    refine AL.step rfl rfl rfl qR212 ?_
    refine AL.step rfl rfl rfl qR51 ?_
    refine AL.step rfl rfl rfl qR51 ?_
    refine AL.step rfl rfl rfl qR211 ?_
    refine AL.step rfl rfl rfl qR211 ?_
    refine AL.nil_then (hK _ _ ?_); clear hK K
    rw [hS.2, ← hs]
    clear hS hs hok
    refine AW.seq_k (fun K7 hK7 => ?_)
    refine AW.seq_region (fun K hK => ?_)
    refine AL.step rfl rfl rfl qR212 ?_
    refine AL.step rfl rfl rfl (by first | exact AStepD.not rfl rfl | exact AStepD.neg rfl rfl (by first | exact IntWalk.i64_in _ (by omega) | exact IntWalk.i64_in _ (by simp only [Bool.or_eq_true, Bool.and_eq_true, Bool.or_eq_false_iff, Bool.and_eq_false_iff, Bool.not_eq_true', Bool.not_eq_false', decide_eq_true_eq, decide_eq_false_iff_not, Int.not_lt, Int.not_le, beq_iff_eq] at *; omega) | exact rfl)) ?_
    refine AL.nil_then (hK _ _ ?_); clear hK K
    refine AW.cond_false rfl rfl (AW.skip ?_)
    refine hK7 _ _ ?_; try clear hK7 K7
    refine AW.seq_region (fun K hK => ?_)
    refine AL.step rfl rfl rfl qR212 ?_
    refine AL.step rfl rfl rfl qR29 ?_
    refine AL.step rfl rfl rfl qR212 ?_
    first | refine AL.gstep rfl rfl rfl rfl rfl rfl rfl qR212 ?_ | refine AL.gskip rfl rfl rfl rfl rfl rfl rfl ?_ | refine AL.gnone rfl rfl rfl rfl rfl ?_ | refine AL.gmay rfl rfl rfl rfl rfl rfl qR219 ?_ | refine AL.gmay2 rfl rfl rfl rfl rfl rfl qR220 ?_
    first | refine AL.gstep rfl rfl rfl rfl rfl rfl rfl qR27 ?_ | refine AL.gskip rfl rfl rfl rfl rfl rfl rfl ?_ | refine AL.gnone rfl rfl rfl rfl rfl ?_ | refine AL.gmay rfl rfl rfl rfl rfl rfl (fun hb => by (try (apply AStepD.uncond 52 rfl (gpf hb))); exact qR27) ?_ | refine AL.gmay2 rfl rfl rfl rfl rfl rfl (fun _ hb => by (try (apply AStepD.uncond 52 rfl (gpf hb))); exact qR27) ?_
    refine AL.step rfl rfl rfl qR216 ?_
    refine AL.step rfl rfl rfl qR211 ?_
    refine AL.nil_then (hK _ _ ?_); clear hK K
    refine AW.seq_k (fun K8 hK8 => ?_)
    have hgo : ∀ T', SubT T' [(11, .v (.bool (hasS s ask))), (10, .v (.int .i64 0)), (9, u64A s), (5, .ptr H.next 0), (1, .v (.int .i64 ask))] → K8 T' H2 := fun T' hT' => by
      refine hK8 _ _ ?_
      refine AW.sub hT' ?_
      clear hT' hK8 K8
      refine AW.seq_k (fun K9 hK9 => ?_)
      refine AW.seq_region (fun K hK => ?_)
      refine AL.step rfl rfl rfl qR212 ?_
      refine AL.step rfl rfl rfl (by exact AStepD.bool (AStepD.neq rfl rfl rfl) (c := false) (by simp)) ?_
      refine AL.step rfl rfl rfl qR212 ?_
      first | refine AL.gstep rfl rfl rfl rfl rfl rfl rfl qR212 ?_ | refine AL.gskip rfl rfl rfl rfl rfl rfl rfl ?_ | refine AL.gnone rfl rfl rfl rfl rfl ?_ | refine AL.gmay rfl rfl rfl rfl rfl rfl qS22 ?_ | refine AL.gmay2 rfl rfl rfl rfl rfl rfl qS23 ?_
      first | refine AL.gstep rfl rfl rfl rfl rfl rfl rfl (by first | exact AStepD.load_row tok rfl rfl rfl qR214 rfl (show _ = 64 from rfl) (by first | with_reducible assumption | exact row_len _ | exact row_zero) | exact AStepD.load_cel_ip tok rfl rfl rfl rfl (show _ = 64 from rfl) rfl | exact AStepD.load_agg tok rfl rfl rfl qR214 rfl (show _ = 64 from rfl) qR36 qR39 | exact AStepD.load_agg_ip tok rfl rfl rfl rfl (show _ = 64 from rfl) qR36 qR39) ?_ | refine AL.gskip rfl rfl rfl rfl rfl rfl rfl ?_ | refine AL.gnone rfl rfl rfl rfl rfl ?_ | refine AL.gmay rfl rfl rfl rfl rfl rfl (fun hb => by (try (apply AStepD.uncond 5 rfl (gpf hb))); exact (by first | exact AStepD.load_row tok rfl rfl rfl qR214 rfl (show _ = 64 from rfl) (by first | with_reducible assumption | exact row_len _ | exact row_zero) | exact AStepD.load_cel_ip tok rfl rfl rfl rfl (show _ = 64 from rfl) rfl | exact AStepD.load_agg tok rfl rfl rfl qR214 rfl (show _ = 64 from rfl) qR36 qR39 | exact AStepD.load_agg_ip tok rfl rfl rfl rfl (show _ = 64 from rfl) qR36 qR39)) ?_ | refine AL.gmay2 rfl rfl rfl rfl rfl rfl (fun _ hb => by (try (apply AStepD.uncond 5 rfl (gpf hb))); exact (by first | exact AStepD.load_row tok rfl rfl rfl qR214 rfl (show _ = 64 from rfl) (by first | with_reducible assumption | exact row_len _ | exact row_zero) | exact AStepD.load_cel_ip tok rfl rfl rfl rfl (show _ = 64 from rfl) rfl | exact AStepD.load_agg tok rfl rfl rfl qR214 rfl (show _ = 64 from rfl) qR36 qR39 | exact AStepD.load_agg_ip tok rfl rfl rfl rfl (show _ = 64 from rfl) qR36 qR39)) ?_
      first | refine AL.gstep rfl rfl rfl rfl rfl rfl rfl (by exact AStepD.callf rfl en16 rfl (set_calls _ s)) ?_ | refine AL.gskip rfl rfl rfl rfl rfl rfl rfl ?_ | refine AL.gnone rfl rfl rfl rfl rfl ?_ | refine AL.gmay rfl rfl rfl rfl rfl rfl (fun hb => by (try (apply AStepD.uncond 63 rfl (gpf hb))); exact (by exact AStepD.callf rfl en16 rfl (set_calls _ s))) ?_ | refine AL.gmay2 rfl rfl rfl rfl rfl rfl (fun _ hb => by (try (apply AStepD.uncond 63 rfl (gpf hb))); exact (by exact AStepD.callf rfl en16 rfl (set_calls _ s))) ?_
      first | refine AL.gstep rfl rfl rfl rfl rfl rfl rfl (by exact AStepD.bool (AStepD.neq rfl rfl rfl) (c := false) (by simp)) ?_ | refine AL.gskip rfl rfl rfl rfl rfl rfl rfl ?_ | refine AL.gnone rfl rfl rfl rfl rfl ?_ | refine AL.gmay rfl rfl rfl rfl rfl rfl (fun hb => by (try (apply AStepD.uncond 62 rfl (gpf hb))); (try (apply AStepD.uncond 64 rfl (gpf hb))); exact (by exact AStepD.bool (AStepD.neq rfl rfl rfl) (c := false) (by simp))) ?_ | refine AL.gmay2 rfl rfl rfl rfl rfl rfl (fun _ hb => by (try (apply AStepD.uncond 62 rfl (gpf hb))); (try (apply AStepD.uncond 64 rfl (gpf hb))); exact (by exact AStepD.bool (AStepD.neq rfl rfl rfl) (c := false) (by simp))) ?_
      refine AL.step rfl rfl rfl qR216 ?_
      refine AL.step rfl rfl rfl qR212 ?_
      first | refine AL.gstep rfl rfl rfl rfl rfl rfl rfl qR212 ?_ | refine AL.gskip rfl rfl rfl rfl rfl rfl rfl ?_ | refine AL.gnone rfl rfl rfl rfl rfl ?_ | refine AL.gmay rfl rfl rfl rfl rfl rfl qS22 ?_ | refine AL.gmay2 rfl rfl rfl rfl rfl rfl qS23 ?_
      first | refine AL.gstep rfl rfl rfl rfl rfl rfl rfl qR212 ?_ | refine AL.gskip rfl rfl rfl rfl rfl rfl rfl ?_ | refine AL.gnone rfl rfl rfl rfl rfl ?_ | refine AL.gmay rfl rfl rfl rfl rfl rfl qR219 ?_ | refine AL.gmay2 rfl rfl rfl rfl rfl rfl qR220 ?_
      first | refine AL.gstep rfl rfl rfl rfl rfl rfl rfl (by exact AStepD.callf rfl en19 rfl (has_calls _ s ask)) ?_ | refine AL.gskip rfl rfl rfl rfl rfl rfl rfl ?_ | refine AL.gnone rfl rfl rfl rfl rfl ?_ | refine AL.gmay rfl rfl rfl rfl rfl rfl (fun hb => by (try (apply AStepD.uncond 68 rfl (gpf hb))); (try (apply AStepD.uncond 69 rfl (gpf hb))); exact (by exact AStepD.callf rfl en19 rfl (has_calls _ s ask))) ?_ | refine AL.gmay2 rfl rfl rfl rfl rfl rfl (fun _ hb => by (try (apply AStepD.uncond 68 rfl (gpf hb))); (try (apply AStepD.uncond 69 rfl (gpf hb))); exact (by exact AStepD.callf rfl en19 rfl (has_calls _ s ask))) ?_
      first | refine AL.gstep rfl rfl rfl rfl rfl rfl rfl qR212 ?_ | refine AL.gskip rfl rfl rfl rfl rfl rfl rfl ?_ | refine AL.gnone rfl rfl rfl rfl rfl ?_ | refine AL.gmay rfl rfl rfl rfl rfl rfl (fun hb => by (try (apply AStepD.uncond 11 rfl (gpf hb))); exact qR212) ?_ | refine AL.gmay2 rfl rfl rfl rfl rfl rfl (fun _ hb => by (try (apply AStepD.uncond 11 rfl (gpf hb))); exact qR212) ?_
      first | refine AL.gstep rfl rfl rfl rfl rfl rfl rfl (by exact AStepD.bool ((AStepD.bool_eq tok rfl rfl rfl rfl).2 rfl) (c := false) (by simp)) ?_ | refine AL.gskip rfl rfl rfl rfl rfl rfl rfl ?_ | refine AL.gnone rfl rfl rfl rfl rfl ?_ | refine AL.gmay rfl rfl rfl rfl rfl rfl (fun hb => by (try (apply AStepD.uncond 70 rfl (gpf hb))); (try (apply AStepD.uncond 71 rfl (gpf hb))); exact (by exact AStepD.bool ((AStepD.bool_eq tok rfl rfl rfl rfl).2 rfl) (c := false) (by simp))) ?_ | refine AL.gmay2 rfl rfl rfl rfl rfl rfl (fun _ hb => by (try (apply AStepD.uncond 70 rfl (gpf hb))); (try (apply AStepD.uncond 71 rfl (gpf hb))); exact (by exact AStepD.bool ((AStepD.bool_eq tok rfl rfl rfl rfl).2 rfl) (c := false) (by simp))) ?_
      refine AL.step rfl rfl rfl qR216 ?_
      refine AL.nil_then (hK _ _ ?_); clear hK K
      refine AW.cond_false rfl rfl (AW.skip ?_)
      refine hK9 _ _ ?_; try clear hK9 K9
      refine AW.seq_region (fun K hK => ?_)
      refine AL.step rfl rfl rfl qR211 ?_
      refine AL.nil_then (hK _ _ ?_); clear hK K
      refine AW.seq_region (fun K hK => ?_)
      refine AL.step rfl rfl rfl qR212 ?_
      refine AL.step rfl rfl rfl (by exact AStepD.callf rfl en20 rfl (list_calls _ s)) ?_
      refine AL.step rfl rfl rfl qR211 ?_
      refine AL.nil_then (hK _ _ ?_); clear hK K
      refine AW.seq_k (fun K10 hK10 => ?_)
      refine AW.seq_region (fun K hK => ?_)
      refine AL.step rfl rfl rfl (by first | exact AStepD.load_row tok rfl rfl rfl qR214 rfl (show _ = 64 from rfl) (by first | with_reducible assumption | exact row_len _ | exact row_zero) | exact AStepD.load_cel_ip tok rfl rfl rfl rfl (show _ = 64 from rfl) rfl | exact AStepD.load_agg tok rfl rfl rfl qR214 rfl (show _ = 64 from rfl) qR36 qR39 | exact AStepD.load_agg_ip tok rfl rfl rfl rfl (show _ = 64 from rfl) qR36 qR39) ?_
      refine AL.step rfl rfl rfl qR212 ?_
      refine AL.nil_then (hK _ _ ?_); clear hK K
      refine AW.block ?_
      refine AW.loop_at (ι := Nat) (fun i => [(77, .v (.int .i64 (i : Nat))), (76, flA s), (13, vecA (memS s)), (12, .v (.int .i64 (cntB s i : Nat)))])
        (fun i H' => i ≤ 64) (fun i => 64 - i) 0 qR215 (by omega) ?_
      rintro i H3 hi
      have hml := memS_length s
      refine AW.seq_region (fun K hK => ?_)
      refine AL.step rfl rfl rfl qR27 ?_
      refine AL.nil_then (hK _ _ ?_); clear hK K
      refine AW.seq_k (fun K11 hK11 => ?_)
      refine AW.cond _ rfl (fun hc => ?_) (fun hc => ?_)
      · have hi64 : i < 64 := by
          have := of_decide_eq_true hc
          omega
        clear hc
        have hnx := cntB_next s i
        refine AW.skip ?_
        refine hK11 _ _ ?_; try clear hK11 K11
        refine AW.seq_k (fun K12 hK12 => ?_)
        refine AW.block ?_
        refine AW.seq_region (fun K hK => ?_)
        refine AL.step rfl rfl rfl qR212 ?_
        refine AL.step rfl rfl rfl (by exact flF_index _ i hi64 rfl rfl rfl rfl) ?_
        refine AL.step rfl rfl rfl qR211 ?_
        refine AL.step rfl rfl rfl qR211 ?_
        refine AL.nil_then (hK _ _ ?_); clear hK K
        refine AW.seq_region (fun K hK => ?_)
        refine AL.step rfl rfl rfl qR212 ?_
        refine AL.nil_then (hK _ _ ?_); clear hK K
        refine AW.cond _ rfl (fun hc => ?_) (fun hc => ?_)
        · obtain ⟨h1, h2⟩ := mem_at s i hi64 hc
          rw [if_pos hc] at hnx
          refine AW.seq_k (fun K13 hK13 => ?_)
          refine AW.seq_region (fun K hK => ?_)
          refine AL.step rfl rfl rfl qR212 ?_
          refine AL.step rfl rfl rfl qR212 ?_
          refine AL.step rfl rfl rfl qS24 ?_
          refine AL.step rfl rfl rfl (by exact AStepD.bool (AStepD.geq rfl rfl rfl) (c := false) (by simp; omega)) ?_
          refine AL.step rfl rfl rfl qR212 ?_
          first | refine AL.gstep rfl rfl rfl rfl rfl rfl rfl qR212 ?_ | refine AL.gskip rfl rfl rfl rfl rfl rfl rfl ?_ | refine AL.gnone rfl rfl rfl rfl rfl ?_ | refine AL.gmay rfl rfl rfl rfl rfl rfl (fun hb => by (try (apply AStepD.uncond 13 rfl (gpf hb))); exact qR212) ?_ | refine AL.gmay2 rfl rfl rfl rfl rfl rfl (fun _ hb => by (try (apply AStepD.uncond 13 rfl (gpf hb))); exact qR212) ?_
          first | refine AL.gstep rfl rfl rfl rfl rfl rfl rfl qR212 ?_ | refine AL.gskip rfl rfl rfl rfl rfl rfl rfl ?_ | refine AL.gnone rfl rfl rfl rfl rfl ?_ | refine AL.gmay rfl rfl rfl rfl rfl rfl (fun hb => by (try (apply AStepD.uncond 12 rfl (gpf hb))); exact qR212) ?_ | refine AL.gmay2 rfl rfl rfl rfl rfl rfl (fun _ hb => by (try (apply AStepD.uncond 12 rfl (gpf hb))); exact qR212) ?_
          first | refine AL.gstep rfl rfl rfl rfl rfl rfl rfl qR310 ?_ | refine AL.gskip rfl rfl rfl rfl rfl rfl rfl ?_ | refine AL.gnone rfl rfl rfl rfl rfl ?_ | refine AL.gmay rfl rfl rfl rfl rfl rfl (fun hb => by (try (apply AStepD.uncond 87 rfl (gpf hb))); (try (apply AStepD.uncond 88 rfl (gpf hb))); exact qR310) ?_ | refine AL.gmay2 rfl rfl rfl rfl rfl rfl (fun _ hb => by (try (apply AStepD.uncond 87 rfl (gpf hb))); (try (apply AStepD.uncond 88 rfl (gpf hb))); exact qR310) ?_
          first | refine AL.gstep rfl rfl rfl rfl rfl rfl rfl qR415 ?_ | refine AL.gskip rfl rfl rfl rfl rfl rfl rfl ?_ | refine AL.gnone rfl rfl rfl rfl rfl ?_ | refine AL.gmay rfl rfl rfl rfl rfl rfl (fun hb => by (try (apply AStepD.uncond 89 rfl (gpf hb))); exact qR415) ?_ | refine AL.gmay2 rfl rfl rfl rfl rfl rfl (fun _ hb => by (try (apply AStepD.uncond 89 rfl (gpf hb))); exact qR415) ?_
          first | refine AL.gstep rfl rfl rfl rfl rfl rfl rfl qR212 ?_ | refine AL.gskip rfl rfl rfl rfl rfl rfl rfl ?_ | refine AL.gnone rfl rfl rfl rfl rfl ?_ | refine AL.gmay rfl rfl rfl rfl rfl rfl (fun hb => by (try (apply AStepD.uncond 14 rfl (gpf hb))); exact qR212) ?_ | refine AL.gmay2 rfl rfl rfl rfl rfl rfl (fun _ hb => by (try (apply AStepD.uncond 14 rfl (gpf hb))); exact qR212) ?_
          first | refine AL.gstep rfl rfl rfl rfl rfl rfl rfl (by exact AStepD.bool (AStepD.neq rfl rfl rfl) (c := false) (by simp [h2])) ?_ | refine AL.gskip rfl rfl rfl rfl rfl rfl rfl ?_ | refine AL.gnone rfl rfl rfl rfl rfl ?_ | refine AL.gmay rfl rfl rfl rfl rfl rfl (fun hb => by (try (apply AStepD.uncond 90 rfl (gpf hb))); (try (apply AStepD.uncond 91 rfl (gpf hb))); exact (by exact AStepD.bool (AStepD.neq rfl rfl rfl) (c := false) (by simp [h2]))) ?_ | refine AL.gmay2 rfl rfl rfl rfl rfl rfl (fun _ hb => by (try (apply AStepD.uncond 90 rfl (gpf hb))); (try (apply AStepD.uncond 91 rfl (gpf hb))); exact (by exact AStepD.bool (AStepD.neq rfl rfl rfl) (c := false) (by simp [h2]))) ?_
          refine AL.step rfl rfl rfl qR216 ?_
          refine AL.nil_then (hK _ _ ?_); clear hK K
          refine AW.cond_false rfl rfl (AW.skip ?_)
          refine hK13 _ _ ?_; try clear hK13 K13
          refine AW.region ?_
          refine AL.step rfl rfl rfl qR212 ?_
          refine AL.step rfl rfl rfl (by exact AStepD.add (r := ((cntB s (i + 1) : Nat) : Int)) rfl rfl rfl (by rw [hnx, Int.natCast_add]; exact IntWalk.i64_in _ (by omega))) ?_
          refine AL.step rfl rfl rfl qR211 ?_
          refine AL.nil ?_
          refine hK12 _ _ ?_; try clear hK12 K12
          refine AW.region ?_
          refine AL.step rfl rfl rfl (by first | exact AStepD.add rfl rfl rfl (by first | exact IntWalk.i64_in _ (by omega) | exact IntWalk.i64_in _ (by simp only [Bool.or_eq_true, Bool.and_eq_true, Bool.or_eq_false_iff, Bool.and_eq_false_iff, Bool.not_eq_true', Bool.not_eq_false', decide_eq_true_eq, decide_eq_false_iff_not, Int.not_lt, Int.not_le, beq_iff_eq] at *; omega) | exact rfl) | exact AStepD.str_add rfl rfl rfl (by omega)) ?_
          refine AL.step rfl rfl rfl qR212 ?_
          refine AL.nil ?_
          exact ⟨i + 1, by omega, qR215, by omega⟩
        · rw [if_neg (by rw [hc]; simp), Nat.add_zero] at hnx
          refine AW.skip ?_
          refine hK12 _ _ ?_; try clear hK12 K12
          refine AW.region ?_
          refine AL.step rfl rfl rfl (by first | exact AStepD.add rfl rfl rfl (by first | exact IntWalk.i64_in _ (by omega) | exact IntWalk.i64_in _ (by simp only [Bool.or_eq_true, Bool.and_eq_true, Bool.or_eq_false_iff, Bool.and_eq_false_iff, Bool.not_eq_true', Bool.not_eq_false', decide_eq_true_eq, decide_eq_false_iff_not, Int.not_lt, Int.not_le, beq_iff_eq] at *; omega) | exact rfl) | exact AStepD.str_add rfl rfl rfl (by omega)) ?_
          refine AL.step rfl rfl rfl qR212 ?_
          refine AL.nil ?_
          refine ⟨i + 1, by omega, ?_, by omega⟩
          rw [hnx]
          exact qR215
      · have hi64 : i = 64 := by
          have := of_decide_eq_false hc
          omega
        subst hi64
        clear hc
        rw [cntB_all]
        refine AW.exit ?_
        refine hK10 _ _ ?_; try clear hK10 K10
        refine AW.seq_region (fun K hK => ?_)
        refine AL.step rfl rfl rfl qR212 ?_
        refine AL.step rfl rfl rfl qR212 ?_
        refine AL.step rfl rfl rfl qS24 ?_
        refine AL.step rfl rfl rfl (by exact AStepD.bool (AStepD.eql rfl rfl rfl) (c := true) (by simp)) ?_
        refine AL.step rfl rfl rfl qR211 ?_
        refine AL.nil_then (hK _ _ ?_); clear hK K
        exact AW.ret (RetQ.mk (.inr rfl) (retA_tmp rfl qR21 retA_nil) rfl)
    refine AW.seq_region (fun K hK => ?_)
    refine AL.step rfl rfl rfl qR212 ?_
    refine AL.nil_then (hK _ _ ?_); clear hK K
    refine AW.cond _ rfl (fun hc => ?_) (fun hc => ?_)
    · have hb : 0 ≤ ask ∧ ask < 64 := by
        simp only [Bool.and_eq_true, decide_eq_true_eq] at hc
        exact hc
      obtain ⟨n, rfl⟩ := Int.eq_ofNat_of_zero_le hb.1
      have hfl := row_len s.getLsbD
      rw [has_nat] at hgo
      clear hc
      refine AW.region ?_
      refine AL.step rfl rfl rfl qR212 ?_
      refine AL.step rfl rfl rfl qR310 ?_
      refine AL.step rfl rfl rfl (by exact AStepD.load_cellAt tok rfl rfl rfl rfl qR214 rfl (flF_at _ n (by omega))) ?_
      refine AL.step rfl rfl rfl qR211 ?_
      refine AL.nil ?_
      exact hgo _ qR215
    · have hb : hasS s ask = false := by
        rw [hasS]
        rw [show (decide (0 ≤ ask) && decide (ask < 64)) = false from hc]; rfl
      rw [hb] at hgo
      rw [hc]
      refine AW.skip ?_
      exact hgo _ qR215
end Go.Proofs.YtopbofalkcblgaaDoor

/- The law SlotsShares. -/

namespace Go.Proofs.YtopbofalkcblgaaDoor
open Go.Ax
open Cel (c)
theorem qS31 {p : Prop} (h : p := by simp only [List.getD_cons_zero, List.getD_cons_succ]; all_goals apply Eq.refl) : p := h
theorem qS32 {p : Prop} (h : p := by exact (fun hb => by (try (apply AStepD.uncond 11 rfl (gpf hb))); exact qR212)) : p := h
theorem qS33 {p : Prop} (h : p := by exact (fun _ hb => by (try (apply AStepD.uncond 11 rfl (gpf hb))); exact qR212)) : p := h
theorem qS34 {p : Prop} (h : p := by exact AStepD.bv_and rfl rfl rfl) : p := h
theorem qS35 {p : Prop} (h : p := by exact (fun hb => by (try (apply AStepD.uncond 13 rfl (gpf hb))); exact qR212)) : p := h
theorem qS36 {p : Prop} (h : p := by exact (fun _ hb => by (try (apply AStepD.uncond 13 rfl (gpf hb))); exact qR212)) : p := h
theorem qS37 {p : Prop} (h : p := by exact (fun hb => by (try (apply AStepD.uncond 64 rfl (gpf hb))); exact qS24)) : p := h
theorem qS38 {p : Prop} (h : p := by exact (fun _ hb => by (try (apply AStepD.uncond 64 rfl (gpf hb))); exact qS24)) : p := h
theorem qS39 {p : Prop} (h : p := by exact (fun hb => by (try (apply AStepD.uncond 70 rfl (gpf hb))); exact qS24)) : p := h
theorem qS310 {p : Prop} (h : p := by exact (fun _ hb => by (try (apply AStepD.uncond 70 rfl (gpf hb))); exact qS24)) : p := h
theorem qS311 {p : Prop} (h : p := by exact (fun hb => by (try (apply AStepD.uncond 69 rfl (gpf hb))); (try (apply AStepD.uncond 72 rfl (gpf hb))); exact qR310)) : p := h
theorem qS312 {p : Prop} (h : p := by exact (fun _ hb => by (try (apply AStepD.uncond 69 rfl (gpf hb))); (try (apply AStepD.uncond 72 rfl (gpf hb))); exact qR310)) : p := h
theorem qS313 {p : Prop} (h : p := by exact (fun hb => by (try (apply AStepD.uncond 73 rfl (gpf hb))); exact qR415)) : p := h
theorem qS314 {p : Prop} (h : p := by exact (fun _ hb => by (try (apply AStepD.uncond 73 rfl (gpf hb))); exact qR415)) : p := h
theorem qS315 {p : Prop} (h : p := by exact (fun hb => by (try (apply AStepD.uncond 75 rfl (gpf hb))); exact qR310)) : p := h
theorem qS316 {p : Prop} (h : p := by exact (fun _ hb => by (try (apply AStepD.uncond 75 rfl (gpf hb))); exact qR310)) : p := h
theorem qS317 {p : Prop} (h : p := by exact (fun hb => by (try (apply AStepD.uncond 76 rfl (gpf hb))); exact qR415)) : p := h
theorem qS318 {p : Prop} (h : p := by exact (fun _ hb => by (try (apply AStepD.uncond 76 rfl (gpf hb))); exact qR415)) : p := h
theorem qS319 {p : Prop} (h : p := by exact (fun hb => by (try (apply AStepD.uncond 79 rfl (gpf hb))); exact qS24)) : p := h
theorem qS320 {p : Prop} (h : p := by exact (fun _ hb => by (try (apply AStepD.uncond 79 rfl (gpf hb))); exact qS24)) : p := h
theorem qS321 {p : Prop} (h : p := by exact (fun hb => by (try (apply AStepD.uncond 10 rfl (gpf hb))); exact qR212)) : p := h
theorem qS322 {p : Prop} (h : p := by exact (fun _ hb => by (try (apply AStepD.uncond 10 rfl (gpf hb))); exact qR212)) : p := h
theorem qS323 {p : Prop} (h : p := by exact (fun hb => by (try (apply AStepD.uncond 87 rfl (gpf hb))); exact qR212)) : p := h
theorem qS324 {p : Prop} (h : p := by exact (fun _ hb => by (try (apply AStepD.uncond 87 rfl (gpf hb))); exact qR212)) : p := h
theorem qS325 {p : Prop} (h : p := by exact (fun hb => by (try (apply AStepD.uncond 88 rfl (gpf hb))); (try (apply AStepD.uncond 91 rfl (gpf hb))); exact qR216)) : p := h
theorem qS326 {p : Prop} (h : p := by exact (fun _ hb => by (try (apply AStepD.uncond 88 rfl (gpf hb))); (try (apply AStepD.uncond 91 rfl (gpf hb))); exact qR216)) : p := h
theorem qS327 {p : Prop} (h : p := by simp only [frameAt, putA]; all_goals exact rfl) : p := h
theorem qS328 {p : Prop} (h : p := by simp only [List.length_cons, List.length_nil, Nat.zero_add, Nat.reduceAdd, List.getD_cons_zero, List.getD_cons_succ]; all_goals apply Eq.refl) : p := h
theorem qS329 {p : Prop} (h : p := by exact (fun hb => by (try (apply AStepD.uncond 58 rfl (gpf hb))); (try (apply AStepD.uncond 59 rfl (gpf hb))); exact qS34)) : p := h
theorem qS330 {p : Prop} (h : p := by exact (fun _ hb => by (try (apply AStepD.uncond 58 rfl (gpf hb))); (try (apply AStepD.uncond 59 rfl (gpf hb))); exact qS34)) : p := h
set_option linter.unusedSimpArgs false
set_option linter.unusedVariables false

def shN (n i : Nat) : BitVec 64 := shareS (n : Nat) (i : Nat)
def allN (n : Nat) : Nat → BitVec 64
  | 0 => 0#64
  | i + 1 => allN n i ||| shN n i
def leastN (n : Nat) : Nat → Nat
  | 0 => 64
  | i + 1 => min (leastN n i) (memS (shN n i)).length
def mostN (n : Nat) : Nat → Nat
  | 0 => 0
  | i + 1 => max (mostN n i) (memS (shN n i)).length
def goodN (n i : Nat) : Bool :=
  let l := memS (shN n i)
  decide (allN n i &&& shN n i = 0#64) && decide (0 < l.length) && decide (l.getD (l.length - 1) 0 - l.getD 0 0 = (l.length : Int) - 1)
set_option maxRecDepth 100000 in
theorem good_all : ∀ n : Fin 17, 1 ≤ n.1 → ((List.range n.1).all fun i => goodN n.1 i) = true ∧ allN n.1 n.1 = 18446744073709551615#64 ∧ mostN n.1 n.1 ≤ leastN n.1 n.1 + 1 ∧ mostN n.1 n.1 ≤ 64 ∧ leastN n.1 n.1 ≤ 64 := by
  decide +kernel
theorem memS_mem {s : BitVec 64} {x : Int} (h : x ∈ memS s) : 0 ≤ x ∧ x < 64 := by
  rw [memS, List.mem_map] at h
  obtain ⟨n, hn, rfl⟩ := h
  rw [memN, List.mem_filter, List.mem_range] at hn
  omega
theorem good_at {n i : Nat} (hn : 1 ≤ n) (hn2 : n ≤ 16) (hi : i < n) : allN n i &&& shN n i = 0#64 ∧ ∃ h : 0 < (memS (shN n i)).length, (memS (shN n i))[(memS (shN n i)).length - 1] - (memS (shN n i))[0] = ((memS (shN n i)).length : Int) - 1 := by
  have h := (good_all ⟨n, by omega⟩ hn).1
  rw [List.all_eq_true] at h
  have h := h i (by simpa using hi)
  simp only [goodN, Bool.and_eq_true, decide_eq_true_eq] at h
  obtain ⟨⟨h1, h2⟩, h3⟩ := h
  refine ⟨h1, h2, ?_⟩
  rw [List.getD_eq_getElem?_getD, List.getD_eq_getElem?_getD, List.getElem?_eq_getElem (by omega), List.getElem?_eq_getElem h2] at h3
  exact h3
theorem share_ok {n i : Nat} (hn : 1 ≤ n) (hn2 : n ≤ 16) (hi : i < n) : shareE (n : Nat) (i : Nat) = 0 := by
  have : okSh (n : Nat) (i : Nat) = true := by simp only [okSh, Bool.and_eq_true, decide_eq_true_eq]; omega
  rw [shareE, this]; rfl

set_option maxHeartbeats 4000000 in
theorem shares_law (H : AHeap) (n k : Int) : ACalls Tryd.prog 7 [.v (.int .i64 n), .v (.int .i64 k)] H (fun r _ => r = .v (.bool true)) := by
  refine ACalls.of_body tok Tryd.func7 rfl Tryd.ntmps7 (Nat.le_of_ble_eq_true rfl) (fun base => ?_)
  refine AW.seq_region (fun K hK => ?_)
  refine AL.step rfl rfl rfl qR211 ?_
  refine AL.nil_then (hK _ _ ?_); clear hK K
  refine AW.seq_k (fun K1 hK1 => ?_)
  refine AW.seq_region (fun K hK => ?_)
  refine AL.step rfl rfl rfl (by exact AStepD.callf rfl en10 rfl (anchor_calls _)) ?_
  refine AL.step rfl rfl rfl (by first | exact AStepD.not rfl rfl | exact AStepD.neg rfl rfl (by first | exact IntWalk.i64_in _ (by omega) | exact IntWalk.i64_in _ (by simp only [Bool.or_eq_true, Bool.and_eq_true, Bool.or_eq_false_iff, Bool.and_eq_false_iff, Bool.not_eq_true', Bool.not_eq_false', decide_eq_true_eq, decide_eq_false_iff_not, Int.not_lt, Int.not_le, beq_iff_eq] at *; omega) | exact rfl)) ?_
  refine AL.nil_then (hK _ _ ?_); clear hK K
  refine AW.cond_false rfl rfl (AW.skip ?_)
  refine hK1 _ _ ?_; try clear hK1 K1
  refine AW.seq_region (fun K hK => ?_)
  refine AL.step rfl rfl rfl qR212 ?_
  refine AL.step rfl rfl rfl qR212 ?_
  refine AL.step rfl rfl rfl (by exact AStepD.callf rfl en21 rfl (share_calls _ n k)) ?_
  refine AL.step rfl rfl rfl qR212 ?_
  refine AL.step rfl rfl rfl qR51 ?_
  refine AL.step rfl rfl rfl qR51 ?_
  refine AL.step rfl rfl rfl qR211 ?_
  refine AL.step rfl rfl rfl qR211 ?_
  refine AL.nil_then (hK _ _ ?_); clear hK K
  refine AW.seq_k (fun K2 hK2 => ?_)
  refine AW.seq_region (fun K hK => ?_)
  refine AL.step rfl rfl rfl qR212 ?_
  refine AL.step rfl rfl rfl qR27 ?_
  refine AL.step rfl rfl rfl qR212 ?_
  first | refine AL.gstep rfl rfl rfl rfl rfl rfl rfl qR212 ?_ | refine AL.gskip rfl rfl rfl rfl rfl rfl rfl ?_ | refine AL.gnone rfl rfl rfl rfl rfl ?_ | refine AL.gmay rfl rfl rfl rfl rfl rfl qR221 ?_ | refine AL.gmay2 rfl rfl rfl rfl rfl rfl qR222 ?_
  first | refine AL.gstep rfl rfl rfl rfl rfl rfl rfl qR414 ?_ | refine AL.gskip rfl rfl rfl rfl rfl rfl rfl ?_ | refine AL.gnone rfl rfl rfl rfl rfl ?_ | refine AL.gmay rfl rfl rfl rfl rfl rfl (fun hb => by (try (apply AStepD.uncond 25 rfl (gpf hb))); exact qR414) ?_ | refine AL.gmay2 rfl rfl rfl rfl rfl rfl (fun _ hb => by (try (apply AStepD.uncond 25 rfl (gpf hb))); exact qR414) ?_
  refine AL.step rfl rfl rfl qR216 ?_
  refine AL.step rfl rfl rfl qR212 ?_
  first | refine AL.gstep rfl rfl rfl rfl rfl rfl rfl qR212 ?_ | refine AL.gskip rfl rfl rfl rfl rfl rfl rfl ?_ | refine AL.gnone rfl rfl rfl rfl rfl ?_ | refine AL.gmay rfl rfl rfl rfl rfl rfl qR219 ?_ | refine AL.gmay2 rfl rfl rfl rfl rfl rfl qR220 ?_
  first | refine AL.gstep rfl rfl rfl rfl rfl rfl rfl qR27 ?_ | refine AL.gskip rfl rfl rfl rfl rfl rfl rfl ?_ | refine AL.gnone rfl rfl rfl rfl rfl ?_ | refine AL.gmay rfl rfl rfl rfl rfl rfl (fun hb => by (try (apply AStepD.uncond 29 rfl (gpf hb))); exact qR27) ?_ | refine AL.gmay2 rfl rfl rfl rfl rfl rfl (fun _ hb => by (try (apply AStepD.uncond 29 rfl (gpf hb))); exact qR27) ?_
  refine AL.step rfl rfl rfl qR216 ?_
  refine AL.step rfl rfl rfl qR212 ?_
  first | refine AL.gstep rfl rfl rfl rfl rfl rfl rfl qR212 ?_ | refine AL.gskip rfl rfl rfl rfl rfl rfl rfl ?_ | refine AL.gnone rfl rfl rfl rfl rfl ?_ | refine AL.gmay rfl rfl rfl rfl rfl rfl qR219 ?_ | refine AL.gmay2 rfl rfl rfl rfl rfl rfl qR220 ?_
  first | refine AL.gstep rfl rfl rfl rfl rfl rfl rfl qR212 ?_ | refine AL.gskip rfl rfl rfl rfl rfl rfl rfl ?_ | refine AL.gnone rfl rfl rfl rfl rfl ?_ | refine AL.gmay rfl rfl rfl rfl rfl rfl qR221 ?_ | refine AL.gmay2 rfl rfl rfl rfl rfl rfl qR222 ?_
  first | refine AL.gstep rfl rfl rfl rfl rfl rfl rfl qR29 ?_ | refine AL.gskip rfl rfl rfl rfl rfl rfl rfl ?_ | refine AL.gnone rfl rfl rfl rfl rfl ?_ | refine AL.gmay rfl rfl rfl rfl rfl rfl (fun hb => by (try (apply AStepD.uncond 33 rfl (gpf hb))); (try (apply AStepD.uncond 34 rfl (gpf hb))); exact qR29) ?_ | refine AL.gmay2 rfl rfl rfl rfl rfl rfl (fun _ hb => by (try (apply AStepD.uncond 33 rfl (gpf hb))); (try (apply AStepD.uncond 34 rfl (gpf hb))); exact qR29) ?_
  refine AL.step rfl rfl rfl qR216 ?_
  refine AL.nil_then (hK _ _ ?_); clear hK K
  refine AW.cond _ rfl (fun hc => ?_) (fun hc => ?_)
  · have hno : okSh n k = false := by
      simp only [Bool.or_eq_true, decide_eq_true_eq] at hc
      simp only [okSh, Bool.and_eq_false_iff, decide_eq_false_iff_not]; omega
    have hS : shareS n k = 0#64 ∧ shareE n k = 10 := by rw [shareS, shareE, hno]; exact ⟨rfl, rfl⟩
    clear hc
    refine AW.seq_region (fun K hK => ?_)
    refine AL.step rfl rfl rfl qR212 ?_
    refine AL.step rfl rfl rfl (by exact AStepD.bool (AStepD.eql rfl rfl rfl) (c := true) (by rw [hS.2]; rfl)) ?_
    refine AL.step rfl rfl rfl qR212 ?_
    first | refine AL.gstep rfl rfl rfl rfl rfl rfl rfl qR212 ?_ | refine AL.gskip rfl rfl rfl rfl rfl rfl rfl ?_ | refine AL.gnone rfl rfl rfl rfl rfl ?_ | refine AL.gmay rfl rfl rfl rfl rfl rfl qR41 ?_ | refine AL.gmay2 rfl rfl rfl rfl rfl rfl qR42 ?_
    first | refine AL.gstep rfl rfl rfl rfl rfl rfl rfl (by exact AStepD.bool (AStepD.eql rfl rfl rfl) (c := true) (by rw [hS.1]; rfl)) ?_ | refine AL.gskip rfl rfl rfl rfl rfl rfl rfl ?_ | refine AL.gnone rfl rfl rfl rfl rfl ?_ | refine AL.gmay rfl rfl rfl rfl rfl rfl (fun hb => by (try (apply AStepD.uncond 40 rfl (gpf hb))); exact (by exact AStepD.bool (AStepD.eql rfl rfl rfl) (c := true) (by rw [hS.1]; rfl))) ?_ | refine AL.gmay2 rfl rfl rfl rfl rfl rfl (fun _ hb => by (try (apply AStepD.uncond 40 rfl (gpf hb))); exact (by exact AStepD.bool (AStepD.eql rfl rfl rfl) (c := true) (by rw [hS.1]; rfl))) ?_
    refine AL.step rfl rfl rfl qR216 ?_
    refine AL.step rfl rfl rfl qR211 ?_
    refine AL.nil_then (hK _ _ ?_); clear hK K
    exact AW.ret (RetQ.mk (.inr rfl) (retA_tmp rfl qR21 retA_nil) rfl)
  have hb : 1 ≤ n ∧ n ≤ 16 ∧ 0 ≤ k ∧ k < n := by
    simp only [Bool.or_eq_false_iff, decide_eq_false_iff_not] at hc
    omega
  clear hc
  obtain ⟨n, rfl⟩ := Int.eq_ofNat_of_zero_le (show 0 ≤ n by omega)
  obtain ⟨k, rfl⟩ := Int.eq_ofNat_of_zero_le (show 0 ≤ k by omega)
  have hn1 : 1 ≤ n := by omega
  have hn2 : n ≤ 16 := by omega
  have hkn : k < n := by omega
  clear hb
  rw [share_ok hn1 hn2 hkn, show shareS (n : Nat) (k : Nat) = shN n k from rfl]
  refine AW.skip ?_
  refine hK2 _ _ ?_; try clear hK2 K2
  refine AW.seq_region (fun K hK => ?_)
  refine AL.step rfl rfl rfl qR211 ?_
  refine AL.nil_then (hK _ _ ?_); clear hK K
  refine AW.seq_region (fun K hK => ?_)
  refine AL.step rfl rfl rfl qR211 ?_
  refine AL.step rfl rfl rfl qR211 ?_
  refine AL.nil_then (hK _ _ ?_); clear hK K
  refine AW.seq_k (fun K3 hK3 => ?_)
  refine AW.seq_region (fun K hK => ?_)
  refine AL.step rfl rfl rfl qR212 ?_
  refine AL.step rfl rfl rfl qR212 ?_
  refine AL.nil_then (hK _ _ ?_); clear hK K
  refine AW.block ?_
  refine AW.loop_at (ι := Nat) (fun i => [(44, .v (.int .i64 (i : Nat))), (43, .v (.int .i64 (n : Nat))), (9, .v (.int .i64 (mostN n i : Nat))), (8, .v (.int .i64 (leastN n i : Nat))), (7, u64A (allN n i)), (6, .v (.int .i64 0)), (5, u64A (shN n k)), (1, .v (.int .i64 (k : Nat))), (0, .v (.int .i64 (n : Nat)))])
    (fun i H' => i ≤ n) (fun i => n - i) 0 qR215 (by omega) ?_
  rintro i H2 hi
  refine AW.seq_region (fun K hK => ?_)
  refine AL.step rfl rfl rfl qR27 ?_
  refine AL.nil_then (hK _ _ ?_); clear hK K
  refine AW.seq_k (fun K4 hK4 => ?_)
  refine AW.cond _ rfl (fun hc => ?_) (fun hc => ?_)
  · have hin : i < n := by
      have := of_decide_eq_true hc
      omega
    clear hc
    obtain ⟨g1, g2, g3⟩ := good_at hn1 hn2 hin
    have hml := memS_length (shN n i)
    have hok := share_ok hn1 hn2 hin
    have b1 := memS_mem (List.getElem_mem (l := memS (shN n i)) (n := 0) g2)
    have b2 := memS_mem (List.getElem_mem (l := memS (shN n i)) (n := (memS (shN n i)).length - 1) (by omega))
    refine AW.skip ?_
    refine hK4 _ _ ?_; try clear hK4 K4
    refine AW.seq_k (fun K5 hK5 => ?_)
    refine AW.block ?_
    refine AW.seq_region (fun K hK => ?_)
    refine AL.step rfl rfl rfl qR212 ?_
    refine AL.step rfl rfl rfl qR211 ?_
    refine AL.nil_then (hK _ _ ?_); clear hK K
    refine AW.seq_region (fun K hK => ?_)
    refine AL.step rfl rfl rfl qR212 ?_
    refine AL.step rfl rfl rfl qR212 ?_
    refine AL.step rfl rfl rfl (by exact AStepD.callf rfl en21 rfl (share_calls _ (n : Nat) (i : Nat))) ?_
    refine AL.step rfl rfl rfl qR212 ?_
    refine AL.step rfl rfl rfl qR51 ?_
    refine AL.step rfl rfl rfl qR51 ?_
    refine AL.step rfl rfl rfl qR211 ?_
    refine AL.step rfl rfl rfl qR211 ?_
    refine AL.nil_then (hK _ _ ?_); clear hK K
    rw [hok, show shareS (n : Nat) (i : Nat) = shN n i from rfl]
    refine AW.seq_region (fun K hK => ?_)
    refine AL.step rfl rfl rfl qR212 ?_
    refine AL.step rfl rfl rfl (by exact AStepD.callf rfl en20 rfl (list_calls _ (shN n i))) ?_
    refine AL.step rfl rfl rfl qR211 ?_
    refine AL.nil_then (hK _ _ ?_); clear hK K
    refine AW.seq_k (fun K6 hK6 => ?_)
    have hgo : ∀ T', SubT T' [(44, .v (.int .i64 (i : Nat))), (43, .v (.int .i64 (n : Nat))), (13, vecA (memS (shN n i))), (11, u64A (shN n i)), (9, .v (.int .i64 (mostN n i : Nat))), (8, .v (.int .i64 (leastN n i : Nat))), (7, u64A (allN n i)), (6, .v (.int .i64 0)), (5, u64A (shN n k)), (1, .v (.int .i64 (k : Nat))), (0, .v (.int .i64 (n : Nat)))] → K6 T' H2 := fun T' hT' => by
      refine hK6 _ _ ?_
      refine AW.sub hT' ?_
      clear hT' hK6 K6
      refine AW.seq_region (fun K hK => ?_)
      refine AL.step rfl rfl rfl qR212 ?_
      refine AL.step rfl rfl rfl qR212 ?_
      refine AL.step rfl rfl rfl (by exact AStepD.bv_or rfl rfl rfl) ?_
      refine AL.step rfl rfl rfl qR211 ?_
      refine AL.nil_then (hK _ _ ?_); clear hK K
      refine AW.region ?_
      refine AL.step rfl rfl rfl qR212 ?_
      refine AL.step rfl rfl rfl qR212 ?_
      refine AL.step rfl rfl rfl qS24 ?_
      refine AL.step rfl rfl rfl (by exact AStepD.min2 (r := (leastN n (i + 1) : Nat)) rfl rfl rfl (by rw [leastN]; split <;> omega)) ?_
      refine AL.step rfl rfl rfl qR212 ?_
      refine AL.step rfl rfl rfl qR212 ?_
      refine AL.step rfl rfl rfl qS24 ?_
      refine AL.step rfl rfl rfl (by exact AStepD.max2 (r := (mostN n (i + 1) : Nat)) rfl rfl rfl (by rw [mostN]; split <;> omega)) ?_
      refine AL.step rfl rfl rfl qR211 ?_
      refine AL.step rfl rfl rfl qR211 ?_
      refine AL.nil ?_
      refine hK5 _ _ ?_; try clear hK5 K5
      refine AW.region ?_
      refine AL.step rfl rfl rfl (by first | exact AStepD.add rfl rfl rfl (by first | exact IntWalk.i64_in _ (by omega) | exact IntWalk.i64_in _ (by simp only [Bool.or_eq_true, Bool.and_eq_true, Bool.or_eq_false_iff, Bool.and_eq_false_iff, Bool.not_eq_true', Bool.not_eq_false', decide_eq_true_eq, decide_eq_false_iff_not, Int.not_lt, Int.not_le, beq_iff_eq] at *; omega) | exact rfl) | exact AStepD.str_add rfl rfl rfl (by omega)) ?_
      refine AL.step rfl rfl rfl qR212 ?_
      refine AL.nil ?_
      exact ⟨i + 1, by omega, qR215, by omega⟩
    by_cases hik : i = k
    · refine AW.seq_k (fun K hK => ?_)
      apply AW.draw mixed [_, _, _, _, _, _, _, _, _, _, _, _, _, _, _, _, _, _, _, _, _, _, _, _, _, _, _, _, _, _, _, _, _, _, _, _, _, _, _] [] [_] [(0, 0), (1, 0), (2, 0), (3, 0), (4, 0), (5, 0), (6, 0), (7, 0), (8, 0), (9, 0), (10, 0), (11, 0), (12, 0), (13, 0), (14, 0), (15, 0), (16, 0), (17, 0), (18, 0), (19, 0), (20, 0), (21, 0), (22, 0), (23, 0), (24, 0), (25, 0), (26, 0), (27, 0), (28, 0), (29, 0), (30, 0), (31, 0), (32, 0), (33, 0), (34, 0), (35, 0), (36, 0), (37, 0), (38, 0)] rfl rfl rfl qS31
      · refine ⟨?_, ?_, ?_, ?_, ?_, ?_, ?_, ?_, ?_, ?_, ?_, ?_, ?_, ?_, ?_, ?_, ?_, ?_, ?_, ?_, ?_, ?_, ?_, ?_, ?_, ?_, ?_, ?_, ?_, ?_, ?_, ?_, ?_, ?_, ?_, ?_, ?_, ?_, ?_⟩
        · refine Ob.mk _ [12] 0 rfl rfl (restr_cons qR21 restr_nil) rfl ?_
          simp only [List.getD_cons_zero, List.getD_cons_succ]
          exact GStep.plain rfl qR212
        · refine Ob.mk _ [55] 0 rfl rfl (restr_cons qR21 restr_nil) rfl ?_
          simp only [List.getD_cons_zero, List.getD_cons_succ]
          exact GStep.plain rfl (by exact AStepD.bool (AStepD.neq rfl rfl rfl) (c := false) (by simp))
        · refine Ob.mk _ [56] 0 rfl rfl (restr_cons qR21 restr_nil) rfl ?_
          simp only [List.getD_cons_zero, List.getD_cons_succ]
          exact GStep.plain rfl qR212
        · refine Ob.mk _ [7, 57] 0 rfl rfl (restr_cons qR21 (restr_cons qR21 restr_nil)) rfl ?_
          simp only [List.getD_cons_zero, List.getD_cons_succ]
          first | exact GStep.yes rfl rfl rfl rfl rfl qR212 | exact GStep.no rfl rfl rfl rfl rfl | exact GStep.none rfl rfl rfl | exact GStep.may rfl rfl rfl rfl qR217 | exact GStep.may2 rfl rfl rfl rfl qR218
        · refine Ob.mk _ [11, 57] 0 rfl rfl (restr_cons qR21 (restr_cons qR21 restr_nil)) rfl ?_
          simp only [List.getD_cons_zero, List.getD_cons_succ]
          first | exact GStep.yes rfl rfl rfl rfl rfl qR212 | exact GStep.no rfl rfl rfl rfl rfl | exact GStep.none rfl rfl rfl | exact GStep.may rfl rfl rfl rfl qS32 | exact GStep.may2 rfl rfl rfl rfl qS33
        · refine Ob.mk _ [58, 59, 57] 0 rfl rfl (restr_cons qR21 (restr_cons qR21 (restr_cons qR21 restr_nil))) rfl ?_
          simp only [List.getD_cons_zero, List.getD_cons_succ]
          first | exact GStep.yes rfl rfl rfl rfl rfl qS34 | exact GStep.no rfl rfl rfl rfl rfl | exact GStep.none rfl rfl rfl | exact GStep.may rfl rfl rfl rfl qS329 | exact GStep.may2 rfl rfl rfl rfl qS330
        · refine Ob.mk _ [60, 57] 0 rfl rfl (restr_cons qR21 (restr_cons qR21 restr_nil)) rfl ?_
          simp only [List.getD_cons_zero, List.getD_cons_succ]
          first | exact GStep.yes rfl rfl rfl rfl rfl (by exact AStepD.bool (AStepD.neq rfl rfl rfl) (c := false) (by rw [g1]; simp)) | exact GStep.no rfl rfl rfl rfl rfl | exact GStep.none rfl rfl rfl | exact GStep.may rfl rfl rfl rfl (fun hb => by (try (apply AStepD.uncond 60 rfl (gpf hb))); exact (by exact AStepD.bool (AStepD.neq rfl rfl rfl) (c := false) (by rw [g1]; simp))) | exact GStep.may2 rfl rfl rfl rfl (fun _ hb => by (try (apply AStepD.uncond 60 rfl (gpf hb))); exact (by exact AStepD.bool (AStepD.neq rfl rfl rfl) (c := false) (by rw [g1]; simp)))
        · refine Ob.mk _ [57, 61] 0 rfl rfl (restr_cons qR21 (restr_cons qR21 restr_nil)) rfl ?_
          simp only [List.getD_cons_zero, List.getD_cons_succ]
          exact GStep.plain rfl qR216
        · refine Ob.mk _ [62] 0 rfl rfl (restr_cons qR21 restr_nil) rfl ?_
          simp only [List.getD_cons_zero, List.getD_cons_succ]
          exact GStep.plain rfl qR212
        · refine Ob.mk _ [13, 63] 0 rfl rfl (restr_cons qR21 (restr_cons qR21 restr_nil)) rfl ?_
          simp only [List.getD_cons_zero, List.getD_cons_succ]
          first | exact GStep.yes rfl rfl rfl rfl rfl qR212 | exact GStep.no rfl rfl rfl rfl rfl | exact GStep.none rfl rfl rfl | exact GStep.may rfl rfl rfl rfl qS35 | exact GStep.may2 rfl rfl rfl rfl qS36
        · refine Ob.mk _ [64, 63] 0 rfl rfl (restr_cons qR21 (restr_cons qR21 restr_nil)) rfl ?_
          simp only [List.getD_cons_zero, List.getD_cons_succ]
          first | exact GStep.yes rfl rfl rfl rfl rfl qS24 | exact GStep.no rfl rfl rfl rfl rfl | exact GStep.none rfl rfl rfl | exact GStep.may rfl rfl rfl rfl qS37 | exact GStep.may2 rfl rfl rfl rfl qS38
        · refine Ob.mk _ [65, 63] 0 rfl rfl (restr_cons qR21 (restr_cons qR21 restr_nil)) rfl ?_
          simp only [List.getD_cons_zero, List.getD_cons_succ]
          first | exact GStep.yes rfl rfl rfl rfl rfl (by exact AStepD.bool (AStepD.eql rfl rfl rfl) (c := false) (decide_eq_false (by omega))) | exact GStep.no rfl rfl rfl rfl rfl | exact GStep.none rfl rfl rfl | exact GStep.may rfl rfl rfl rfl (fun hb => by (try (apply AStepD.uncond 65 rfl (gpf hb))); exact (by exact AStepD.bool (AStepD.eql rfl rfl rfl) (c := false) (decide_eq_false (by omega)))) | exact GStep.may2 rfl rfl rfl rfl (fun _ hb => by (try (apply AStepD.uncond 65 rfl (gpf hb))); exact (by exact AStepD.bool (AStepD.eql rfl rfl rfl) (c := false) (decide_eq_false (by omega))))
        · refine Ob.mk _ [63, 66] 0 rfl rfl (restr_cons qR21 (restr_cons qR21 restr_nil)) rfl ?_
          simp only [List.getD_cons_zero, List.getD_cons_succ]
          exact GStep.plain rfl qR216
        · refine Ob.mk _ [67] 0 rfl rfl (restr_cons qR21 restr_nil) rfl ?_
          simp only [List.getD_cons_zero, List.getD_cons_succ]
          exact GStep.plain rfl qR212
        · refine Ob.mk _ [13, 68] 0 rfl rfl (restr_cons qR21 (restr_cons qR21 restr_nil)) rfl ?_
          simp only [List.getD_cons_zero, List.getD_cons_succ]
          first | exact GStep.yes rfl rfl rfl rfl rfl qR212 | exact GStep.no rfl rfl rfl rfl rfl | exact GStep.none rfl rfl rfl | exact GStep.may rfl rfl rfl rfl qS35 | exact GStep.may2 rfl rfl rfl rfl qS36
        · refine Ob.mk _ [13, 68] 0 rfl rfl (restr_cons qR21 (restr_cons qR21 restr_nil)) rfl ?_
          simp only [List.getD_cons_zero, List.getD_cons_succ]
          first | exact GStep.yes rfl rfl rfl rfl rfl qR212 | exact GStep.no rfl rfl rfl rfl rfl | exact GStep.none rfl rfl rfl | exact GStep.may rfl rfl rfl rfl qS35 | exact GStep.may2 rfl rfl rfl rfl qS36
        · refine Ob.mk _ [70, 68] 0 rfl rfl (restr_cons qR21 (restr_cons qR21 restr_nil)) rfl ?_
          simp only [List.getD_cons_zero, List.getD_cons_succ]
          first | exact GStep.yes rfl rfl rfl rfl rfl qS24 | exact GStep.no rfl rfl rfl rfl rfl | exact GStep.none rfl rfl rfl | exact GStep.may rfl rfl rfl rfl qS39 | exact GStep.may2 rfl rfl rfl rfl qS310
        · refine Ob.mk _ [71, 68] 0 rfl rfl (restr_cons qR21 (restr_cons qR21 restr_nil)) rfl ?_
          simp only [List.getD_cons_zero, List.getD_cons_succ]
          first | exact GStep.yes rfl rfl rfl rfl rfl (by exact AStepD.sub (r := (((memS (shN n i)).length - 1 : Nat) : Int)) rfl rfl rfl (by rw [show ((memS (shN n i)).length : Int) - 1 = (((memS (shN n i)).length - 1 : Nat) : Int) by omega]; exact IntWalk.i64_in _ (by omega))) | exact GStep.no rfl rfl rfl rfl rfl | exact GStep.none rfl rfl rfl | exact GStep.may rfl rfl rfl rfl (fun hb => by (try (apply AStepD.uncond 71 rfl (gpf hb))); exact (by exact AStepD.sub (r := (((memS (shN n i)).length - 1 : Nat) : Int)) rfl rfl rfl (by rw [show ((memS (shN n i)).length : Int) - 1 = (((memS (shN n i)).length - 1 : Nat) : Int) by omega]; exact IntWalk.i64_in _ (by omega)))) | exact GStep.may2 rfl rfl rfl rfl (fun _ hb => by (try (apply AStepD.uncond 71 rfl (gpf hb))); exact (by exact AStepD.sub (r := (((memS (shN n i)).length - 1 : Nat) : Int)) rfl rfl rfl (by rw [show ((memS (shN n i)).length : Int) - 1 = (((memS (shN n i)).length - 1 : Nat) : Int) by omega]; exact IntWalk.i64_in _ (by omega))))
        · refine Ob.mk _ [69, 72, 68] 0 rfl rfl (restr_cons qR21 (restr_cons qR21 (restr_cons qR21 restr_nil))) rfl ?_
          simp only [List.getD_cons_zero, List.getD_cons_succ]
          first | exact GStep.yes rfl rfl rfl rfl rfl qR310 | exact GStep.no rfl rfl rfl rfl rfl | exact GStep.none rfl rfl rfl | exact GStep.may rfl rfl rfl rfl qS311 | exact GStep.may2 rfl rfl rfl rfl qS312
        · refine Ob.mk _ [73, 68] 0 rfl rfl (restr_cons qR21 (restr_cons qR21 restr_nil)) rfl ?_
          simp only [List.getD_cons_zero, List.getD_cons_succ]
          first | exact GStep.yes rfl rfl rfl rfl rfl qR415 | exact GStep.no rfl rfl rfl rfl rfl | exact GStep.none rfl rfl rfl | exact GStep.may rfl rfl rfl rfl qS313 | exact GStep.may2 rfl rfl rfl rfl qS314
        · refine Ob.mk _ [13, 68] 0 rfl rfl (restr_cons qR21 (restr_cons qR21 restr_nil)) rfl ?_
          simp only [List.getD_cons_zero, List.getD_cons_succ]
          first | exact GStep.yes rfl rfl rfl rfl rfl qR212 | exact GStep.no rfl rfl rfl rfl rfl | exact GStep.none rfl rfl rfl | exact GStep.may rfl rfl rfl rfl qS35 | exact GStep.may2 rfl rfl rfl rfl qS36
        · refine Ob.mk _ [75, 68] 0 rfl rfl (restr_cons qR21 (restr_cons qR21 restr_nil)) rfl ?_
          simp only [List.getD_cons_zero, List.getD_cons_succ]
          first | exact GStep.yes rfl rfl rfl rfl rfl qR310 | exact GStep.no rfl rfl rfl rfl rfl | exact GStep.none rfl rfl rfl | exact GStep.may rfl rfl rfl rfl qS315 | exact GStep.may2 rfl rfl rfl rfl qS316
        · refine Ob.mk _ [76, 68] 0 rfl rfl (restr_cons qR21 (restr_cons qR21 restr_nil)) rfl ?_
          simp only [List.getD_cons_zero, List.getD_cons_succ]
          first | exact GStep.yes rfl rfl rfl rfl rfl qR415 | exact GStep.no rfl rfl rfl rfl rfl | exact GStep.none rfl rfl rfl | exact GStep.may rfl rfl rfl rfl qS317 | exact GStep.may2 rfl rfl rfl rfl qS318
        · refine Ob.mk _ [74, 77, 68] 0 rfl rfl (restr_cons qR21 (restr_cons qR21 (restr_cons qR21 restr_nil))) rfl ?_
          simp only [List.getD_cons_zero, List.getD_cons_succ]
          first | exact GStep.yes rfl rfl rfl rfl rfl (by exact AStepD.sub (r := ((memS (shN n i)).length : Int) - 1) rfl rfl rfl (by rw [g3]; exact IntWalk.i64_in _ (by omega))) | exact GStep.no rfl rfl rfl rfl rfl | exact GStep.none rfl rfl rfl | exact GStep.may rfl rfl rfl rfl (fun hb => by (try (apply AStepD.uncond 74 rfl (gpf hb))); (try (apply AStepD.uncond 77 rfl (gpf hb))); exact (by exact AStepD.sub (r := ((memS (shN n i)).length : Int) - 1) rfl rfl rfl (by rw [g3]; exact IntWalk.i64_in _ (by omega)))) | exact GStep.may2 rfl rfl rfl rfl (fun _ hb => by (try (apply AStepD.uncond 74 rfl (gpf hb))); (try (apply AStepD.uncond 77 rfl (gpf hb))); exact (by exact AStepD.sub (r := ((memS (shN n i)).length : Int) - 1) rfl rfl rfl (by rw [g3]; exact IntWalk.i64_in _ (by omega))))
        · refine Ob.mk _ [13, 68] 0 rfl rfl (restr_cons qR21 (restr_cons qR21 restr_nil)) rfl ?_
          simp only [List.getD_cons_zero, List.getD_cons_succ]
          first | exact GStep.yes rfl rfl rfl rfl rfl qR212 | exact GStep.no rfl rfl rfl rfl rfl | exact GStep.none rfl rfl rfl | exact GStep.may rfl rfl rfl rfl qS35 | exact GStep.may2 rfl rfl rfl rfl qS36
        · refine Ob.mk _ [79, 68] 0 rfl rfl (restr_cons qR21 (restr_cons qR21 restr_nil)) rfl ?_
          simp only [List.getD_cons_zero, List.getD_cons_succ]
          first | exact GStep.yes rfl rfl rfl rfl rfl qS24 | exact GStep.no rfl rfl rfl rfl rfl | exact GStep.none rfl rfl rfl | exact GStep.may rfl rfl rfl rfl qS319 | exact GStep.may2 rfl rfl rfl rfl qS320
        · refine Ob.mk _ [80, 68] 0 rfl rfl (restr_cons qR21 (restr_cons qR21 restr_nil)) rfl ?_
          simp only [List.getD_cons_zero, List.getD_cons_succ]
          first | exact GStep.yes rfl rfl rfl rfl rfl (by exact AStepD.sub rfl rfl rfl (by first | exact IntWalk.i64_in _ (by omega) | exact IntWalk.i64_in _ (by simp only [Bool.or_eq_true, Bool.and_eq_true, Bool.or_eq_false_iff, Bool.and_eq_false_iff, Bool.not_eq_true', Bool.not_eq_false', decide_eq_true_eq, decide_eq_false_iff_not, Int.not_lt, Int.not_le, beq_iff_eq] at *; omega) | exact rfl)) | exact GStep.no rfl rfl rfl rfl rfl | exact GStep.none rfl rfl rfl | exact GStep.may rfl rfl rfl rfl (fun hb => by (try (apply AStepD.uncond 80 rfl (gpf hb))); exact (by exact AStepD.sub rfl rfl rfl (by first | exact IntWalk.i64_in _ (by omega) | exact IntWalk.i64_in _ (by simp only [Bool.or_eq_true, Bool.and_eq_true, Bool.or_eq_false_iff, Bool.and_eq_false_iff, Bool.not_eq_true', Bool.not_eq_false', decide_eq_true_eq, decide_eq_false_iff_not, Int.not_lt, Int.not_le, beq_iff_eq] at *; omega) | exact rfl))) | exact GStep.may2 rfl rfl rfl rfl (fun _ hb => by (try (apply AStepD.uncond 80 rfl (gpf hb))); exact (by exact AStepD.sub rfl rfl rfl (by first | exact IntWalk.i64_in _ (by omega) | exact IntWalk.i64_in _ (by simp only [Bool.or_eq_true, Bool.and_eq_true, Bool.or_eq_false_iff, Bool.and_eq_false_iff, Bool.not_eq_true', Bool.not_eq_false', decide_eq_true_eq, decide_eq_false_iff_not, Int.not_lt, Int.not_le, beq_iff_eq] at *; omega) | exact rfl)))
        · refine Ob.mk _ [78, 81, 68] 0 rfl rfl (restr_cons qR21 (restr_cons qR21 (restr_cons qR21 restr_nil))) rfl ?_
          simp only [List.getD_cons_zero, List.getD_cons_succ]
          first | exact GStep.yes rfl rfl rfl rfl rfl (by exact AStepD.bool (AStepD.neq rfl rfl rfl) (c := false) (by simp)) | exact GStep.no rfl rfl rfl rfl rfl | exact GStep.none rfl rfl rfl | exact GStep.may rfl rfl rfl rfl (fun hb => by (try (apply AStepD.uncond 78 rfl (gpf hb))); (try (apply AStepD.uncond 81 rfl (gpf hb))); exact (by exact AStepD.bool (AStepD.neq rfl rfl rfl) (c := false) (by simp))) | exact GStep.may2 rfl rfl rfl rfl (fun _ hb => by (try (apply AStepD.uncond 78 rfl (gpf hb))); (try (apply AStepD.uncond 81 rfl (gpf hb))); exact (by exact AStepD.bool (AStepD.neq rfl rfl rfl) (c := false) (by simp)))
        · refine Ob.mk _ [68, 82] 0 rfl rfl (restr_cons qR21 (restr_cons qR21 restr_nil)) rfl ?_
          simp only [List.getD_cons_zero, List.getD_cons_succ]
          exact GStep.plain rfl qR216
        · refine Ob.mk _ [83] 0 rfl rfl (restr_cons qR21 restr_nil) rfl ?_
          simp only [List.getD_cons_zero, List.getD_cons_succ]
          exact GStep.plain rfl qR212
        · refine Ob.mk _ [10, 84] 0 rfl rfl (restr_cons qR21 (restr_cons qR21 restr_nil)) rfl ?_
          simp only [List.getD_cons_zero, List.getD_cons_succ]
          first | exact GStep.yes rfl rfl rfl rfl rfl qR212 | exact GStep.no rfl rfl rfl rfl rfl | exact GStep.none rfl rfl rfl | exact GStep.may rfl rfl rfl rfl qS321 | exact GStep.may2 rfl rfl rfl rfl qS322
        · refine Ob.mk _ [1, 84] 0 rfl rfl (restr_cons qR21 (restr_cons qR21 restr_nil)) rfl ?_
          simp only [List.getD_cons_zero, List.getD_cons_succ]
          first | exact GStep.yes rfl rfl rfl rfl rfl qR212 | exact GStep.no rfl rfl rfl rfl rfl | exact GStep.none rfl rfl rfl | exact GStep.may rfl rfl rfl rfl qR219 | exact GStep.may2 rfl rfl rfl rfl qR220
        · refine Ob.mk _ [85, 86, 84] 0 rfl rfl (restr_cons qR21 (restr_cons qR21 (restr_cons qR21 restr_nil))) rfl ?_
          simp only [List.getD_cons_zero, List.getD_cons_succ]
          first | exact GStep.yes rfl rfl rfl rfl rfl (by exact AStepD.bool (AStepD.eql rfl rfl rfl) (c := true) (decide_eq_true (by omega))) | exact GStep.no rfl rfl rfl rfl rfl | exact GStep.none rfl rfl rfl | exact GStep.may rfl rfl rfl rfl (fun hb => by (try (apply AStepD.uncond 85 rfl (gpf hb))); (try (apply AStepD.uncond 86 rfl (gpf hb))); exact (by exact AStepD.bool (AStepD.eql rfl rfl rfl) (c := true) (decide_eq_true (by omega)))) | exact GStep.may2 rfl rfl rfl rfl (fun _ hb => by (try (apply AStepD.uncond 85 rfl (gpf hb))); (try (apply AStepD.uncond 86 rfl (gpf hb))); exact (by exact AStepD.bool (AStepD.eql rfl rfl rfl) (c := true) (decide_eq_true (by omega))))
        · refine Ob.mk _ [87, 84] 0 rfl rfl (restr_cons qR21 (restr_cons qR21 restr_nil)) rfl ?_
          simp only [List.getD_cons_zero, List.getD_cons_succ]
          first | exact GStep.yes rfl rfl rfl rfl rfl qR212 | exact GStep.no rfl rfl rfl rfl rfl | exact GStep.none rfl rfl rfl | exact GStep.may rfl rfl rfl rfl qS323 | exact GStep.may2 rfl rfl rfl rfl qS324
        · refine Ob.mk _ [11, 88] 0 rfl rfl (restr_cons qR21 (restr_cons qR21 restr_nil)) rfl ?_
          simp only [List.getD_cons_zero, List.getD_cons_succ]
          first | exact GStep.yes rfl rfl rfl rfl rfl qR212 | exact GStep.no rfl rfl rfl rfl rfl | exact GStep.none rfl rfl rfl | exact GStep.may rfl rfl rfl rfl qS32 | exact GStep.may2 rfl rfl rfl rfl qS33
        · refine Ob.mk _ [5, 88] 0 rfl rfl (restr_cons qR21 (restr_cons qR21 restr_nil)) rfl ?_
          simp only [List.getD_cons_zero, List.getD_cons_succ]
          first | exact GStep.yes rfl rfl rfl rfl rfl qR212 | exact GStep.no rfl rfl rfl rfl rfl | exact GStep.none rfl rfl rfl | exact GStep.may rfl rfl rfl rfl qR41 | exact GStep.may2 rfl rfl rfl rfl qR42
        · refine Ob.mk _ [89, 90, 88] 0 rfl rfl (restr_cons qR21 (restr_cons qR21 (restr_cons qR21 restr_nil))) rfl ?_
          simp only [List.getD_cons_zero, List.getD_cons_succ]
          first | exact GStep.yes rfl rfl rfl rfl rfl (by exact AStepD.bool (AStepD.neq rfl rfl rfl) (c := false) (by rw [hik]; simp)) | exact GStep.no rfl rfl rfl rfl rfl | exact GStep.none rfl rfl rfl | exact GStep.may rfl rfl rfl rfl (fun hb => by (try (apply AStepD.uncond 89 rfl (gpf hb))); (try (apply AStepD.uncond 90 rfl (gpf hb))); exact (by exact AStepD.bool (AStepD.neq rfl rfl rfl) (c := false) (by rw [hik]; simp))) | exact GStep.may2 rfl rfl rfl rfl (fun _ hb => by (try (apply AStepD.uncond 89 rfl (gpf hb))); (try (apply AStepD.uncond 90 rfl (gpf hb))); exact (by exact AStepD.bool (AStepD.neq rfl rfl rfl) (c := false) (by rw [hik]; simp)))
        · refine Ob.mk _ [88, 91, 84] 0 rfl rfl (restr_cons qR21 (restr_cons qR21 (restr_cons qR21 restr_nil))) rfl ?_
          simp only [List.getD_cons_zero, List.getD_cons_succ]
          first | exact GStep.yes rfl rfl rfl rfl rfl qR216 | exact GStep.no rfl rfl rfl rfl rfl | exact GStep.none rfl rfl rfl | exact GStep.may rfl rfl rfl rfl qS325 | exact GStep.may2 rfl rfl rfl rfl qS326
        · refine Ob.mk _ [84, 92] 0 rfl rfl (restr_cons qR21 (restr_cons qR21 restr_nil)) rfl ?_
          simp only [List.getD_cons_zero, List.getD_cons_succ]
          exact GStep.plain rfl qR216
      refine hK _ _ ?_; clear hK K
      refine AW.frame qS327 qS328 ?_
      refine AW.cond_false rfl rfl (AW.skip ?_)
      exact hgo _ qR215
    · refine AW.seq_k (fun K hK => ?_)
      apply AW.draw mixed [_, _, _, _, _, _, _, _, _, _, _, _, _, _, _, _, _, _, _, _, _, _, _, _, _, _, _, _, _, _, _, _, _, _, _, _, _, _, _] [] [_] [(0, 0), (1, 0), (2, 0), (3, 0), (4, 0), (5, 0), (6, 0), (7, 0), (8, 0), (9, 0), (10, 0), (11, 0), (12, 0), (13, 0), (14, 0), (15, 0), (16, 0), (17, 0), (18, 0), (19, 0), (20, 0), (21, 0), (22, 0), (23, 0), (24, 0), (25, 0), (26, 0), (27, 0), (28, 0), (29, 0), (30, 0), (31, 0), (32, 0), (33, 0), (34, 0), (35, 0), (36, 0), (37, 0), (38, 0)] rfl rfl rfl qS31
      · refine ⟨?_, ?_, ?_, ?_, ?_, ?_, ?_, ?_, ?_, ?_, ?_, ?_, ?_, ?_, ?_, ?_, ?_, ?_, ?_, ?_, ?_, ?_, ?_, ?_, ?_, ?_, ?_, ?_, ?_, ?_, ?_, ?_, ?_, ?_, ?_, ?_, ?_, ?_, ?_⟩
        · refine Ob.mk _ [12] 0 rfl rfl (restr_cons qR21 restr_nil) rfl ?_
          simp only [List.getD_cons_zero, List.getD_cons_succ]
          exact GStep.plain rfl qR212
        · refine Ob.mk _ [55] 0 rfl rfl (restr_cons qR21 restr_nil) rfl ?_
          simp only [List.getD_cons_zero, List.getD_cons_succ]
          exact GStep.plain rfl (by exact AStepD.bool (AStepD.neq rfl rfl rfl) (c := false) (by simp))
        · refine Ob.mk _ [56] 0 rfl rfl (restr_cons qR21 restr_nil) rfl ?_
          simp only [List.getD_cons_zero, List.getD_cons_succ]
          exact GStep.plain rfl qR212
        · refine Ob.mk _ [7, 57] 0 rfl rfl (restr_cons qR21 (restr_cons qR21 restr_nil)) rfl ?_
          simp only [List.getD_cons_zero, List.getD_cons_succ]
          first | exact GStep.yes rfl rfl rfl rfl rfl qR212 | exact GStep.no rfl rfl rfl rfl rfl | exact GStep.none rfl rfl rfl | exact GStep.may rfl rfl rfl rfl qR217 | exact GStep.may2 rfl rfl rfl rfl qR218
        · refine Ob.mk _ [11, 57] 0 rfl rfl (restr_cons qR21 (restr_cons qR21 restr_nil)) rfl ?_
          simp only [List.getD_cons_zero, List.getD_cons_succ]
          first | exact GStep.yes rfl rfl rfl rfl rfl qR212 | exact GStep.no rfl rfl rfl rfl rfl | exact GStep.none rfl rfl rfl | exact GStep.may rfl rfl rfl rfl qS32 | exact GStep.may2 rfl rfl rfl rfl qS33
        · refine Ob.mk _ [58, 59, 57] 0 rfl rfl (restr_cons qR21 (restr_cons qR21 (restr_cons qR21 restr_nil))) rfl ?_
          simp only [List.getD_cons_zero, List.getD_cons_succ]
          first | exact GStep.yes rfl rfl rfl rfl rfl qS34 | exact GStep.no rfl rfl rfl rfl rfl | exact GStep.none rfl rfl rfl | exact GStep.may rfl rfl rfl rfl qS329 | exact GStep.may2 rfl rfl rfl rfl qS330
        · refine Ob.mk _ [60, 57] 0 rfl rfl (restr_cons qR21 (restr_cons qR21 restr_nil)) rfl ?_
          simp only [List.getD_cons_zero, List.getD_cons_succ]
          first | exact GStep.yes rfl rfl rfl rfl rfl (by exact AStepD.bool (AStepD.neq rfl rfl rfl) (c := false) (by rw [g1]; simp)) | exact GStep.no rfl rfl rfl rfl rfl | exact GStep.none rfl rfl rfl | exact GStep.may rfl rfl rfl rfl (fun hb => by (try (apply AStepD.uncond 60 rfl (gpf hb))); exact (by exact AStepD.bool (AStepD.neq rfl rfl rfl) (c := false) (by rw [g1]; simp))) | exact GStep.may2 rfl rfl rfl rfl (fun _ hb => by (try (apply AStepD.uncond 60 rfl (gpf hb))); exact (by exact AStepD.bool (AStepD.neq rfl rfl rfl) (c := false) (by rw [g1]; simp)))
        · refine Ob.mk _ [57, 61] 0 rfl rfl (restr_cons qR21 (restr_cons qR21 restr_nil)) rfl ?_
          simp only [List.getD_cons_zero, List.getD_cons_succ]
          exact GStep.plain rfl qR216
        · refine Ob.mk _ [62] 0 rfl rfl (restr_cons qR21 restr_nil) rfl ?_
          simp only [List.getD_cons_zero, List.getD_cons_succ]
          exact GStep.plain rfl qR212
        · refine Ob.mk _ [13, 63] 0 rfl rfl (restr_cons qR21 (restr_cons qR21 restr_nil)) rfl ?_
          simp only [List.getD_cons_zero, List.getD_cons_succ]
          first | exact GStep.yes rfl rfl rfl rfl rfl qR212 | exact GStep.no rfl rfl rfl rfl rfl | exact GStep.none rfl rfl rfl | exact GStep.may rfl rfl rfl rfl qS35 | exact GStep.may2 rfl rfl rfl rfl qS36
        · refine Ob.mk _ [64, 63] 0 rfl rfl (restr_cons qR21 (restr_cons qR21 restr_nil)) rfl ?_
          simp only [List.getD_cons_zero, List.getD_cons_succ]
          first | exact GStep.yes rfl rfl rfl rfl rfl qS24 | exact GStep.no rfl rfl rfl rfl rfl | exact GStep.none rfl rfl rfl | exact GStep.may rfl rfl rfl rfl qS37 | exact GStep.may2 rfl rfl rfl rfl qS38
        · refine Ob.mk _ [65, 63] 0 rfl rfl (restr_cons qR21 (restr_cons qR21 restr_nil)) rfl ?_
          simp only [List.getD_cons_zero, List.getD_cons_succ]
          first | exact GStep.yes rfl rfl rfl rfl rfl (by exact AStepD.bool (AStepD.eql rfl rfl rfl) (c := false) (decide_eq_false (by omega))) | exact GStep.no rfl rfl rfl rfl rfl | exact GStep.none rfl rfl rfl | exact GStep.may rfl rfl rfl rfl (fun hb => by (try (apply AStepD.uncond 65 rfl (gpf hb))); exact (by exact AStepD.bool (AStepD.eql rfl rfl rfl) (c := false) (decide_eq_false (by omega)))) | exact GStep.may2 rfl rfl rfl rfl (fun _ hb => by (try (apply AStepD.uncond 65 rfl (gpf hb))); exact (by exact AStepD.bool (AStepD.eql rfl rfl rfl) (c := false) (decide_eq_false (by omega))))
        · refine Ob.mk _ [63, 66] 0 rfl rfl (restr_cons qR21 (restr_cons qR21 restr_nil)) rfl ?_
          simp only [List.getD_cons_zero, List.getD_cons_succ]
          exact GStep.plain rfl qR216
        · refine Ob.mk _ [67] 0 rfl rfl (restr_cons qR21 restr_nil) rfl ?_
          simp only [List.getD_cons_zero, List.getD_cons_succ]
          exact GStep.plain rfl qR212
        · refine Ob.mk _ [13, 68] 0 rfl rfl (restr_cons qR21 (restr_cons qR21 restr_nil)) rfl ?_
          simp only [List.getD_cons_zero, List.getD_cons_succ]
          first | exact GStep.yes rfl rfl rfl rfl rfl qR212 | exact GStep.no rfl rfl rfl rfl rfl | exact GStep.none rfl rfl rfl | exact GStep.may rfl rfl rfl rfl qS35 | exact GStep.may2 rfl rfl rfl rfl qS36
        · refine Ob.mk _ [13, 68] 0 rfl rfl (restr_cons qR21 (restr_cons qR21 restr_nil)) rfl ?_
          simp only [List.getD_cons_zero, List.getD_cons_succ]
          first | exact GStep.yes rfl rfl rfl rfl rfl qR212 | exact GStep.no rfl rfl rfl rfl rfl | exact GStep.none rfl rfl rfl | exact GStep.may rfl rfl rfl rfl qS35 | exact GStep.may2 rfl rfl rfl rfl qS36
        · refine Ob.mk _ [70, 68] 0 rfl rfl (restr_cons qR21 (restr_cons qR21 restr_nil)) rfl ?_
          simp only [List.getD_cons_zero, List.getD_cons_succ]
          first | exact GStep.yes rfl rfl rfl rfl rfl qS24 | exact GStep.no rfl rfl rfl rfl rfl | exact GStep.none rfl rfl rfl | exact GStep.may rfl rfl rfl rfl qS39 | exact GStep.may2 rfl rfl rfl rfl qS310
        · refine Ob.mk _ [71, 68] 0 rfl rfl (restr_cons qR21 (restr_cons qR21 restr_nil)) rfl ?_
          simp only [List.getD_cons_zero, List.getD_cons_succ]
          first | exact GStep.yes rfl rfl rfl rfl rfl (by exact AStepD.sub (r := (((memS (shN n i)).length - 1 : Nat) : Int)) rfl rfl rfl (by rw [show ((memS (shN n i)).length : Int) - 1 = (((memS (shN n i)).length - 1 : Nat) : Int) by omega]; exact IntWalk.i64_in _ (by omega))) | exact GStep.no rfl rfl rfl rfl rfl | exact GStep.none rfl rfl rfl | exact GStep.may rfl rfl rfl rfl (fun hb => by (try (apply AStepD.uncond 71 rfl (gpf hb))); exact (by exact AStepD.sub (r := (((memS (shN n i)).length - 1 : Nat) : Int)) rfl rfl rfl (by rw [show ((memS (shN n i)).length : Int) - 1 = (((memS (shN n i)).length - 1 : Nat) : Int) by omega]; exact IntWalk.i64_in _ (by omega)))) | exact GStep.may2 rfl rfl rfl rfl (fun _ hb => by (try (apply AStepD.uncond 71 rfl (gpf hb))); exact (by exact AStepD.sub (r := (((memS (shN n i)).length - 1 : Nat) : Int)) rfl rfl rfl (by rw [show ((memS (shN n i)).length : Int) - 1 = (((memS (shN n i)).length - 1 : Nat) : Int) by omega]; exact IntWalk.i64_in _ (by omega))))
        · refine Ob.mk _ [69, 72, 68] 0 rfl rfl (restr_cons qR21 (restr_cons qR21 (restr_cons qR21 restr_nil))) rfl ?_
          simp only [List.getD_cons_zero, List.getD_cons_succ]
          first | exact GStep.yes rfl rfl rfl rfl rfl qR310 | exact GStep.no rfl rfl rfl rfl rfl | exact GStep.none rfl rfl rfl | exact GStep.may rfl rfl rfl rfl qS311 | exact GStep.may2 rfl rfl rfl rfl qS312
        · refine Ob.mk _ [73, 68] 0 rfl rfl (restr_cons qR21 (restr_cons qR21 restr_nil)) rfl ?_
          simp only [List.getD_cons_zero, List.getD_cons_succ]
          first | exact GStep.yes rfl rfl rfl rfl rfl qR415 | exact GStep.no rfl rfl rfl rfl rfl | exact GStep.none rfl rfl rfl | exact GStep.may rfl rfl rfl rfl qS313 | exact GStep.may2 rfl rfl rfl rfl qS314
        · refine Ob.mk _ [13, 68] 0 rfl rfl (restr_cons qR21 (restr_cons qR21 restr_nil)) rfl ?_
          simp only [List.getD_cons_zero, List.getD_cons_succ]
          first | exact GStep.yes rfl rfl rfl rfl rfl qR212 | exact GStep.no rfl rfl rfl rfl rfl | exact GStep.none rfl rfl rfl | exact GStep.may rfl rfl rfl rfl qS35 | exact GStep.may2 rfl rfl rfl rfl qS36
        · refine Ob.mk _ [75, 68] 0 rfl rfl (restr_cons qR21 (restr_cons qR21 restr_nil)) rfl ?_
          simp only [List.getD_cons_zero, List.getD_cons_succ]
          first | exact GStep.yes rfl rfl rfl rfl rfl qR310 | exact GStep.no rfl rfl rfl rfl rfl | exact GStep.none rfl rfl rfl | exact GStep.may rfl rfl rfl rfl qS315 | exact GStep.may2 rfl rfl rfl rfl qS316
        · refine Ob.mk _ [76, 68] 0 rfl rfl (restr_cons qR21 (restr_cons qR21 restr_nil)) rfl ?_
          simp only [List.getD_cons_zero, List.getD_cons_succ]
          first | exact GStep.yes rfl rfl rfl rfl rfl qR415 | exact GStep.no rfl rfl rfl rfl rfl | exact GStep.none rfl rfl rfl | exact GStep.may rfl rfl rfl rfl qS317 | exact GStep.may2 rfl rfl rfl rfl qS318
        · refine Ob.mk _ [74, 77, 68] 0 rfl rfl (restr_cons qR21 (restr_cons qR21 (restr_cons qR21 restr_nil))) rfl ?_
          simp only [List.getD_cons_zero, List.getD_cons_succ]
          first | exact GStep.yes rfl rfl rfl rfl rfl (by exact AStepD.sub (r := ((memS (shN n i)).length : Int) - 1) rfl rfl rfl (by rw [g3]; exact IntWalk.i64_in _ (by omega))) | exact GStep.no rfl rfl rfl rfl rfl | exact GStep.none rfl rfl rfl | exact GStep.may rfl rfl rfl rfl (fun hb => by (try (apply AStepD.uncond 74 rfl (gpf hb))); (try (apply AStepD.uncond 77 rfl (gpf hb))); exact (by exact AStepD.sub (r := ((memS (shN n i)).length : Int) - 1) rfl rfl rfl (by rw [g3]; exact IntWalk.i64_in _ (by omega)))) | exact GStep.may2 rfl rfl rfl rfl (fun _ hb => by (try (apply AStepD.uncond 74 rfl (gpf hb))); (try (apply AStepD.uncond 77 rfl (gpf hb))); exact (by exact AStepD.sub (r := ((memS (shN n i)).length : Int) - 1) rfl rfl rfl (by rw [g3]; exact IntWalk.i64_in _ (by omega))))
        · refine Ob.mk _ [13, 68] 0 rfl rfl (restr_cons qR21 (restr_cons qR21 restr_nil)) rfl ?_
          simp only [List.getD_cons_zero, List.getD_cons_succ]
          first | exact GStep.yes rfl rfl rfl rfl rfl qR212 | exact GStep.no rfl rfl rfl rfl rfl | exact GStep.none rfl rfl rfl | exact GStep.may rfl rfl rfl rfl qS35 | exact GStep.may2 rfl rfl rfl rfl qS36
        · refine Ob.mk _ [79, 68] 0 rfl rfl (restr_cons qR21 (restr_cons qR21 restr_nil)) rfl ?_
          simp only [List.getD_cons_zero, List.getD_cons_succ]
          first | exact GStep.yes rfl rfl rfl rfl rfl qS24 | exact GStep.no rfl rfl rfl rfl rfl | exact GStep.none rfl rfl rfl | exact GStep.may rfl rfl rfl rfl qS319 | exact GStep.may2 rfl rfl rfl rfl qS320
        · refine Ob.mk _ [80, 68] 0 rfl rfl (restr_cons qR21 (restr_cons qR21 restr_nil)) rfl ?_
          simp only [List.getD_cons_zero, List.getD_cons_succ]
          first | exact GStep.yes rfl rfl rfl rfl rfl (by exact AStepD.sub rfl rfl rfl (by first | exact IntWalk.i64_in _ (by omega) | exact IntWalk.i64_in _ (by simp only [Bool.or_eq_true, Bool.and_eq_true, Bool.or_eq_false_iff, Bool.and_eq_false_iff, Bool.not_eq_true', Bool.not_eq_false', decide_eq_true_eq, decide_eq_false_iff_not, Int.not_lt, Int.not_le, beq_iff_eq] at *; omega) | exact rfl)) | exact GStep.no rfl rfl rfl rfl rfl | exact GStep.none rfl rfl rfl | exact GStep.may rfl rfl rfl rfl (fun hb => by (try (apply AStepD.uncond 80 rfl (gpf hb))); exact (by exact AStepD.sub rfl rfl rfl (by first | exact IntWalk.i64_in _ (by omega) | exact IntWalk.i64_in _ (by simp only [Bool.or_eq_true, Bool.and_eq_true, Bool.or_eq_false_iff, Bool.and_eq_false_iff, Bool.not_eq_true', Bool.not_eq_false', decide_eq_true_eq, decide_eq_false_iff_not, Int.not_lt, Int.not_le, beq_iff_eq] at *; omega) | exact rfl))) | exact GStep.may2 rfl rfl rfl rfl (fun _ hb => by (try (apply AStepD.uncond 80 rfl (gpf hb))); exact (by exact AStepD.sub rfl rfl rfl (by first | exact IntWalk.i64_in _ (by omega) | exact IntWalk.i64_in _ (by simp only [Bool.or_eq_true, Bool.and_eq_true, Bool.or_eq_false_iff, Bool.and_eq_false_iff, Bool.not_eq_true', Bool.not_eq_false', decide_eq_true_eq, decide_eq_false_iff_not, Int.not_lt, Int.not_le, beq_iff_eq] at *; omega) | exact rfl)))
        · refine Ob.mk _ [78, 81, 68] 0 rfl rfl (restr_cons qR21 (restr_cons qR21 (restr_cons qR21 restr_nil))) rfl ?_
          simp only [List.getD_cons_zero, List.getD_cons_succ]
          first | exact GStep.yes rfl rfl rfl rfl rfl (by exact AStepD.bool (AStepD.neq rfl rfl rfl) (c := false) (by simp)) | exact GStep.no rfl rfl rfl rfl rfl | exact GStep.none rfl rfl rfl | exact GStep.may rfl rfl rfl rfl (fun hb => by (try (apply AStepD.uncond 78 rfl (gpf hb))); (try (apply AStepD.uncond 81 rfl (gpf hb))); exact (by exact AStepD.bool (AStepD.neq rfl rfl rfl) (c := false) (by simp))) | exact GStep.may2 rfl rfl rfl rfl (fun _ hb => by (try (apply AStepD.uncond 78 rfl (gpf hb))); (try (apply AStepD.uncond 81 rfl (gpf hb))); exact (by exact AStepD.bool (AStepD.neq rfl rfl rfl) (c := false) (by simp)))
        · refine Ob.mk _ [68, 82] 0 rfl rfl (restr_cons qR21 (restr_cons qR21 restr_nil)) rfl ?_
          simp only [List.getD_cons_zero, List.getD_cons_succ]
          exact GStep.plain rfl qR216
        · refine Ob.mk _ [83] 0 rfl rfl (restr_cons qR21 restr_nil) rfl ?_
          simp only [List.getD_cons_zero, List.getD_cons_succ]
          exact GStep.plain rfl qR212
        · refine Ob.mk _ [10, 84] 0 rfl rfl (restr_cons qR21 (restr_cons qR21 restr_nil)) rfl ?_
          simp only [List.getD_cons_zero, List.getD_cons_succ]
          first | exact GStep.yes rfl rfl rfl rfl rfl qR212 | exact GStep.no rfl rfl rfl rfl rfl | exact GStep.none rfl rfl rfl | exact GStep.may rfl rfl rfl rfl qS321 | exact GStep.may2 rfl rfl rfl rfl qS322
        · refine Ob.mk _ [1, 84] 0 rfl rfl (restr_cons qR21 (restr_cons qR21 restr_nil)) rfl ?_
          simp only [List.getD_cons_zero, List.getD_cons_succ]
          first | exact GStep.yes rfl rfl rfl rfl rfl qR212 | exact GStep.no rfl rfl rfl rfl rfl | exact GStep.none rfl rfl rfl | exact GStep.may rfl rfl rfl rfl qR219 | exact GStep.may2 rfl rfl rfl rfl qR220
        · refine Ob.mk _ [85, 86, 84] 0 rfl rfl (restr_cons qR21 (restr_cons qR21 (restr_cons qR21 restr_nil))) rfl ?_
          simp only [List.getD_cons_zero, List.getD_cons_succ]
          first | exact GStep.yes rfl rfl rfl rfl rfl (by exact AStepD.bool (AStepD.eql rfl rfl rfl) (c := false) (decide_eq_false (by omega))) | exact GStep.no rfl rfl rfl rfl rfl | exact GStep.none rfl rfl rfl | exact GStep.may rfl rfl rfl rfl (fun hb => by (try (apply AStepD.uncond 85 rfl (gpf hb))); (try (apply AStepD.uncond 86 rfl (gpf hb))); exact (by exact AStepD.bool (AStepD.eql rfl rfl rfl) (c := false) (decide_eq_false (by omega)))) | exact GStep.may2 rfl rfl rfl rfl (fun _ hb => by (try (apply AStepD.uncond 85 rfl (gpf hb))); (try (apply AStepD.uncond 86 rfl (gpf hb))); exact (by exact AStepD.bool (AStepD.eql rfl rfl rfl) (c := false) (decide_eq_false (by omega))))
        · refine Ob.mk _ [87, 84] 0 rfl rfl (restr_cons qR21 (restr_cons qR21 restr_nil)) rfl ?_
          simp only [List.getD_cons_zero, List.getD_cons_succ]
          first | exact GStep.yes rfl rfl rfl rfl rfl qR212 | exact GStep.no rfl rfl rfl rfl rfl | exact GStep.none rfl rfl rfl | exact GStep.may rfl rfl rfl rfl qS323 | exact GStep.may2 rfl rfl rfl rfl qS324
        · refine Ob.mk _ [11, 88] 0 rfl rfl (restr_cons qR21 (restr_cons qR21 restr_nil)) rfl ?_
          simp only [List.getD_cons_zero, List.getD_cons_succ]
          first | exact GStep.yes rfl rfl rfl rfl rfl qR212 | exact GStep.no rfl rfl rfl rfl rfl | exact GStep.none rfl rfl rfl | exact GStep.may rfl rfl rfl rfl qS32 | exact GStep.may2 rfl rfl rfl rfl qS33
        · refine Ob.mk _ [5, 88] 0 rfl rfl (restr_cons qR21 (restr_cons qR21 restr_nil)) rfl ?_
          simp only [List.getD_cons_zero, List.getD_cons_succ]
          first | exact GStep.yes rfl rfl rfl rfl rfl qR212 | exact GStep.no rfl rfl rfl rfl rfl | exact GStep.none rfl rfl rfl | exact GStep.may rfl rfl rfl rfl qR41 | exact GStep.may2 rfl rfl rfl rfl qR42
        · refine Ob.mk _ [89, 90, 88] 0 rfl rfl (restr_cons qR21 (restr_cons qR21 (restr_cons qR21 restr_nil))) rfl ?_
          simp only [List.getD_cons_zero, List.getD_cons_succ]
          first | exact GStep.yes rfl rfl rfl rfl rfl (by exact AStepD.bool (AStepD.neq rfl rfl rfl) (c := false) (by rfl)) | exact GStep.no rfl rfl rfl rfl rfl | exact GStep.none rfl rfl rfl | exact GStep.may rfl rfl rfl rfl (fun hb => by (try (apply AStepD.uncond 89 rfl (gpf hb))); (try (apply AStepD.uncond 90 rfl (gpf hb))); exact (by exact AStepD.bool (AStepD.neq rfl rfl rfl) (c := false) (by rfl))) | exact GStep.may2 rfl rfl rfl rfl (fun _ hb => by (try (apply AStepD.uncond 89 rfl (gpf hb))); (try (apply AStepD.uncond 90 rfl (gpf hb))); exact (by exact AStepD.bool (AStepD.neq rfl rfl rfl) (c := false) (by rfl)))
        · refine Ob.mk _ [88, 91, 84] 0 rfl rfl (restr_cons qR21 (restr_cons qR21 (restr_cons qR21 restr_nil))) rfl ?_
          simp only [List.getD_cons_zero, List.getD_cons_succ]
          first | exact GStep.yes rfl rfl rfl rfl rfl qR216 | exact GStep.no rfl rfl rfl rfl rfl | exact GStep.none rfl rfl rfl | exact GStep.may rfl rfl rfl rfl qS325 | exact GStep.may2 rfl rfl rfl rfl qS326
        · refine Ob.mk _ [84, 92] 0 rfl rfl (restr_cons qR21 (restr_cons qR21 restr_nil)) rfl ?_
          simp only [List.getD_cons_zero, List.getD_cons_succ]
          exact GStep.plain rfl qR216
      refine hK _ _ ?_; clear hK K
      refine AW.frame qS327 qS328 ?_
      refine AW.cond_false rfl rfl (AW.skip ?_)
      exact hgo _ qR215
  · have hin : i = n := by
      have := of_decide_eq_false hc
      omega
    subst hin
    clear hc
    obtain ⟨_, g2, g3, g4, g5⟩ := good_all ⟨i, by omega⟩ hn1
    simp only at g2 g3 g4 g5
    refine AW.exit ?_
    refine hK3 _ _ ?_; try clear hK3 K3
    refine AW.seq_region (fun K hK => ?_)
    refine AL.step rfl rfl rfl qR212 ?_
    refine AL.step rfl rfl rfl (by exact AStepD.bool (AStepD.eql rfl rfl rfl) (c := true) (by simp)) ?_
    refine AL.step rfl rfl rfl qR212 ?_
    first | refine AL.gstep rfl rfl rfl rfl rfl rfl rfl qR212 ?_ | refine AL.gskip rfl rfl rfl rfl rfl rfl rfl ?_ | refine AL.gnone rfl rfl rfl rfl rfl ?_ | refine AL.gmay rfl rfl rfl rfl rfl rfl qR217 ?_ | refine AL.gmay2 rfl rfl rfl rfl rfl rfl qR218 ?_
    first | refine AL.gstep rfl rfl rfl rfl rfl rfl rfl (by exact AStepD.bool (AStepD.eql rfl rfl rfl) (c := true) (by rw [g2]; rfl)) ?_ | refine AL.gskip rfl rfl rfl rfl rfl rfl rfl ?_ | refine AL.gnone rfl rfl rfl rfl rfl ?_ | refine AL.gmay rfl rfl rfl rfl rfl rfl (fun hb => by (try (apply AStepD.uncond 109 rfl (gpf hb))); exact (by exact AStepD.bool (AStepD.eql rfl rfl rfl) (c := true) (by rw [g2]; rfl))) ?_ | refine AL.gmay2 rfl rfl rfl rfl rfl rfl (fun _ hb => by (try (apply AStepD.uncond 109 rfl (gpf hb))); exact (by exact AStepD.bool (AStepD.eql rfl rfl rfl) (c := true) (by rw [g2]; rfl))) ?_
    refine AL.step rfl rfl rfl qR216 ?_
    refine AL.step rfl rfl rfl qR212 ?_
    first | refine AL.gstep rfl rfl rfl rfl rfl rfl rfl qR212 ?_ | refine AL.gskip rfl rfl rfl rfl rfl rfl rfl ?_ | refine AL.gnone rfl rfl rfl rfl rfl ?_ | refine AL.gmay rfl rfl rfl rfl rfl rfl qS22 ?_ | refine AL.gmay2 rfl rfl rfl rfl rfl rfl qS23 ?_
    first | refine AL.gstep rfl rfl rfl rfl rfl rfl rfl qR212 ?_ | refine AL.gskip rfl rfl rfl rfl rfl rfl rfl ?_ | refine AL.gnone rfl rfl rfl rfl rfl ?_ | refine AL.gmay rfl rfl rfl rfl rfl rfl (fun hb => by (try (apply AStepD.uncond 8 rfl (gpf hb))); exact qR212) ?_ | refine AL.gmay2 rfl rfl rfl rfl rfl rfl (fun _ hb => by (try (apply AStepD.uncond 8 rfl (gpf hb))); exact qR212) ?_
    first | refine AL.gstep rfl rfl rfl rfl rfl rfl rfl (by exact AStepD.sub rfl rfl rfl (by first | exact IntWalk.i64_in _ (by omega) | exact IntWalk.i64_in _ (by simp only [Bool.or_eq_true, Bool.and_eq_true, Bool.or_eq_false_iff, Bool.and_eq_false_iff, Bool.not_eq_true', Bool.not_eq_false', decide_eq_true_eq, decide_eq_false_iff_not, Int.not_lt, Int.not_le, beq_iff_eq] at *; omega) | exact rfl)) ?_ | refine AL.gskip rfl rfl rfl rfl rfl rfl rfl ?_ | refine AL.gnone rfl rfl rfl rfl rfl ?_ | refine AL.gmay rfl rfl rfl rfl rfl rfl (fun hb => by (try (apply AStepD.uncond 113 rfl (gpf hb))); (try (apply AStepD.uncond 114 rfl (gpf hb))); exact (by exact AStepD.sub rfl rfl rfl (by first | exact IntWalk.i64_in _ (by omega) | exact IntWalk.i64_in _ (by simp only [Bool.or_eq_true, Bool.and_eq_true, Bool.or_eq_false_iff, Bool.and_eq_false_iff, Bool.not_eq_true', Bool.not_eq_false', decide_eq_true_eq, decide_eq_false_iff_not, Int.not_lt, Int.not_le, beq_iff_eq] at *; omega) | exact rfl))) ?_ | refine AL.gmay2 rfl rfl rfl rfl rfl rfl (fun _ hb => by (try (apply AStepD.uncond 113 rfl (gpf hb))); (try (apply AStepD.uncond 114 rfl (gpf hb))); exact (by exact AStepD.sub rfl rfl rfl (by first | exact IntWalk.i64_in _ (by omega) | exact IntWalk.i64_in _ (by simp only [Bool.or_eq_true, Bool.and_eq_true, Bool.or_eq_false_iff, Bool.and_eq_false_iff, Bool.not_eq_true', Bool.not_eq_false', decide_eq_true_eq, decide_eq_false_iff_not, Int.not_lt, Int.not_le, beq_iff_eq] at *; omega) | exact rfl))) ?_
    first | refine AL.gstep rfl rfl rfl rfl rfl rfl rfl (by exact AStepD.bool (AStepD.leq rfl rfl rfl) (c := true) (by simp; omega)) ?_ | refine AL.gskip rfl rfl rfl rfl rfl rfl rfl ?_ | refine AL.gnone rfl rfl rfl rfl rfl ?_ | refine AL.gmay rfl rfl rfl rfl rfl rfl (fun hb => by (try (apply AStepD.uncond 115 rfl (gpf hb))); exact (by exact AStepD.bool (AStepD.leq rfl rfl rfl) (c := true) (by simp; omega))) ?_ | refine AL.gmay2 rfl rfl rfl rfl rfl rfl (fun _ hb => by (try (apply AStepD.uncond 115 rfl (gpf hb))); exact (by exact AStepD.bool (AStepD.leq rfl rfl rfl) (c := true) (by simp; omega))) ?_
    refine AL.step rfl rfl rfl qR216 ?_
    refine AL.step rfl rfl rfl qR211 ?_
    refine AL.nil_then (hK _ _ ?_); clear hK K
    exact AW.ret (RetQ.mk (.inr rfl) (retA_tmp rfl qR21 retA_nil) rfl)
end Go.Proofs.YtopbofalkcblgaaDoor

/- The laws SlotsUnions, SlotsLoose. -/

namespace Go.Proofs.YtopbofalkcblgaaDoor
open Go.Ax
open Cel (c)
theorem qS41 {p : Prop} (h : p := by first | exact AStepD.buildSlice0 tok rfl rfl rfl rfl (show _ = 1 from rfl) | exact AStepD.buildSlice1 tok rfl rfl rfl rfl (show _ = 1 from rfl) qR21 qR21 qR33 (by decide) qR22 | exact AStepD.buildSlice_seq tok rfl rfl rfl rfl (show _ = 1 from rfl) map_n rfl (by decide) (by decide) rfl qR23 qR22 | exact AStepD.buildSlice tok rfl rfl rfl rfl qR21 (by decide) (by decide) rfl qR22) : p := h
theorem qS42 {p : Prop} (h : p := by exact AStepD.bv_or rfl rfl rfl) : p := h
set_option linter.unusedSimpArgs false
set_option linter.unusedVariables false

theorem orI_fold (l : List Int) (s : BitVec 64) : l.foldl (fun s i => s ||| (1#64 <<< i.toNat)) s = s ||| orI l := by
  induction l generalizing s with
  | nil => simp [orI]
  | cons x t ih =>
    have e : orI (x :: t) = (1#64 <<< x.toNat) ||| orI t := by
      show List.foldl _ _ (x :: t) = _
      rw [List.foldl_cons, ih, BitVec.zero_or]
    rw [List.foldl_cons, ih, e, BitVec.or_assoc]
theorem orI_append (a b : List Int) : orI (a ++ b) = orI a ||| orI b := by
  rw [orI, List.foldl_append, orI_fold]; rfl
theorem count_or (x y : BitVec 64) (l : List Nat) : (l.filter (x ||| y).getLsbD).length + (l.filter (x &&& y).getLsbD).length = (l.filter x.getLsbD).length + (l.filter y.getLsbD).length := by
  induction l with
  | nil => rfl
  | cons i t ih =>
    simp only [List.filter_cons, BitVec.getLsbD_or, BitVec.getLsbD_and]
    cases x.getLsbD i <;> cases y.getLsbD i <;> simp <;> omega
theorem memS_or (x y : BitVec 64) : (memS (x ||| y)).length + (memS (x &&& y)).length = (memS x).length + (memS y).length := by
  simp only [memS, List.length_map, memN]
  exact count_or x y _

set_option maxHeartbeats 4000000 in
theorem unions_law (H : AHeap) (a b : List Int) : ACalls Tryd.prog 8 [vecA a, vecA b] H (fun r _ => r = .v (.bool true)) := by
  refine ACalls.of_body tok Tryd.func8 rfl Tryd.ntmps8 (Nat.le_of_ble_eq_true rfl) (fun base => ?_)
  refine AW.seq_region (fun K hK => ?_)
  refine AL.step rfl rfl rfl qR211 ?_
  refine AL.nil_then (hK _ _ ?_); clear hK K
  refine AW.seq_k (fun K1 hK1 => ?_)
  refine AW.seq_region (fun K hK => ?_)
  refine AL.step rfl rfl rfl (by exact AStepD.callf rfl en10 rfl (anchor_calls _)) ?_
  refine AL.step rfl rfl rfl (by first | exact AStepD.not rfl rfl | exact AStepD.neg rfl rfl (by first | exact IntWalk.i64_in _ (by omega) | exact IntWalk.i64_in _ (by simp only [Bool.or_eq_true, Bool.and_eq_true, Bool.or_eq_false_iff, Bool.and_eq_false_iff, Bool.not_eq_true', Bool.not_eq_false', decide_eq_true_eq, decide_eq_false_iff_not, Int.not_lt, Int.not_le, beq_iff_eq] at *; omega) | exact rfl)) ?_
  refine AL.nil_then (hK _ _ ?_); clear hK K
  refine AW.cond_false rfl rfl (AW.skip ?_)
  refine hK1 _ _ ?_; try clear hK1 K1
  refine AW.seq_k (fun K2 hK2 => ?_)
  refine AW.seq_region (fun K hK => ?_)
  refine AL.step rfl rfl rfl qR212 ?_
  refine AL.step rfl rfl rfl qS24 ?_
  refine AL.step rfl rfl rfl qR414 ?_
  refine AL.step rfl rfl rfl qR212 ?_
  first | refine AL.gstep rfl rfl rfl rfl rfl rfl rfl qR212 ?_ | refine AL.gskip rfl rfl rfl rfl rfl rfl rfl ?_ | refine AL.gnone rfl rfl rfl rfl rfl ?_ | refine AL.gmay rfl rfl rfl rfl rfl rfl qR219 ?_ | refine AL.gmay2 rfl rfl rfl rfl rfl rfl qR220 ?_
  first | refine AL.gstep rfl rfl rfl rfl rfl rfl rfl qS24 ?_ | refine AL.gskip rfl rfl rfl rfl rfl rfl rfl ?_ | refine AL.gnone rfl rfl rfl rfl rfl ?_ | refine AL.gmay rfl rfl rfl rfl rfl rfl (fun hb => by (try (apply AStepD.uncond 17 rfl (gpf hb))); exact qS24) ?_ | refine AL.gmay2 rfl rfl rfl rfl rfl rfl (fun _ hb => by (try (apply AStepD.uncond 17 rfl (gpf hb))); exact qS24) ?_
  first | refine AL.gstep rfl rfl rfl rfl rfl rfl rfl qR414 ?_ | refine AL.gskip rfl rfl rfl rfl rfl rfl rfl ?_ | refine AL.gnone rfl rfl rfl rfl rfl ?_ | refine AL.gmay rfl rfl rfl rfl rfl rfl (fun hb => by (try (apply AStepD.uncond 18 rfl (gpf hb))); exact qR414) ?_ | refine AL.gmay2 rfl rfl rfl rfl rfl rfl (fun _ hb => by (try (apply AStepD.uncond 18 rfl (gpf hb))); exact qR414) ?_
  refine AL.step rfl rfl rfl qR216 ?_
  refine AL.nil_then (hK _ _ ?_); clear hK K
  refine AW.cond _ rfl (fun hc => ?_) (fun hc => ?_)
  · refine AW.seq_region (fun K hK => ?_)
    refine AL.step rfl rfl rfl qR211 ?_
    refine AL.nil_then (hK _ _ ?_); clear hK K
    exact AW.ret (RetQ.mk (.inr rfl) (retA_tmp rfl qR21 retA_nil) rfl)
  have hb : a.length ≤ 100 ∧ b.length ≤ 100 := by
    simp only [Bool.or_eq_false_iff, decide_eq_false_iff_not] at hc
    omega
  clear hc
  have hall : (a ++ b).all okI = (a.all okI && b.all okI) := List.all_append
  refine AW.skip ?_
  refine hK2 _ _ ?_; try clear hK2 K2
  refine AW.seq_region (fun K hK => ?_)
  refine AL.step rfl rfl rfl qR212 ?_
  refine AL.step rfl rfl rfl (by exact AStepD.callf rfl en18 rfl (of_calls _ a (by omega))) ?_
  refine AL.step rfl rfl rfl qR212 ?_
  refine AL.step rfl rfl rfl qR51 ?_
  refine AL.step rfl rfl rfl qR51 ?_
  refine AL.step rfl rfl rfl qR211 ?_
  refine AL.step rfl rfl rfl qR211 ?_
  refine AL.nil_then (hK _ _ ?_); clear hK K
  refine AW.seq_region (fun K hK => ?_)
  refine AL.step rfl rfl rfl qR212 ?_
  refine AL.step rfl rfl rfl (by exact AStepD.callf rfl en18 rfl (of_calls _ b (by omega))) ?_
  refine AL.step rfl rfl rfl qR212 ?_
  refine AL.step rfl rfl rfl qR51 ?_
  refine AL.step rfl rfl rfl qR51 ?_
  refine AL.step rfl rfl rfl qR211 ?_
  refine AL.step rfl rfl rfl qR211 ?_
  refine AL.nil_then (hK _ _ ?_); clear hK K
  refine AW.seq_region (fun K hK => ?_)
  refine AL.step rfl rfl rfl qS41 ?_
  refine AL.step rfl rfl rfl qR212 ?_
  refine AL.step rfl rfl rfl (by exact AStepD.app_flat (bk := 64) (xs := ([] : List Int)) (ys := a) tok rfl rfl rfl rfl rfl rfl rfl rfl (show _ = 1 from rfl) rfl rfl qR214 rfl qR33 qR33) ?_
  refine AL.step rfl rfl rfl qR212 ?_
  refine AL.step rfl rfl rfl (by exact AStepD.app_vecA (bk := 64) (xs := a) (ys := b) tok rfl rfl rfl rfl rfl rfl rfl rfl (show _ = 1 from rfl) rfl rfl qR214 rfl qR33 qR33) ?_
  refine AL.step rfl rfl rfl (by exact AStepD.callf rfl en18 rfl (of_calls _ (a ++ b) (by rw [List.length_append]; omega))) ?_
  refine AL.step rfl rfl rfl qR212 ?_
  refine AL.step rfl rfl rfl qR51 ?_
  refine AL.step rfl rfl rfl qR51 ?_
  refine AL.step rfl rfl rfl qR211 ?_
  refine AL.step rfl rfl rfl qR211 ?_
  refine AL.nil_then (hK _ _ ?_); clear hK K
  refine AW.seq_k (fun K3 hK3 => ?_)
  refine AW.seq_region (fun K hK => ?_)
  refine AL.step rfl rfl rfl qR212 ?_
  refine AL.step rfl rfl rfl (by exact AStepD.bool (AStepD.neq rfl rfl rfl) (c := !a.all okI) (by rw [ofE]; cases a.all okI <;> rfl)) ?_
  refine AL.step rfl rfl rfl qR212 ?_
  first | refine AL.gstep rfl rfl rfl rfl rfl rfl rfl qR212 ?_ | refine AL.gskip rfl rfl rfl rfl rfl rfl rfl ?_ | refine AL.gnone rfl rfl rfl rfl rfl ?_ | refine AL.gmay rfl rfl rfl rfl rfl rfl (fun hb => by (try (apply AStepD.uncond 8 rfl (gpf hb))); exact qR212) ?_ | refine AL.gmay2 rfl rfl rfl rfl rfl rfl (fun _ hb => by (try (apply AStepD.uncond 8 rfl (gpf hb))); exact qR212) ?_
  first | refine AL.gstep rfl rfl rfl rfl rfl rfl rfl (by exact AStepD.bool (AStepD.neq rfl rfl rfl) (c := !b.all okI) (by rw [ofE]; cases b.all okI <;> rfl)) ?_ | refine AL.gskip rfl rfl rfl rfl rfl rfl rfl ?_ | refine AL.gnone rfl rfl rfl rfl rfl ?_ | refine AL.gmay rfl rfl rfl rfl rfl rfl (fun hb => by (try (apply AStepD.uncond 43 rfl (gpf hb))); exact (by exact AStepD.bool (AStepD.neq rfl rfl rfl) (c := !b.all okI) (by rw [ofE]; cases b.all okI <;> rfl))) ?_ | refine AL.gmay2 rfl rfl rfl rfl rfl rfl (fun _ hb => by (try (apply AStepD.uncond 43 rfl (gpf hb))); exact (by exact AStepD.bool (AStepD.neq rfl rfl rfl) (c := !b.all okI) (by rw [ofE]; cases b.all okI <;> rfl))) ?_
  refine AL.step rfl rfl rfl qR216 ?_
  refine AL.nil_then (hK _ _ ?_); clear hK K
  refine AW.cond _ rfl (fun hc => ?_) (fun hc => ?_)
  · have hno : (a ++ b).all okI = false := by
      rw [hall]
      simp only [Bool.or_eq_true, Bool.not_eq_true', Bool.and_eq_false_iff] at hc ⊢
      exact hc
    have hS : ofS (a ++ b) = 0#64 ∧ ofE (a ++ b) = 20 := by rw [ofS, ofE, hno]; exact ⟨rfl, rfl⟩
    refine AW.seq_region (fun K hK => ?_)
    refine AL.step rfl rfl rfl qR212 ?_
    refine AL.step rfl rfl rfl (by exact AStepD.bool (AStepD.eql rfl rfl rfl) (c := true) (by rw [hS.2]; rfl)) ?_
    refine AL.step rfl rfl rfl qR212 ?_
    first | refine AL.gstep rfl rfl rfl rfl rfl rfl rfl qR212 ?_ | refine AL.gskip rfl rfl rfl rfl rfl rfl rfl ?_ | refine AL.gnone rfl rfl rfl rfl rfl ?_ | refine AL.gmay rfl rfl rfl rfl rfl rfl qS22 ?_ | refine AL.gmay2 rfl rfl rfl rfl rfl rfl qS23 ?_
    first | refine AL.gstep rfl rfl rfl rfl rfl rfl rfl (by exact AStepD.bool (AStepD.eql rfl rfl rfl) (c := true) (by rw [hS.1]; rfl)) ?_ | refine AL.gskip rfl rfl rfl rfl rfl rfl rfl ?_ | refine AL.gnone rfl rfl rfl rfl rfl ?_ | refine AL.gmay rfl rfl rfl rfl rfl rfl (fun hb => by (try (apply AStepD.uncond 49 rfl (gpf hb))); exact (by exact AStepD.bool (AStepD.eql rfl rfl rfl) (c := true) (by rw [hS.1]; rfl))) ?_ | refine AL.gmay2 rfl rfl rfl rfl rfl rfl (fun _ hb => by (try (apply AStepD.uncond 49 rfl (gpf hb))); exact (by exact AStepD.bool (AStepD.eql rfl rfl rfl) (c := true) (by rw [hS.1]; rfl))) ?_
    refine AL.step rfl rfl rfl qR216 ?_
    refine AL.step rfl rfl rfl qR211 ?_
    refine AL.nil_then (hK _ _ ?_); clear hK K
    exact AW.ret (RetQ.mk (.inr rfl) (retA_tmp rfl qR21 retA_nil) rfl)
  · simp only [Bool.or_eq_false_iff, Bool.not_eq_false'] at hc
    obtain ⟨ha, hb2⟩ := hc
    have hyes : (a ++ b).all okI = true := by rw [hall, ha, hb2]; rfl
    have hS : ofS (a ++ b) = ofS a ||| ofS b ∧ ofE (a ++ b) = 0 := by rw [ofS, ofS, ofS, ofE, hyes, ha, hb2]; exact ⟨orI_append a b, rfl⟩
    have hcnt := memS_or (ofS a) (ofS b)
    rw [← hS.1] at hcnt
    have h1 := memS_length (ofS a)
    have h2 := memS_length (ofS b)
    have h3 := memS_length (ofS a &&& ofS b)
    clear hall hyes ha hb2
    refine AW.skip ?_
    refine hK3 _ _ ?_; try clear hK3 K3
    refine AW.seq_region (fun K hK => ?_)
    refine AL.step rfl rfl rfl qR212 ?_
    refine AL.step rfl rfl rfl (by exact AStepD.bool (AStepD.eql rfl rfl rfl) (c := true) (by rw [hS.2]; rfl)) ?_
    refine AL.step rfl rfl rfl qR212 ?_
    first | refine AL.gstep rfl rfl rfl rfl rfl rfl rfl qR212 ?_ | refine AL.gskip rfl rfl rfl rfl rfl rfl rfl ?_ | refine AL.gnone rfl rfl rfl rfl rfl ?_ | refine AL.gmay rfl rfl rfl rfl rfl rfl qS22 ?_ | refine AL.gmay2 rfl rfl rfl rfl rfl rfl qS23 ?_
    first | refine AL.gstep rfl rfl rfl rfl rfl rfl rfl qR212 ?_ | refine AL.gskip rfl rfl rfl rfl rfl rfl rfl ?_ | refine AL.gnone rfl rfl rfl rfl rfl ?_ | refine AL.gmay rfl rfl rfl rfl rfl rfl qR41 ?_ | refine AL.gmay2 rfl rfl rfl rfl rfl rfl qR42 ?_
    first | refine AL.gstep rfl rfl rfl rfl rfl rfl rfl qR212 ?_ | refine AL.gskip rfl rfl rfl rfl rfl rfl rfl ?_ | refine AL.gnone rfl rfl rfl rfl rfl ?_ | refine AL.gmay rfl rfl rfl rfl rfl rfl qR217 ?_ | refine AL.gmay2 rfl rfl rfl rfl rfl rfl qR218 ?_
    first | refine AL.gstep rfl rfl rfl rfl rfl rfl rfl qS42 ?_ | refine AL.gskip rfl rfl rfl rfl rfl rfl rfl ?_ | refine AL.gnone rfl rfl rfl rfl rfl ?_ | refine AL.gmay rfl rfl rfl rfl rfl rfl (fun hb => by (try (apply AStepD.uncond 56 rfl (gpf hb))); (try (apply AStepD.uncond 57 rfl (gpf hb))); exact qS42) ?_ | refine AL.gmay2 rfl rfl rfl rfl rfl rfl (fun _ hb => by (try (apply AStepD.uncond 56 rfl (gpf hb))); (try (apply AStepD.uncond 57 rfl (gpf hb))); exact qS42) ?_
    first | refine AL.gstep rfl rfl rfl rfl rfl rfl rfl (by exact AStepD.bool (AStepD.eql rfl rfl rfl) (c := true) (by rw [hS.1]; simp)) ?_ | refine AL.gskip rfl rfl rfl rfl rfl rfl rfl ?_ | refine AL.gnone rfl rfl rfl rfl rfl ?_ | refine AL.gmay rfl rfl rfl rfl rfl rfl (fun hb => by (try (apply AStepD.uncond 55 rfl (gpf hb))); (try (apply AStepD.uncond 58 rfl (gpf hb))); exact (by exact AStepD.bool (AStepD.eql rfl rfl rfl) (c := true) (by rw [hS.1]; simp))) ?_ | refine AL.gmay2 rfl rfl rfl rfl rfl rfl (fun _ hb => by (try (apply AStepD.uncond 55 rfl (gpf hb))); (try (apply AStepD.uncond 58 rfl (gpf hb))); exact (by exact AStepD.bool (AStepD.eql rfl rfl rfl) (c := true) (by rw [hS.1]; simp))) ?_
    refine AL.step rfl rfl rfl qR216 ?_
    refine AL.step rfl rfl rfl qR212 ?_
    first | refine AL.gstep rfl rfl rfl rfl rfl rfl rfl qR212 ?_ | refine AL.gskip rfl rfl rfl rfl rfl rfl rfl ?_ | refine AL.gnone rfl rfl rfl rfl rfl ?_ | refine AL.gmay rfl rfl rfl rfl rfl rfl qS22 ?_ | refine AL.gmay2 rfl rfl rfl rfl rfl rfl qS23 ?_
    first | refine AL.gstep rfl rfl rfl rfl rfl rfl rfl (by exact AStepD.callf rfl en20 rfl (list_calls _ (ofS (a ++ b)))) ?_ | refine AL.gskip rfl rfl rfl rfl rfl rfl rfl ?_ | refine AL.gnone rfl rfl rfl rfl rfl ?_ | refine AL.gmay rfl rfl rfl rfl rfl rfl (fun hb => by (try (apply AStepD.uncond 62 rfl (gpf hb))); exact (by exact AStepD.callf rfl en20 rfl (list_calls _ (ofS (a ++ b))))) ?_ | refine AL.gmay2 rfl rfl rfl rfl rfl rfl (fun _ hb => by (try (apply AStepD.uncond 62 rfl (gpf hb))); exact (by exact AStepD.callf rfl en20 rfl (list_calls _ (ofS (a ++ b))))) ?_
    first | refine AL.gstep rfl rfl rfl rfl rfl rfl rfl qS24 ?_ | refine AL.gskip rfl rfl rfl rfl rfl rfl rfl ?_ | refine AL.gnone rfl rfl rfl rfl rfl ?_ | refine AL.gmay rfl rfl rfl rfl rfl rfl (fun hb => by (try (apply AStepD.uncond 63 rfl (gpf hb))); exact qS24) ?_ | refine AL.gmay2 rfl rfl rfl rfl rfl rfl (fun _ hb => by (try (apply AStepD.uncond 63 rfl (gpf hb))); exact qS24) ?_
    first | refine AL.gstep rfl rfl rfl rfl rfl rfl rfl qR212 ?_ | refine AL.gskip rfl rfl rfl rfl rfl rfl rfl ?_ | refine AL.gnone rfl rfl rfl rfl rfl ?_ | refine AL.gmay rfl rfl rfl rfl rfl rfl qR41 ?_ | refine AL.gmay2 rfl rfl rfl rfl rfl rfl qR42 ?_
    first | refine AL.gstep rfl rfl rfl rfl rfl rfl rfl (by exact AStepD.callf rfl en20 rfl (list_calls _ (ofS a))) ?_ | refine AL.gskip rfl rfl rfl rfl rfl rfl rfl ?_ | refine AL.gnone rfl rfl rfl rfl rfl ?_ | refine AL.gmay rfl rfl rfl rfl rfl rfl (fun hb => by (try (apply AStepD.uncond 65 rfl (gpf hb))); exact (by exact AStepD.callf rfl en20 rfl (list_calls _ (ofS a)))) ?_ | refine AL.gmay2 rfl rfl rfl rfl rfl rfl (fun _ hb => by (try (apply AStepD.uncond 65 rfl (gpf hb))); exact (by exact AStepD.callf rfl en20 rfl (list_calls _ (ofS a)))) ?_
    first | refine AL.gstep rfl rfl rfl rfl rfl rfl rfl qS24 ?_ | refine AL.gskip rfl rfl rfl rfl rfl rfl rfl ?_ | refine AL.gnone rfl rfl rfl rfl rfl ?_ | refine AL.gmay rfl rfl rfl rfl rfl rfl (fun hb => by (try (apply AStepD.uncond 66 rfl (gpf hb))); exact qS24) ?_ | refine AL.gmay2 rfl rfl rfl rfl rfl rfl (fun _ hb => by (try (apply AStepD.uncond 66 rfl (gpf hb))); exact qS24) ?_
    first | refine AL.gstep rfl rfl rfl rfl rfl rfl rfl qR212 ?_ | refine AL.gskip rfl rfl rfl rfl rfl rfl rfl ?_ | refine AL.gnone rfl rfl rfl rfl rfl ?_ | refine AL.gmay rfl rfl rfl rfl rfl rfl qR217 ?_ | refine AL.gmay2 rfl rfl rfl rfl rfl rfl qR218 ?_
    first | refine AL.gstep rfl rfl rfl rfl rfl rfl rfl (by exact AStepD.callf rfl en20 rfl (list_calls _ (ofS b))) ?_ | refine AL.gskip rfl rfl rfl rfl rfl rfl rfl ?_ | refine AL.gnone rfl rfl rfl rfl rfl ?_ | refine AL.gmay rfl rfl rfl rfl rfl rfl (fun hb => by (try (apply AStepD.uncond 68 rfl (gpf hb))); exact (by exact AStepD.callf rfl en20 rfl (list_calls _ (ofS b)))) ?_ | refine AL.gmay2 rfl rfl rfl rfl rfl rfl (fun _ hb => by (try (apply AStepD.uncond 68 rfl (gpf hb))); exact (by exact AStepD.callf rfl en20 rfl (list_calls _ (ofS b)))) ?_
    first | refine AL.gstep rfl rfl rfl rfl rfl rfl rfl qS24 ?_ | refine AL.gskip rfl rfl rfl rfl rfl rfl rfl ?_ | refine AL.gnone rfl rfl rfl rfl rfl ?_ | refine AL.gmay rfl rfl rfl rfl rfl rfl (fun hb => by (try (apply AStepD.uncond 69 rfl (gpf hb))); exact qS24) ?_ | refine AL.gmay2 rfl rfl rfl rfl rfl rfl (fun _ hb => by (try (apply AStepD.uncond 69 rfl (gpf hb))); exact qS24) ?_
    first | refine AL.gstep rfl rfl rfl rfl rfl rfl rfl (by first | exact AStepD.add rfl rfl rfl (by first | exact IntWalk.i64_in _ (by omega) | exact IntWalk.i64_in _ (by simp only [Bool.or_eq_true, Bool.and_eq_true, Bool.or_eq_false_iff, Bool.and_eq_false_iff, Bool.not_eq_true', Bool.not_eq_false', decide_eq_true_eq, decide_eq_false_iff_not, Int.not_lt, Int.not_le, beq_iff_eq] at *; omega) | exact rfl) | exact AStepD.str_add rfl rfl rfl (by omega)) ?_ | refine AL.gskip rfl rfl rfl rfl rfl rfl rfl ?_ | refine AL.gnone rfl rfl rfl rfl rfl ?_ | refine AL.gmay rfl rfl rfl rfl rfl rfl (fun hb => by (try (apply AStepD.uncond 67 rfl (gpf hb))); (try (apply AStepD.uncond 70 rfl (gpf hb))); exact (by first | exact AStepD.add rfl rfl rfl (by first | exact IntWalk.i64_in _ (by omega) | exact IntWalk.i64_in _ (by simp only [Bool.or_eq_true, Bool.and_eq_true, Bool.or_eq_false_iff, Bool.and_eq_false_iff, Bool.not_eq_true', Bool.not_eq_false', decide_eq_true_eq, decide_eq_false_iff_not, Int.not_lt, Int.not_le, beq_iff_eq] at *; omega) | exact rfl) | exact AStepD.str_add rfl rfl rfl (by omega))) ?_ | refine AL.gmay2 rfl rfl rfl rfl rfl rfl (fun _ hb => by (try (apply AStepD.uncond 67 rfl (gpf hb))); (try (apply AStepD.uncond 70 rfl (gpf hb))); exact (by first | exact AStepD.add rfl rfl rfl (by first | exact IntWalk.i64_in _ (by omega) | exact IntWalk.i64_in _ (by simp only [Bool.or_eq_true, Bool.and_eq_true, Bool.or_eq_false_iff, Bool.and_eq_false_iff, Bool.not_eq_true', Bool.not_eq_false', decide_eq_true_eq, decide_eq_false_iff_not, Int.not_lt, Int.not_le, beq_iff_eq] at *; omega) | exact rfl) | exact AStepD.str_add rfl rfl rfl (by omega))) ?_
    first | refine AL.gstep rfl rfl rfl rfl rfl rfl rfl qR212 ?_ | refine AL.gskip rfl rfl rfl rfl rfl rfl rfl ?_ | refine AL.gnone rfl rfl rfl rfl rfl ?_ | refine AL.gmay rfl rfl rfl rfl rfl rfl qR41 ?_ | refine AL.gmay2 rfl rfl rfl rfl rfl rfl qR42 ?_
    first | refine AL.gstep rfl rfl rfl rfl rfl rfl rfl qR212 ?_ | refine AL.gskip rfl rfl rfl rfl rfl rfl rfl ?_ | refine AL.gnone rfl rfl rfl rfl rfl ?_ | refine AL.gmay rfl rfl rfl rfl rfl rfl qR217 ?_ | refine AL.gmay2 rfl rfl rfl rfl rfl rfl qR218 ?_
    first | refine AL.gstep rfl rfl rfl rfl rfl rfl rfl qS34 ?_ | refine AL.gskip rfl rfl rfl rfl rfl rfl rfl ?_ | refine AL.gnone rfl rfl rfl rfl rfl ?_ | refine AL.gmay rfl rfl rfl rfl rfl rfl (fun hb => by (try (apply AStepD.uncond 72 rfl (gpf hb))); (try (apply AStepD.uncond 73 rfl (gpf hb))); exact qS34) ?_ | refine AL.gmay2 rfl rfl rfl rfl rfl rfl (fun _ hb => by (try (apply AStepD.uncond 72 rfl (gpf hb))); (try (apply AStepD.uncond 73 rfl (gpf hb))); exact qS34) ?_
    first | refine AL.gstep rfl rfl rfl rfl rfl rfl rfl (by exact AStepD.callf rfl en20 rfl (list_calls _ (ofS a &&& ofS b))) ?_ | refine AL.gskip rfl rfl rfl rfl rfl rfl rfl ?_ | refine AL.gnone rfl rfl rfl rfl rfl ?_ | refine AL.gmay rfl rfl rfl rfl rfl rfl (fun hb => by (try (apply AStepD.uncond 74 rfl (gpf hb))); exact (by exact AStepD.callf rfl en20 rfl (list_calls _ (ofS a &&& ofS b)))) ?_ | refine AL.gmay2 rfl rfl rfl rfl rfl rfl (fun _ hb => by (try (apply AStepD.uncond 74 rfl (gpf hb))); exact (by exact AStepD.callf rfl en20 rfl (list_calls _ (ofS a &&& ofS b)))) ?_
    first | refine AL.gstep rfl rfl rfl rfl rfl rfl rfl qS24 ?_ | refine AL.gskip rfl rfl rfl rfl rfl rfl rfl ?_ | refine AL.gnone rfl rfl rfl rfl rfl ?_ | refine AL.gmay rfl rfl rfl rfl rfl rfl (fun hb => by (try (apply AStepD.uncond 75 rfl (gpf hb))); exact qS24) ?_ | refine AL.gmay2 rfl rfl rfl rfl rfl rfl (fun _ hb => by (try (apply AStepD.uncond 75 rfl (gpf hb))); exact qS24) ?_
    first | refine AL.gstep rfl rfl rfl rfl rfl rfl rfl (by exact AStepD.sub rfl rfl rfl (by first | exact IntWalk.i64_in _ (by omega) | exact IntWalk.i64_in _ (by simp only [Bool.or_eq_true, Bool.and_eq_true, Bool.or_eq_false_iff, Bool.and_eq_false_iff, Bool.not_eq_true', Bool.not_eq_false', decide_eq_true_eq, decide_eq_false_iff_not, Int.not_lt, Int.not_le, beq_iff_eq] at *; omega) | exact rfl)) ?_ | refine AL.gskip rfl rfl rfl rfl rfl rfl rfl ?_ | refine AL.gnone rfl rfl rfl rfl rfl ?_ | refine AL.gmay rfl rfl rfl rfl rfl rfl (fun hb => by (try (apply AStepD.uncond 71 rfl (gpf hb))); (try (apply AStepD.uncond 76 rfl (gpf hb))); exact (by exact AStepD.sub rfl rfl rfl (by first | exact IntWalk.i64_in _ (by omega) | exact IntWalk.i64_in _ (by simp only [Bool.or_eq_true, Bool.and_eq_true, Bool.or_eq_false_iff, Bool.and_eq_false_iff, Bool.not_eq_true', Bool.not_eq_false', decide_eq_true_eq, decide_eq_false_iff_not, Int.not_lt, Int.not_le, beq_iff_eq] at *; omega) | exact rfl))) ?_ | refine AL.gmay2 rfl rfl rfl rfl rfl rfl (fun _ hb => by (try (apply AStepD.uncond 71 rfl (gpf hb))); (try (apply AStepD.uncond 76 rfl (gpf hb))); exact (by exact AStepD.sub rfl rfl rfl (by first | exact IntWalk.i64_in _ (by omega) | exact IntWalk.i64_in _ (by simp only [Bool.or_eq_true, Bool.and_eq_true, Bool.or_eq_false_iff, Bool.and_eq_false_iff, Bool.not_eq_true', Bool.not_eq_false', decide_eq_true_eq, decide_eq_false_iff_not, Int.not_lt, Int.not_le, beq_iff_eq] at *; omega) | exact rfl))) ?_
    first | refine AL.gstep rfl rfl rfl rfl rfl rfl rfl (by exact AStepD.bool (AStepD.eql rfl rfl rfl) (c := true) (decide_eq_true (by omega))) ?_ | refine AL.gskip rfl rfl rfl rfl rfl rfl rfl ?_ | refine AL.gnone rfl rfl rfl rfl rfl ?_ | refine AL.gmay rfl rfl rfl rfl rfl rfl (fun hb => by (try (apply AStepD.uncond 64 rfl (gpf hb))); (try (apply AStepD.uncond 77 rfl (gpf hb))); exact (by exact AStepD.bool (AStepD.eql rfl rfl rfl) (c := true) (decide_eq_true (by omega)))) ?_ | refine AL.gmay2 rfl rfl rfl rfl rfl rfl (fun _ hb => by (try (apply AStepD.uncond 64 rfl (gpf hb))); (try (apply AStepD.uncond 77 rfl (gpf hb))); exact (by exact AStepD.bool (AStepD.eql rfl rfl rfl) (c := true) (decide_eq_true (by omega)))) ?_
    refine AL.step rfl rfl rfl qR216 ?_
    refine AL.step rfl rfl rfl qR211 ?_
    refine AL.nil_then (hK _ _ ?_); clear hK K
    exact AW.ret (RetQ.mk (.inr rfl) (retA_tmp rfl qR21 retA_nil) rfl)

/-- The last slot and the first, by the runs. -/
theorem last_run : ∀ (r : List (Nat × Nat)) (lo : Nat), Good lo r → r ≠ [] → ∃ q a b, r = q ++ [(a, b)] ∧ inR r b = true ∧ ∀ j, b < j → inR r j = false
  | [], _, _, h => absurd rfl h
  | [(a, b)], _, ⟨h1, h2, h3, _⟩, _ => ⟨[], a, b, rfl, by rw [inR_cons, decide_eq_true h2, decide_eq_true (Nat.le_refl b)]; rfl, fun j hj => by rw [inR_cons, decide_eq_false (show ¬ j ≤ b by omega), Bool.and_false]; rfl⟩
  | (a, b) :: x :: t, _, ⟨h1, h2, h3, h4⟩, _ => by
    obtain ⟨q, a', b', e1, e2, e3⟩ := last_run (x :: t) (b + 2) h4 (by simp)
    have hb : b + 2 ≤ b' := by
      rcases Nat.lt_or_ge b' (b + 2) with h | h
      · rw [inR_low h4 h] at e2; cases e2
      · exact h
    refine ⟨(a, b) :: q, a', b', by rw [e1]; rfl, by rw [inR_cons, e2, Bool.or_true], fun j hj => by rw [inR_cons, e3 j hj, decide_eq_false (show ¬ j ≤ b by omega), Bool.and_false]; rfl⟩
theorem memS_last {s : BitVec 64} {b : Nat} (h1 : s.getLsbD b = true) (h2 : ∀ j, b < j → s.getLsbD j = false) : ∃ h : 0 < (memS s).length, (memS s)[(memS s).length - 1] = (b : Nat) := by
  have hb : b < 64 := by
    rcases Nat.lt_or_ge b 64 with h | h
    · exact h
    · rw [BitVec.getLsbD_of_ge _ _ h] at h1; cases h1
  obtain ⟨h3, h4⟩ := mem_at s b hb h1
  have hc : cntB s b + 1 = (memS s).length := by
    have e : ∀ d, b + 1 + d ≤ 64 → cntB s (b + 1 + d) = cntB s b + 1 := fun d => by
      induction d with
      | zero => intro _; rw [Nat.add_zero, cntB_next, if_pos h1]
      | succ d ih => intro hd; rw [show b + 1 + (d + 1) = (b + 1 + d) + 1 by omega, cntB_next, ih (by omega), if_neg (by rw [h2 _ (by omega)]; simp)]
    rw [← cntB_all, ← e (64 - (b + 1)) (by omega), show b + 1 + (64 - (b + 1)) = 64 by omega]
  refine ⟨by omega, ?_⟩
  rw [← h4]
  congr 1
  omega
theorem memS_first {s : BitVec 64} {a : Nat} (h1 : s.getLsbD a = true) (h2 : ∀ j, j < a → s.getLsbD j = false) : ∃ h : 0 < (memS s).length, (memS s)[0] = (a : Nat) := by
  have ha : a < 64 := by
    rcases Nat.lt_or_ge a 64 with h | h
    · exact h
    · rw [BitVec.getLsbD_of_ge _ _ h] at h1; cases h1
  obtain ⟨h3, h4⟩ := mem_at s a ha h1
  have hc : ∀ d, d ≤ a → cntB s d = 0 := fun d => by
    induction d with
    | zero => intro _; rfl
    | succ d ih => intro hd; rw [cntB_next, ih (by omega), if_neg (by rw [h2 _ (by omega)]; simp)]
  refine ⟨by omega, ?_⟩
  rw [← h4]
  congr 1
  exact (hc a (Nat.le_refl _)).symm
theorem runs_nil {s : BitVec 64} (h : segsS s = []) : memS s = [] := by
  rw [← setB_segs s, h]; exact memS_zero
/-- Two sets, one ahead of the other or not: what their texts, one behind the other, are. -/
theorem two_sets {s t : BitVec 64} (hs : memS s ≠ []) (ht : memS t ≠ []) : ∃ (h1 : 0 < (memS s).length) (h2 : 0 < (memS t).length),
    ((memS s)[(memS s).length - 1] + 1 < (memS t)[0] → parseO (textS s ++ 32 :: textS t) = some (s ||| t)) ∧ (¬ (memS s)[(memS s).length - 1] + 1 < (memS t)[0] → parseO (textS s ++ 32 :: textS t) = none) := by
  have hs2 : segsS s ≠ [] := fun e => hs (runs_nil e)
  have ht2 : segsS t ≠ [] := fun e => ht (runs_nil e)
  obtain ⟨q, a, b, e1, e2, e3⟩ := last_run _ 0 (segsS_good s) hs2
  obtain ⟨x, r, e4⟩ : ∃ x r, segsS t = x :: r := by
    cases h : segsS t with
    | nil => exact absurd h ht2
    | cons x r => exact ⟨x, r, rfl⟩
  obtain ⟨c, d⟩ := x
  have hgt := segsS_good t
  rw [e4] at hgt
  obtain ⟨_, g2, g3, g4⟩ := hgt
  have hc : (⟨c, d⟩ :: r : List (Nat × Nat)) = segsS t := e4.symm
  have hgc : Good c (segsS t) := by rw [e4]; exact ⟨Nat.le_refl _, g2, g3, g4⟩
  simp only [segsS_in] at e2 e3
  obtain ⟨l1, l2⟩ := memS_last e2 e3
  obtain ⟨f1, f2⟩ := memS_first (s := t) (a := c) (by rw [← segsS_in, e4, inR_cons, decide_eq_true (Nat.le_refl c), decide_eq_true g2]; rfl) (fun j hj => by rw [← segsS_in]; exact inR_low hgc hj)
  have hgs := segsS_good s
  have key : Good 0 (segsS s ++ segsS t) ↔ b + 2 ≤ c := by
    rw [e1, e4, List.append_assoc, List.singleton_append, good_snoc, ← e1]
    exact ⟨fun h => h.2.1, fun h => ⟨hgs, h, g2, g3, g4⟩⟩
  refine ⟨l1, f1, fun h => ?_, fun h => ?_⟩
  · rw [l2, f2] at h
    rw [← two_good hs2 ht2 (key.2 (by omega)), parse_text]
  · rw [l2, f2] at h
    cases hp : parseO (textS s ++ 32 :: textS t) with
    | none => rfl
    | some u =>
      have := key.1 (two_parse hs2 ht2 hp)
      omega

set_option maxHeartbeats 4000000 in
theorem loose_law (H : AHeap) (s t : BitVec 64) : ACalls Tryd.prog 9 [u64A s, u64A t] H (fun r _ => r = .v (.bool true)) := by
  have l1 := textS_len s
  have l2 := textS_len t
  refine ACalls.of_body tok Tryd.func9 rfl Tryd.ntmps9 (Nat.le_of_ble_eq_true rfl) (fun base => ?_)
  refine AW.seq_region (fun K hK => ?_)
  refine AL.step rfl rfl rfl qR211 ?_
  refine AL.nil_then (hK _ _ ?_); clear hK K
  refine AW.seq_k (fun K1 hK1 => ?_)
  refine AW.seq_region (fun K hK => ?_)
  refine AL.step rfl rfl rfl (by exact AStepD.callf rfl en10 rfl (anchor_calls _)) ?_
  refine AL.step rfl rfl rfl (by first | exact AStepD.not rfl rfl | exact AStepD.neg rfl rfl (by first | exact IntWalk.i64_in _ (by omega) | exact IntWalk.i64_in _ (by simp only [Bool.or_eq_true, Bool.and_eq_true, Bool.or_eq_false_iff, Bool.and_eq_false_iff, Bool.not_eq_true', Bool.not_eq_false', decide_eq_true_eq, decide_eq_false_iff_not, Int.not_lt, Int.not_le, beq_iff_eq] at *; omega) | exact rfl)) ?_
  refine AL.nil_then (hK _ _ ?_); clear hK K
  refine AW.cond_false rfl rfl (AW.skip ?_)
  refine hK1 _ _ ?_; try clear hK1 K1
  refine AW.seq_region (fun K hK => ?_)
  refine AL.step rfl rfl rfl qR212 ?_
  refine AL.step rfl rfl rfl (by exact AStepD.callf rfl en12 rfl (text_calls _ s)) ?_
  refine AL.step rfl rfl rfl qR212 ?_
  refine AL.step rfl rfl rfl (by exact AStepD.callf rfl en12 rfl (text_calls _ t)) ?_
  refine AL.step rfl rfl rfl qR211 ?_
  refine AL.step rfl rfl rfl qR211 ?_
  refine AL.nil_then (hK _ _ ?_); clear hK K
  generalize hta : textS s = a at l1 ⊢
  generalize htb : textS t = b at l2 ⊢
  refine AW.seq_k (fun K2 hK2 => ?_)
  refine AW.seq_region (fun K hK => ?_)
  refine AL.step rfl rfl rfl qR212 ?_
  refine AL.step rfl rfl rfl (by exact strA_add [32] a rfl rfl rfl (by simp; omega)) ?_
  refine AL.step rfl rfl rfl qR212 ?_
  refine AL.step rfl rfl rfl (by exact strA_add a [32] rfl rfl rfl (by simp; omega)) ?_
  refine AL.step rfl rfl rfl qR212 ?_
  refine AL.step rfl rfl rfl (by exact strA_add a [32, 32] rfl rfl rfl (by simp; omega)) ?_
  refine AL.step rfl rfl rfl qR212 ?_
  refine AL.step rfl rfl rfl (by exact strA_add (a ++ [32, 32]) b rfl rfl rfl (by simp; omega)) ?_
  refine AL.step rfl rfl rfl (by exact AStepD.vec_flat (l := ([[32] ++ a, a ++ [32], a ++ [32, 32] ++ b] : List (List UInt8))) (AStepD.buildSlice_seq tok rfl rfl rfl rfl (show _ = 1 from rfl) (map_p qR21 (map_p qR21 (map_p qR21 map_n))) rfl (by decide) (by decide) rfl qR23 qR22) rfl rfl rfl) ?_
  refine AL.step rfl rfl rfl qS24 ?_
  refine AL.step rfl rfl rfl qR212 ?_
  refine AL.nil_then (hK _ _ ?_); clear hK K
  obtain ⟨xs, hxs⟩ : ∃ xs : List (List UInt8), xs = [[32] ++ a, a ++ [32], a ++ [32, 32] ++ b] := ⟨_, rfl⟩
  have hno : ∀ x ∈ xs, parseO x = none ∧ x.length ≤ 1000000 := fun x hx => by
    rw [hxs] at hx
    simp only [List.mem_cons, List.not_mem_nil, or_false] at hx
    rcases hx with rfl | rfl | rfl
    · exact ⟨gap_ahead a, by simp; omega⟩
    · exact ⟨gap_behind a, by simp; omega⟩
    · exact ⟨gap_twice a b, by simp; omega⟩
  have hx3 : xs.length ≤ 3 := by rw [hxs]; simp
  rw [← hxs]
  clear hxs
  refine AW.block ?_
  refine AW.loop_at (ι := Nat) (fun i => [(31, .v (.int .i64 (i : Nat))), (30, .v (.int .i64 (xs.length : Nat))), (29, vecA xs), (6, strA b), (5, strA a), (1, u64A t), (0, u64A s)])
    (fun i H' => i ≤ xs.length) (fun i => xs.length - i) 0 qR215 (Nat.zero_le _) ?_
  rintro i H2 hi
  refine AW.seq_region (fun K hK => ?_)
  refine AL.step rfl rfl rfl qR27 ?_
  refine AL.nil_then (hK _ _ ?_); clear hK K
  refine AW.seq_k (fun K3 hK3 => ?_)
  refine AW.cond _ rfl (fun hc => ?_) (fun hc => ?_)
  · have hil : i < xs.length := by simpa using hc
    clear hc
    obtain ⟨n1, n2⟩ := hno _ (List.getElem_mem hil)
    have hE : parseE xs[i] = 60 := by rw [parseE, n1]; rfl
    refine AW.skip ?_
    refine hK3 _ _ ?_; try clear hK3 K3
    refine AW.seq_k (fun K4 hK4 => ?_)
    refine AW.block ?_
    refine AW.seq_region (fun K hK => ?_)
    refine AL.step rfl rfl rfl qR310 ?_
    refine AL.step rfl rfl rfl qR415 ?_
    refine AL.step rfl rfl rfl qR211 ?_
    refine AL.nil_then (hK _ _ ?_); clear hK K
    refine AW.seq_region (fun K hK => ?_)
    refine AL.step rfl rfl rfl qR212 ?_
    refine AL.step rfl rfl rfl (by exact AStepD.callf rfl en11 rfl (parse_calls _ xs[i] n2)) ?_
    refine AL.step rfl rfl rfl qR212 ?_
    refine AL.step rfl rfl rfl qR51 ?_
    refine AL.step rfl rfl rfl qR51 ?_
    refine AL.step rfl rfl rfl qR211 ?_
    refine AL.step rfl rfl rfl qR211 ?_
    refine AL.nil_then (hK _ _ ?_); clear hK K
    refine AW.seq_region (fun K hK => ?_)
    refine AL.step rfl rfl rfl qR212 ?_
    refine AL.step rfl rfl rfl (by exact AStepD.bool (AStepD.neq rfl rfl rfl) (c := false) (by rw [hE]; rfl)) ?_
    refine AL.nil_then (hK _ _ ?_); clear hK K
    refine AW.cond_false rfl rfl (AW.skip ?_)
    refine hK4 _ _ ?_; try clear hK4 K4
    refine AW.region ?_
    refine AL.step rfl rfl rfl (by first | exact AStepD.add rfl rfl rfl (by first | exact IntWalk.i64_in _ (by omega) | exact IntWalk.i64_in _ (by simp only [Bool.or_eq_true, Bool.and_eq_true, Bool.or_eq_false_iff, Bool.and_eq_false_iff, Bool.not_eq_true', Bool.not_eq_false', decide_eq_true_eq, decide_eq_false_iff_not, Int.not_lt, Int.not_le, beq_iff_eq] at *; omega) | exact rfl) | exact AStepD.str_add rfl rfl rfl (by omega)) ?_
    refine AL.step rfl rfl rfl qR212 ?_
    refine AL.nil ?_
    exact ⟨i + 1, by omega, qR215, by omega⟩
  · clear hc hno hi hx3
    refine AW.exit ?_
    refine hK2 _ _ ?_; try clear hK2 K2
    have m1 := memS_length s
    have m2 := memS_length t
    refine AW.seq_region (fun K hK => ?_)
    refine AL.step rfl rfl rfl qR212 ?_
    refine AL.step rfl rfl rfl (by exact AStepD.callf rfl en20 rfl (list_calls _ s)) ?_
    refine AL.step rfl rfl rfl qR212 ?_
    refine AL.step rfl rfl rfl (by exact AStepD.callf rfl en20 rfl (list_calls _ t)) ?_
    refine AL.step rfl rfl rfl qR211 ?_
    refine AL.step rfl rfl rfl qR211 ?_
    refine AL.nil_then (hK _ _ ?_); clear hK K
    refine AW.seq_k (fun K5 hK5 => ?_)
    refine AW.seq_region (fun K hK => ?_)
    refine AL.step rfl rfl rfl qR212 ?_
    refine AL.step rfl rfl rfl qS24 ?_
    refine AL.step rfl rfl rfl qR53 ?_
    refine AL.step rfl rfl rfl qR212 ?_
    first | refine AL.gstep rfl rfl rfl rfl rfl rfl rfl qR212 ?_ | refine AL.gskip rfl rfl rfl rfl rfl rfl rfl ?_ | refine AL.gnone rfl rfl rfl rfl rfl ?_ | refine AL.gmay rfl rfl rfl rfl rfl rfl (fun hb => by (try (apply AStepD.uncond 12 rfl (gpf hb))); exact qR212) ?_ | refine AL.gmay2 rfl rfl rfl rfl rfl rfl (fun _ hb => by (try (apply AStepD.uncond 12 rfl (gpf hb))); exact qR212) ?_
    first | refine AL.gstep rfl rfl rfl rfl rfl rfl rfl qS24 ?_ | refine AL.gskip rfl rfl rfl rfl rfl rfl rfl ?_ | refine AL.gnone rfl rfl rfl rfl rfl ?_ | refine AL.gmay rfl rfl rfl rfl rfl rfl (fun hb => by (try (apply AStepD.uncond 51 rfl (gpf hb))); exact qS24) ?_ | refine AL.gmay2 rfl rfl rfl rfl rfl rfl (fun _ hb => by (try (apply AStepD.uncond 51 rfl (gpf hb))); exact qS24) ?_
    first | refine AL.gstep rfl rfl rfl rfl rfl rfl rfl qR53 ?_ | refine AL.gskip rfl rfl rfl rfl rfl rfl rfl ?_ | refine AL.gnone rfl rfl rfl rfl rfl ?_ | refine AL.gmay rfl rfl rfl rfl rfl rfl (fun hb => by (try (apply AStepD.uncond 52 rfl (gpf hb))); exact qR53) ?_ | refine AL.gmay2 rfl rfl rfl rfl rfl rfl (fun _ hb => by (try (apply AStepD.uncond 52 rfl (gpf hb))); exact qR53) ?_
    refine AL.step rfl rfl rfl qR216 ?_
    refine AL.nil_then (hK _ _ ?_); clear hK K
    refine AW.cond _ rfl (fun hc => ?_) (fun hc => ?_)
    · refine AW.seq_region (fun K hK => ?_)
      refine AL.step rfl rfl rfl qR211 ?_
      refine AL.nil_then (hK _ _ ?_); clear hK K
      exact AW.ret (RetQ.mk (.inr rfl) (retA_tmp rfl qR21 retA_nil) rfl)
    simp only [Bool.or_eq_false_iff, decide_eq_false_iff_not] at hc
    obtain ⟨h1, h2, h3, h4⟩ := two_sets (s := s) (t := t) (fun e => hc.1 (by rw [e]; rfl)) (fun e => hc.2 (by rw [e]; rfl))
    clear hc
    rw [hta, htb] at h3 h4
    have q1 := memS_mem (List.getElem_mem (l := memS s) (n := (memS s).length - 1) (by omega))
    have q2 := memS_mem (List.getElem_mem (l := memS t) (n := 0) h2)
    refine AW.skip ?_
    refine hK5 _ _ ?_; try clear hK5 K5
    refine AW.seq_region (fun K hK => ?_)
    refine AL.step rfl rfl rfl qR212 ?_
    refine AL.step rfl rfl rfl (by exact strA_add a [32] rfl rfl rfl (by simp; omega)) ?_
    refine AL.step rfl rfl rfl qR212 ?_
    refine AL.step rfl rfl rfl (by exact strA_add (a ++ [32]) b rfl rfl rfl (by simp; omega)) ?_
    refine AL.step rfl rfl rfl (by exact AStepD.callf rfl en11 rfl (parse_calls _ (a ++ [32] ++ b) (by simp; omega))) ?_
    refine AL.step rfl rfl rfl qR212 ?_
    refine AL.step rfl rfl rfl qR51 ?_
    refine AL.step rfl rfl rfl qR51 ?_
    refine AL.step rfl rfl rfl qR211 ?_
    refine AL.step rfl rfl rfl qR211 ?_
    refine AL.nil_then (hK _ _ ?_); clear hK K
    rw [List.append_assoc, List.singleton_append]
    refine AW.seq_k (fun K6 hK6 => ?_)
    refine AW.seq_k (fun K hK => ?_)
    apply AW.draw mixed [_, _, _, _, _, _, _, _, _, _, _] [] [_] [(0, 0), (1, 0), (2, 0), (3, 0), (4, 0), (5, 0), (6, 0), (7, 0), (8, 0), (9, 0), (10, 0)] rfl rfl rfl qS31
    · refine ⟨?_, ?_, ?_, ?_, ?_, ?_, ?_, ?_, ?_, ?_, ?_⟩
      · refine Ob.mk _ [11] 0 rfl rfl (restr_cons qR21 restr_nil) rfl ?_
        simp only [List.getD_cons_zero, List.getD_cons_succ]
        exact GStep.plain rfl qR212
      · refine Ob.mk _ [11] 0 rfl rfl (restr_cons qR21 restr_nil) rfl ?_
        simp only [List.getD_cons_zero, List.getD_cons_succ]
        exact GStep.plain rfl qR212
      · refine Ob.mk _ [64] 0 rfl rfl (restr_cons qR21 restr_nil) rfl ?_
        simp only [List.getD_cons_zero, List.getD_cons_succ]
        exact GStep.plain rfl qS24
      · refine Ob.mk _ [65] 0 rfl rfl (restr_cons qR21 restr_nil) rfl ?_
        simp only [List.getD_cons_zero, List.getD_cons_succ]
        exact GStep.plain rfl (by exact AStepD.sub (r := (((memS s).length - 1 : Nat) : Int)) rfl rfl rfl (by rw [show ((memS s).length : Int) - 1 = (((memS s).length - 1 : Nat) : Int) by omega]; exact IntWalk.i64_in _ (by omega)))
      · refine Ob.mk _ [63, 66] 0 rfl rfl (restr_cons qR21 (restr_cons qR21 restr_nil)) rfl ?_
        simp only [List.getD_cons_zero, List.getD_cons_succ]
        exact GStep.plain rfl qR310
      · refine Ob.mk _ [67] 0 rfl rfl (restr_cons qR21 restr_nil) rfl ?_
        simp only [List.getD_cons_zero, List.getD_cons_succ]
        exact GStep.plain rfl qR415
      · refine Ob.mk _ [68] 0 rfl rfl (restr_cons qR21 restr_nil) rfl ?_
        simp only [List.getD_cons_zero, List.getD_cons_succ]
        exact GStep.plain rfl (by exact AStepD.add (r := (memS s)[(memS s).length - 1] + 1) rfl rfl rfl (IntWalk.i64_in _ (by omega)))
      · refine Ob.mk _ [12] 0 rfl rfl (restr_cons qR21 restr_nil) rfl ?_
        simp only [List.getD_cons_zero, List.getD_cons_succ]
        exact GStep.plain rfl qR212
      · refine Ob.mk _ [70] 0 rfl rfl (restr_cons qR21 restr_nil) rfl ?_
        simp only [List.getD_cons_zero, List.getD_cons_succ]
        exact GStep.plain rfl qR310
      · refine Ob.mk _ [71] 0 rfl rfl (restr_cons qR21 restr_nil) rfl ?_
        simp only [List.getD_cons_zero, List.getD_cons_succ]
        exact GStep.plain rfl qR415
      · refine Ob.mk _ [69, 72] 0 rfl rfl (restr_cons qR21 (restr_cons qR21 restr_nil)) rfl ?_
        simp only [List.getD_cons_zero, List.getD_cons_succ]
        exact GStep.plain rfl qR27
    refine hK _ _ ?_; clear hK K
    refine AW.frame qS327 qS328 ?_
    refine AW.cond _ rfl (fun hc => ?_) (fun hc => ?_)
    · have hS : parseE (a ++ 32 :: b) = 0 ∧ parseS (a ++ 32 :: b) = s ||| t := by rw [parseE, parseS, h3 (by simpa using hc)]; exact ⟨rfl, rfl⟩
      refine AW.seq_region (fun K hK => ?_)
      refine AL.step rfl rfl rfl qR212 ?_
      refine AL.step rfl rfl rfl (by exact AStepD.bool (AStepD.eql rfl rfl rfl) (c := true) (by rw [hS.1]; rfl)) ?_
      refine AL.step rfl rfl rfl qR212 ?_
      first | refine AL.gstep rfl rfl rfl rfl rfl rfl rfl qR212 ?_ | refine AL.gskip rfl rfl rfl rfl rfl rfl rfl ?_ | refine AL.gnone rfl rfl rfl rfl rfl ?_ | refine AL.gmay rfl rfl rfl rfl rfl rfl qS35 ?_ | refine AL.gmay2 rfl rfl rfl rfl rfl rfl qS36 ?_
      first | refine AL.gstep rfl rfl rfl rfl rfl rfl rfl qR212 ?_ | refine AL.gskip rfl rfl rfl rfl rfl rfl rfl ?_ | refine AL.gnone rfl rfl rfl rfl rfl ?_ | refine AL.gmay rfl rfl rfl rfl rfl rfl qR221 ?_ | refine AL.gmay2 rfl rfl rfl rfl rfl rfl qR222 ?_
      first | refine AL.gstep rfl rfl rfl rfl rfl rfl rfl qR212 ?_ | refine AL.gskip rfl rfl rfl rfl rfl rfl rfl ?_ | refine AL.gnone rfl rfl rfl rfl rfl ?_ | refine AL.gmay rfl rfl rfl rfl rfl rfl qR219 ?_ | refine AL.gmay2 rfl rfl rfl rfl rfl rfl qR220 ?_
      first | refine AL.gstep rfl rfl rfl rfl rfl rfl rfl qS42 ?_ | refine AL.gskip rfl rfl rfl rfl rfl rfl rfl ?_ | refine AL.gnone rfl rfl rfl rfl rfl ?_ | refine AL.gmay rfl rfl rfl rfl rfl rfl (fun hb => by (try (apply AStepD.uncond 78 rfl (gpf hb))); (try (apply AStepD.uncond 79 rfl (gpf hb))); exact qS42) ?_ | refine AL.gmay2 rfl rfl rfl rfl rfl rfl (fun _ hb => by (try (apply AStepD.uncond 78 rfl (gpf hb))); (try (apply AStepD.uncond 79 rfl (gpf hb))); exact qS42) ?_
      first | refine AL.gstep rfl rfl rfl rfl rfl rfl rfl (by exact AStepD.bool (AStepD.eql rfl rfl rfl) (c := true) (by rw [hS.2]; simp)) ?_ | refine AL.gskip rfl rfl rfl rfl rfl rfl rfl ?_ | refine AL.gnone rfl rfl rfl rfl rfl ?_ | refine AL.gmay rfl rfl rfl rfl rfl rfl (fun hb => by (try (apply AStepD.uncond 77 rfl (gpf hb))); (try (apply AStepD.uncond 80 rfl (gpf hb))); exact (by exact AStepD.bool (AStepD.eql rfl rfl rfl) (c := true) (by rw [hS.2]; simp))) ?_ | refine AL.gmay2 rfl rfl rfl rfl rfl rfl (fun _ hb => by (try (apply AStepD.uncond 77 rfl (gpf hb))); (try (apply AStepD.uncond 80 rfl (gpf hb))); exact (by exact AStepD.bool (AStepD.eql rfl rfl rfl) (c := true) (by rw [hS.2]; simp))) ?_
      refine AL.step rfl rfl rfl qR216 ?_
      refine AL.step rfl rfl rfl qR211 ?_
      refine AL.nil_then (hK _ _ ?_); clear hK K
      exact AW.ret (RetQ.mk (.inr rfl) (retA_tmp rfl qR21 retA_nil) rfl)
    · have hS : parseE (a ++ 32 :: b) = 60 ∧ parseS (a ++ 32 :: b) = 0#64 := by rw [parseE, parseS, h4 (by simpa using hc)]; exact ⟨rfl, rfl⟩
      refine AW.skip ?_
      refine hK6 _ _ ?_; try clear hK6 K6
      refine AW.seq_region (fun K hK => ?_)
      refine AL.step rfl rfl rfl qR212 ?_
      refine AL.step rfl rfl rfl (by exact AStepD.bool (AStepD.eql rfl rfl rfl) (c := true) (by rw [hS.1]; rfl)) ?_
      refine AL.step rfl rfl rfl qR212 ?_
      first | refine AL.gstep rfl rfl rfl rfl rfl rfl rfl qR212 ?_ | refine AL.gskip rfl rfl rfl rfl rfl rfl rfl ?_ | refine AL.gnone rfl rfl rfl rfl rfl ?_ | refine AL.gmay rfl rfl rfl rfl rfl rfl qS35 ?_ | refine AL.gmay2 rfl rfl rfl rfl rfl rfl qS36 ?_
      first | refine AL.gstep rfl rfl rfl rfl rfl rfl rfl (by exact AStepD.bool (AStepD.eql rfl rfl rfl) (c := true) (by rw [hS.2]; rfl)) ?_ | refine AL.gskip rfl rfl rfl rfl rfl rfl rfl ?_ | refine AL.gnone rfl rfl rfl rfl rfl ?_ | refine AL.gmay rfl rfl rfl rfl rfl rfl (fun hb => by (try (apply AStepD.uncond 86 rfl (gpf hb))); exact (by exact AStepD.bool (AStepD.eql rfl rfl rfl) (c := true) (by rw [hS.2]; rfl))) ?_ | refine AL.gmay2 rfl rfl rfl rfl rfl rfl (fun _ hb => by (try (apply AStepD.uncond 86 rfl (gpf hb))); exact (by exact AStepD.bool (AStepD.eql rfl rfl rfl) (c := true) (by rw [hS.2]; rfl))) ?_
      refine AL.step rfl rfl rfl qR216 ?_
      refine AL.step rfl rfl rfl qR211 ?_
      refine AL.nil_then (hK _ _ ?_); clear hK K
      exact AW.ret (RetQ.mk (.inr rfl) (retA_tmp rfl qR21 retA_nil) rfl)
end Go.Proofs.YtopbofalkcblgaaDoor

/- The law SlotsStretches. -/

namespace Go.Proofs.YtopbofalkcblgaaDoor
open Go.Ax
open Cel (c)
theorem qS51 {p : Prop} (h : p := by exact (fun hb => by (try (apply AStepD.uncond 2 rfl (gpf hb))); exact qR212)) : p := h
theorem qS52 {p : Prop} (h : p := by exact (fun _ hb => by (try (apply AStepD.uncond 2 rfl (gpf hb))); exact qR212)) : p := h
set_option linter.unusedSimpArgs false
set_option linter.unusedVariables false

theorem text_runs {r : List (Nat × Nat)} (h : Good 0 r) : textS (setB r) = Lib.join (r.map segT) [32] := by rw [textS, segs_setB h]
theorem range_setB (a b : Nat) : rangeB a (b + 1) = setB [(a, b)] := by
  show _ = 0#64 ||| rangeB a (b + 1)
  rw [BitVec.zero_or]
theorem text_range {a b : Nat} (h : a ≤ b) (hb : b < 64) : textS (rangeB a (b + 1)) = segT (a, b) := by
  rw [range_setB, text_runs (r := [(a, b)]) (show 0 ≤ a ∧ a ≤ b ∧ b < 64 ∧ True from ⟨Nat.zero_le _, h, hb, trivial⟩), List.map_cons, List.map_nil, Lib.join_one]
theorem text_one (x : Nat) (hx : x < 64) : textS (ofS [(x : Int)]) = Lib.decDigits x := by
  have e : ofS [(x : Int)] = rangeB x (x + 1) := by
    have h : ([(x : Int)] : List Int).all okI = true := by simp only [List.all_cons, List.all_nil, okI, Bool.and_true, Bool.and_eq_true, decide_eq_true_eq]; omega
    rw [ofS, h, rangeB_next _ _ (Nat.le_refl _), rangeB_nil]; rfl
  rw [e, text_range (Nat.le_refl _) hx, segT, if_neg (Nat.lt_irrefl x)]
theorem segT_len2 {a b : Nat} (h : a ≤ b) (hb : b < 64) : (segT (a, b)).length ≤ 5 := segT_len ⟨h, hb⟩

set_option maxHeartbeats 4000000 in
theorem part_calls (H : AHeap) (x y : Nat) (hxy : x ≤ y) (hy : y < 64) : ACalls Tryd.prog 17 [.v (.int .i64 (x : Nat)), .v (.int .i64 (y : Nat))] H (fun r H' => r = .tup [u64A (rangeB x (y + 1)), strA (segT (x, y))] ∧ H' = H) := by
  refine ACalls.quiet_keep ?_ (.tup (by simp only [List.forall_mem_cons]; exact ⟨.v _, .v _, fun _ h => absurd h List.not_mem_nil⟩))
  have t1 := text_one x (by omega)
  have t2 := text_one y hy
  have l1 := dec_len x (by omega)
  have l2 := dec_len y (by omega)
  refine ACalls.of_body tok Tryd.func17 rfl Tryd.ntmps17 (Nat.le_of_ble_eq_true rfl) (fun base => ?_)
  refine AW.seq_region (fun K hK => ?_)
  refine AL.step rfl rfl rfl qR211 ?_
  refine AL.step rfl rfl rfl qR211 ?_
  refine AL.nil_then (hK _ _ ?_); clear hK K
  refine AW.seq_region (fun K hK => ?_)
  refine AL.step rfl rfl rfl qR211 ?_
  refine AL.nil_then (hK _ _ ?_); clear hK K
  refine AW.seq_k (fun K1 hK1 => ?_)
  refine AW.seq_region (fun K hK => ?_)
  refine AL.step rfl rfl rfl qR212 ?_
  refine AL.step rfl rfl rfl qR211 ?_
  refine AL.nil_then (hK _ _ ?_); clear hK K
  refine AW.block ?_
  refine AW.loop_at (ι := Nat) (fun i => [(7, .v (.int .i64 (i : Nat))), (6, u64A (rangeB x i)), (1, .v (.int .i64 (y : Nat))), (0, .v (.int .i64 (x : Nat)))])
    (fun i H' => x ≤ i ∧ i ≤ y + 1 ∧ Keep H H') (fun i => y + 1 - i) x (by rw [rangeB_nil]; exact qR215) ⟨Nat.le_refl _, by omega, qR25⟩ ?_
  rintro i H2 ⟨hi1, hi2, hk2⟩
  refine AW.lts fun hlt => ?_
  refine AW.seq_k (fun K3 hK3 => ?_)
  refine AW.seq_region (fun K hK => ?_)
  refine AL.step rfl rfl rfl qR212 ?_
  refine AL.step rfl rfl rfl qR212 ?_
  refine AL.step rfl rfl rfl qR210 ?_
  refine AL.nil_then (hK _ _ ?_); clear hK K
  refine AW.cond _ rfl (fun hc => ?_) (fun hc => ?_)
  · have hlt2 : i ≤ y := by simpa using hc
    clear hc
    refine AW.skip ?_
    refine hK3 _ _ ?_; try clear hK3 K3
    refine AW.seq_k (fun K4 hK4 => ?_)
    refine AW.block ?_
    refine AW.region ?_
    refine AL.step rfl rfl rfl qR212 ?_
    refine AL.step rfl rfl rfl qR212 ?_
    refine AL.step rfl rfl rfl (by first | exact AStepD.bv_shl (a := 1#64) rfl rfl rfl | exact AStepD.shl rfl rfl rfl (by omega) rfl) ?_
    refine AL.step rfl rfl rfl (by first | exact AStepD.bv_or rfl rfl rfl | exact AStepD.bits rfl (by simp) rfl rfl rfl) ?_
    refine AL.step rfl rfl rfl qR211 ?_
    refine AL.nil ?_
    refine hK4 _ _ ?_; try clear hK4 K4
    refine AW.region ?_
    refine AL.step rfl rfl rfl qR212 ?_
    refine AL.step rfl rfl rfl (by first | exact AStepD.add rfl rfl rfl (by first | exact IntWalk.i64_in _ (by omega) | exact IntWalk.i64_in _ (by simp only [Bool.or_eq_true, Bool.and_eq_true, Bool.or_eq_false_iff, Bool.and_eq_false_iff, Bool.not_eq_true', Bool.not_eq_false', decide_eq_true_eq, decide_eq_false_iff_not, Int.not_lt, Int.not_le, beq_iff_eq] at *; omega) | exact rfl) | exact AStepD.str_add rfl rfl rfl (by omega)) ?_
    refine AL.step rfl rfl rfl qR211 ?_
    refine AL.nil ?_
    refine ⟨i + 1, by omega, ?_, by omega, by omega, hk2⟩
    rw [rangeB_next _ _ hi1]
    exact qR215
  · have hlt2 : i = y + 1 := by
      have : ¬ (i ≤ y) := by simpa using hc
      omega
    subst hlt2
    clear hc
    refine AW.exit ?_
    refine hK1 _ _ ?_; try clear hK1 K1
    refine AW.seq_region (fun K hK => ?_)
    refine AL.step rfl rfl rfl qR212 ?_
    refine AL.step rfl rfl rfl (by exact AStepD.vec_flat (l := ([((x : Nat) : Int)] : List Int)) (AStepD.buildSlice1 tok rfl rfl rfl rfl (show _ = 1 from rfl) qR21 qR21 rfl (by decide) qR22) rfl rfl rfl) ?_
    refine AL.step rfl rfl rfl (by exact AStepD.callf rfl en18 rfl (of_calls _ [((x : Nat) : Int)] (by simp))) ?_
    refine AL.step rfl rfl rfl qR212 ?_
    refine AL.step rfl rfl rfl qR51 ?_
    refine AL.step rfl rfl rfl qR51 ?_
    refine AL.step rfl rfl rfl qR211 ?_
    refine AL.step rfl rfl rfl qR211 ?_
    refine AL.nil_then (hK _ _ ?_); clear hK K
    refine AW.seq_region (fun K hK => ?_)
    refine AL.step rfl rfl rfl qR212 ?_
    refine AL.step rfl rfl rfl (by exact AStepD.vec_flat (l := ([((y : Nat) : Int)] : List Int)) (AStepD.buildSlice1 tok rfl rfl rfl rfl (show _ = 1 from rfl) qR21 qR21 rfl (by decide) qR22) rfl rfl rfl) ?_
    refine AL.step rfl rfl rfl (by exact AStepD.callf rfl en18 rfl (of_calls _ [((y : Nat) : Int)] (by simp))) ?_
    refine AL.step rfl rfl rfl qR212 ?_
    refine AL.step rfl rfl rfl qR51 ?_
    refine AL.step rfl rfl rfl qR51 ?_
    refine AL.step rfl rfl rfl qR211 ?_
    refine AL.step rfl rfl rfl qR211 ?_
    refine AL.nil_then (hK _ _ ?_); clear hK K
    refine AW.seq_k (fun K5 hK5 => ?_)
    refine AW.seq_region (fun K hK => ?_)
    refine AL.step rfl rfl rfl qR212 ?_
    refine AL.step rfl rfl rfl qR212 ?_
    refine AL.step rfl rfl rfl qR53 ?_
    refine AL.nil_then (hK _ _ ?_); clear hK K
    refine AW.cond _ rfl (fun hc => ?_) (fun hc => ?_)
    · have he : x = y := by
        have := of_decide_eq_true hc
        omega
      have hs : segT (x, y) = Lib.decDigits x := by rw [segT, if_neg (by omega)]
      clear hc
      refine AW.seq_region (fun K hK => ?_)
      refine AL.step rfl rfl rfl qR212 ?_
      refine AL.step rfl rfl rfl qR212 ?_
      refine AL.step rfl rfl rfl (by exact AStepD.val (AStepD.callf rfl en12 rfl (text_calls _ (ofS [((x : Nat) : Int)]))) (by rw [t1])) ?_
      refine AL.step rfl rfl rfl qR211 ?_
      refine AL.step rfl rfl rfl qR211 ?_
      refine AL.nil_then (hK _ _ ?_); clear hK K
      refine AW.ret (RetQ.mk (.inr rfl) (retA_tmp rfl qR21 (retA_tmp rfl qR21 retA_nil)) ⟨?_, hk2⟩)
      rw [hs]; rfl
    · have he : x < y := by
        have := of_decide_eq_false hc
        omega
      have hs : segT (x, y) = Lib.decDigits x ++ (45 :: Lib.decDigits y) := by rw [segT, if_pos he]
      clear hc
      refine AW.skip ?_
      refine hK5 _ _ ?_; try clear hK5 K5
      refine AW.seq_region (fun K hK => ?_)
      refine AL.step rfl rfl rfl qR212 ?_
      refine AL.step rfl rfl rfl qR212 ?_
      refine AL.step rfl rfl rfl (by exact AStepD.val (AStepD.callf rfl en12 rfl (text_calls _ (ofS [((x : Nat) : Int)]))) (by rw [t1])) ?_
      refine AL.step rfl rfl rfl (by exact strA_add (Lib.decDigits x) [45] rfl rfl rfl (by simp; omega)) ?_
      refine AL.step rfl rfl rfl qR212 ?_
      refine AL.step rfl rfl rfl (by exact AStepD.val (AStepD.callf rfl en12 rfl (text_calls _ (ofS [((y : Nat) : Int)]))) (by rw [t2])) ?_
      refine AL.step rfl rfl rfl (by exact strA_add (Lib.decDigits x ++ [45]) (Lib.decDigits y) rfl rfl rfl (by simp; omega)) ?_
      refine AL.step rfl rfl rfl qR211 ?_
      refine AL.step rfl rfl rfl qR211 ?_
      refine AL.nil_then (hK _ _ ?_); clear hK K
      refine AW.ret (RetQ.mk (.inr rfl) (retA_tmp rfl qR21 (retA_tmp rfl qR21 retA_nil)) ⟨?_, hk2⟩)
      rw [hs, show Lib.decDigits x ++ (45 :: Lib.decDigits y) = Lib.decDigits x ++ [45] ++ Lib.decDigits y by simp]; rfl

set_option maxHeartbeats 4000000 in
theorem stretches_law (H : AHeap) (a b c d : Int) : ACalls Tryd.prog 5 [.v (.int .i64 a), .v (.int .i64 b), .v (.int .i64 c), .v (.int .i64 d)] H (fun r _ => r = .v (.bool true)) := by
  refine ACalls.of_body tok Tryd.func5 rfl Tryd.ntmps5 (Nat.le_of_ble_eq_true rfl) (fun base => ?_)
  refine AW.seq_region (fun K hK => ?_)
  refine AL.step rfl rfl rfl qR211 ?_
  refine AL.nil_then (hK _ _ ?_); clear hK K
  refine AW.seq_k (fun K1 hK1 => ?_)
  refine AW.seq_region (fun K hK => ?_)
  refine AL.step rfl rfl rfl (by exact AStepD.callf rfl en10 rfl (anchor_calls _)) ?_
  refine AL.step rfl rfl rfl (by first | exact AStepD.not rfl rfl | exact AStepD.neg rfl rfl (by first | exact IntWalk.i64_in _ (by omega) | exact IntWalk.i64_in _ (by simp only [Bool.or_eq_true, Bool.and_eq_true, Bool.or_eq_false_iff, Bool.and_eq_false_iff, Bool.not_eq_true', Bool.not_eq_false', decide_eq_true_eq, decide_eq_false_iff_not, Int.not_lt, Int.not_le, beq_iff_eq] at *; omega) | exact rfl)) ?_
  refine AL.nil_then (hK _ _ ?_); clear hK K
  refine AW.cond_false rfl rfl (AW.skip ?_)
  refine hK1 _ _ ?_; try clear hK1 K1
  refine AW.seq_k (fun K2 hK2 => ?_)
  refine AW.seq_region (fun K hK => ?_)
  refine AL.step rfl rfl rfl qR212 ?_
  refine AL.step rfl rfl rfl qR27 ?_
  refine AL.step rfl rfl rfl qR212 ?_
  first | refine AL.gstep rfl rfl rfl rfl rfl rfl rfl qR212 ?_ | refine AL.gskip rfl rfl rfl rfl rfl rfl rfl ?_ | refine AL.gnone rfl rfl rfl rfl rfl ?_ | refine AL.gmay rfl rfl rfl rfl rfl rfl qR219 ?_ | refine AL.gmay2 rfl rfl rfl rfl rfl rfl qR220 ?_
  first | refine AL.gstep rfl rfl rfl rfl rfl rfl rfl qR212 ?_ | refine AL.gskip rfl rfl rfl rfl rfl rfl rfl ?_ | refine AL.gnone rfl rfl rfl rfl rfl ?_ | refine AL.gmay rfl rfl rfl rfl rfl rfl qR221 ?_ | refine AL.gmay2 rfl rfl rfl rfl rfl rfl qR222 ?_
  first | refine AL.gstep rfl rfl rfl rfl rfl rfl rfl qR27 ?_ | refine AL.gskip rfl rfl rfl rfl rfl rfl rfl ?_ | refine AL.gnone rfl rfl rfl rfl rfl ?_ | refine AL.gmay rfl rfl rfl rfl rfl rfl (fun hb => by (try (apply AStepD.uncond 21 rfl (gpf hb))); (try (apply AStepD.uncond 22 rfl (gpf hb))); exact qR27) ?_ | refine AL.gmay2 rfl rfl rfl rfl rfl rfl (fun _ hb => by (try (apply AStepD.uncond 21 rfl (gpf hb))); (try (apply AStepD.uncond 22 rfl (gpf hb))); exact qR27) ?_
  refine AL.step rfl rfl rfl qR216 ?_
  refine AL.step rfl rfl rfl qR212 ?_
  first | refine AL.gstep rfl rfl rfl rfl rfl rfl rfl qR212 ?_ | refine AL.gskip rfl rfl rfl rfl rfl rfl rfl ?_ | refine AL.gnone rfl rfl rfl rfl rfl ?_ | refine AL.gmay rfl rfl rfl rfl rfl rfl qS51 ?_ | refine AL.gmay2 rfl rfl rfl rfl rfl rfl qS52 ?_
  first | refine AL.gstep rfl rfl rfl rfl rfl rfl rfl qR212 ?_ | refine AL.gskip rfl rfl rfl rfl rfl rfl rfl ?_ | refine AL.gnone rfl rfl rfl rfl rfl ?_ | refine AL.gmay rfl rfl rfl rfl rfl rfl qR219 ?_ | refine AL.gmay2 rfl rfl rfl rfl rfl rfl qR220 ?_
  first | refine AL.gstep rfl rfl rfl rfl rfl rfl rfl qR210 ?_ | refine AL.gskip rfl rfl rfl rfl rfl rfl rfl ?_ | refine AL.gnone rfl rfl rfl rfl rfl ?_ | refine AL.gmay rfl rfl rfl rfl rfl rfl (fun hb => by (try (apply AStepD.uncond 26 rfl (gpf hb))); (try (apply AStepD.uncond 27 rfl (gpf hb))); exact qR210) ?_ | refine AL.gmay2 rfl rfl rfl rfl rfl rfl (fun _ hb => by (try (apply AStepD.uncond 26 rfl (gpf hb))); (try (apply AStepD.uncond 27 rfl (gpf hb))); exact qR210) ?_
  refine AL.step rfl rfl rfl qR216 ?_
  refine AL.step rfl rfl rfl qR212 ?_
  first | refine AL.gstep rfl rfl rfl rfl rfl rfl rfl qR212 ?_ | refine AL.gskip rfl rfl rfl rfl rfl rfl rfl ?_ | refine AL.gnone rfl rfl rfl rfl rfl ?_ | refine AL.gmay rfl rfl rfl rfl rfl rfl qS11 ?_ | refine AL.gmay2 rfl rfl rfl rfl rfl rfl qS12 ?_
  first | refine AL.gstep rfl rfl rfl rfl rfl rfl rfl qR212 ?_ | refine AL.gskip rfl rfl rfl rfl rfl rfl rfl ?_ | refine AL.gnone rfl rfl rfl rfl rfl ?_ | refine AL.gmay rfl rfl rfl rfl rfl rfl qS51 ?_ | refine AL.gmay2 rfl rfl rfl rfl rfl rfl qS52 ?_
  first | refine AL.gstep rfl rfl rfl rfl rfl rfl rfl qR27 ?_ | refine AL.gskip rfl rfl rfl rfl rfl rfl rfl ?_ | refine AL.gnone rfl rfl rfl rfl rfl ?_ | refine AL.gmay rfl rfl rfl rfl rfl rfl (fun hb => by (try (apply AStepD.uncond 31 rfl (gpf hb))); (try (apply AStepD.uncond 32 rfl (gpf hb))); exact qR27) ?_ | refine AL.gmay2 rfl rfl rfl rfl rfl rfl (fun _ hb => by (try (apply AStepD.uncond 31 rfl (gpf hb))); (try (apply AStepD.uncond 32 rfl (gpf hb))); exact qR27) ?_
  refine AL.step rfl rfl rfl qR216 ?_
  refine AL.step rfl rfl rfl qR212 ?_
  first | refine AL.gstep rfl rfl rfl rfl rfl rfl rfl qR212 ?_ | refine AL.gskip rfl rfl rfl rfl rfl rfl rfl ?_ | refine AL.gnone rfl rfl rfl rfl rfl ?_ | refine AL.gmay rfl rfl rfl rfl rfl rfl qS11 ?_ | refine AL.gmay2 rfl rfl rfl rfl rfl rfl qS12 ?_
  first | refine AL.gstep rfl rfl rfl rfl rfl rfl rfl qR414 ?_ | refine AL.gskip rfl rfl rfl rfl rfl rfl rfl ?_ | refine AL.gnone rfl rfl rfl rfl rfl ?_ | refine AL.gmay rfl rfl rfl rfl rfl rfl (fun hb => by (try (apply AStepD.uncond 36 rfl (gpf hb))); exact qR414) ?_ | refine AL.gmay2 rfl rfl rfl rfl rfl rfl (fun _ hb => by (try (apply AStepD.uncond 36 rfl (gpf hb))); exact qR414) ?_
  refine AL.step rfl rfl rfl qR216 ?_
  refine AL.nil_then (hK _ _ ?_); clear hK K
  refine AW.cond _ rfl (fun hc => ?_) (fun hc => ?_)
  · refine AW.seq_region (fun K hK => ?_)
    refine AL.step rfl rfl rfl qR211 ?_
    refine AL.nil_then (hK _ _ ?_); clear hK K
    exact AW.ret (RetQ.mk (.inr rfl) (retA_tmp rfl qR21 retA_nil) rfl)
  have hb : 0 ≤ a ∧ a ≤ b ∧ b < c ∧ c ≤ d ∧ d ≤ 63 := by
    simp only [Bool.or_eq_false_iff, decide_eq_false_iff_not] at hc
    omega
  clear hc
  obtain ⟨a, rfl⟩ := Int.eq_ofNat_of_zero_le (show 0 ≤ a by omega)
  obtain ⟨b, rfl⟩ := Int.eq_ofNat_of_zero_le (show 0 ≤ b by omega)
  obtain ⟨c, rfl⟩ := Int.eq_ofNat_of_zero_le (show 0 ≤ c by omega)
  obtain ⟨d, rfl⟩ := Int.eq_ofNat_of_zero_le (show 0 ≤ d by omega)
  have x1 : a ≤ b := by omega
  have x2 : b < c := by omega
  have x3 : c ≤ d := by omega
  have x4 : d < 64 := by omega
  clear hb
  have tab := text_range x1 (show b < 64 by omega)
  have tcd := text_range x3 x4
  have l1 := segT_len2 x1 (show b < 64 by omega)
  have l2 := segT_len2 x3 x4
  refine AW.skip ?_
  refine hK2 _ _ ?_; try clear hK2 K2
  refine AW.seq_region (fun K hK => ?_)
  refine AL.step rfl rfl rfl qR211 ?_
  refine AL.nil_then (hK _ _ ?_); clear hK K
  refine AW.seq_region (fun K hK => ?_)
  refine AL.step rfl rfl rfl qR212 ?_
  refine AL.step rfl rfl rfl qR212 ?_
  refine AL.step rfl rfl rfl qR212 ?_
  refine AL.step rfl rfl rfl (by exact AStepD.callv rfl rfl en17 rfl (part_calls _ a b x1 (by omega))) ?_
  refine AL.step rfl rfl rfl qR212 ?_
  refine AL.step rfl rfl rfl qR51 ?_
  refine AL.step rfl rfl rfl qR51 ?_
  refine AL.step rfl rfl rfl qR211 ?_
  refine AL.step rfl rfl rfl qR211 ?_
  refine AL.nil_then (hK _ _ ?_); clear hK K
  refine AW.seq_region (fun K hK => ?_)
  refine AL.step rfl rfl rfl qR212 ?_
  refine AL.step rfl rfl rfl qR212 ?_
  refine AL.step rfl rfl rfl qR212 ?_
  refine AL.step rfl rfl rfl (by exact AStepD.callv rfl rfl en17 rfl (part_calls _ c d x3 x4)) ?_
  refine AL.step rfl rfl rfl qR212 ?_
  refine AL.step rfl rfl rfl qR51 ?_
  refine AL.step rfl rfl rfl qR51 ?_
  refine AL.step rfl rfl rfl qR211 ?_
  refine AL.step rfl rfl rfl qR211 ?_
  refine AL.nil_then (hK _ _ ?_); clear hK K
  refine AW.seq_k (fun K3 hK3 => ?_)
  refine AW.seq_region (fun K hK => ?_)
  refine AL.step rfl rfl rfl qR212 ?_
  refine AL.step rfl rfl rfl (by exact AStepD.val (AStepD.callf rfl en12 rfl (text_calls _ (rangeB a (b + 1)))) (by rw [tab])) ?_
  refine AL.step rfl rfl rfl qR212 ?_
  refine AL.step rfl rfl rfl (by exact AStepD.bool (AStepD.str_neq rfl rfl rfl) (c := false) (by simp)) ?_
  refine AL.step rfl rfl rfl qR212 ?_
  first | refine AL.gstep rfl rfl rfl rfl rfl rfl rfl qR212 ?_ | refine AL.gskip rfl rfl rfl rfl rfl rfl rfl ?_ | refine AL.gnone rfl rfl rfl rfl rfl ?_ | refine AL.gmay rfl rfl rfl rfl rfl rfl (fun hb => by (try (apply AStepD.uncond 12 rfl (gpf hb))); exact qR212) ?_ | refine AL.gmay2 rfl rfl rfl rfl rfl rfl (fun _ hb => by (try (apply AStepD.uncond 12 rfl (gpf hb))); exact qR212) ?_
  first | refine AL.gstep rfl rfl rfl rfl rfl rfl rfl (by exact AStepD.val (AStepD.callf rfl en12 rfl (text_calls _ (rangeB c (d + 1)))) (by rw [tcd])) ?_ | refine AL.gskip rfl rfl rfl rfl rfl rfl rfl ?_ | refine AL.gnone rfl rfl rfl rfl rfl ?_ | refine AL.gmay rfl rfl rfl rfl rfl rfl (fun hb => by (try (apply AStepD.uncond 58 rfl (gpf hb))); exact (by exact AStepD.val (AStepD.callf rfl en12 rfl (text_calls _ (rangeB c (d + 1)))) (by rw [tcd]))) ?_ | refine AL.gmay2 rfl rfl rfl rfl rfl rfl (fun _ hb => by (try (apply AStepD.uncond 58 rfl (gpf hb))); exact (by exact AStepD.val (AStepD.callf rfl en12 rfl (text_calls _ (rangeB c (d + 1)))) (by rw [tcd]))) ?_
  first | refine AL.gstep rfl rfl rfl rfl rfl rfl rfl qR212 ?_ | refine AL.gskip rfl rfl rfl rfl rfl rfl rfl ?_ | refine AL.gnone rfl rfl rfl rfl rfl ?_ | refine AL.gmay rfl rfl rfl rfl rfl rfl qS35 ?_ | refine AL.gmay2 rfl rfl rfl rfl rfl rfl qS36 ?_
  first | refine AL.gstep rfl rfl rfl rfl rfl rfl rfl (by exact AStepD.bool (AStepD.str_neq rfl rfl rfl) (c := false) (by simp)) ?_ | refine AL.gskip rfl rfl rfl rfl rfl rfl rfl ?_ | refine AL.gnone rfl rfl rfl rfl rfl ?_ | refine AL.gmay rfl rfl rfl rfl rfl rfl (fun hb => by (try (apply AStepD.uncond 59 rfl (gpf hb))); (try (apply AStepD.uncond 60 rfl (gpf hb))); exact (by exact AStepD.bool (AStepD.str_neq rfl rfl rfl) (c := false) (by simp))) ?_ | refine AL.gmay2 rfl rfl rfl rfl rfl rfl (fun _ hb => by (try (apply AStepD.uncond 59 rfl (gpf hb))); (try (apply AStepD.uncond 60 rfl (gpf hb))); exact (by exact AStepD.bool (AStepD.str_neq rfl rfl rfl) (c := false) (by simp))) ?_
  refine AL.step rfl rfl rfl qR216 ?_
  refine AL.nil_then (hK _ _ ?_); clear hK K
  refine AW.cond_false rfl rfl (AW.skip ?_)
  refine hK3 _ _ ?_; try clear hK3 K3
  refine AW.seq_k (fun K4 hK4 => ?_)
  refine AW.seq_region (fun K hK => ?_)
  refine AL.step rfl rfl rfl qR212 ?_
  refine AL.step rfl rfl rfl qR212 ?_
  refine AL.step rfl rfl rfl (by first | exact AStepD.add rfl rfl rfl (by first | exact IntWalk.i64_in _ (by omega) | exact IntWalk.i64_in _ (by simp only [Bool.or_eq_true, Bool.and_eq_true, Bool.or_eq_false_iff, Bool.and_eq_false_iff, Bool.not_eq_true', Bool.not_eq_false', decide_eq_true_eq, decide_eq_false_iff_not, Int.not_lt, Int.not_le, beq_iff_eq] at *; omega) | exact rfl) | exact AStepD.str_add rfl rfl rfl (by omega)) ?_
  refine AL.step rfl rfl rfl qR53 ?_
  refine AL.nil_then (hK _ _ ?_); clear hK K
  refine AW.cond _ rfl (fun hc => ?_) (fun hc => ?_)
  · have he : c = b + 1 := by
      have := of_decide_eq_true hc
      omega
    clear hc
    have hor : rangeB a (b + 1) ||| rangeB c (d + 1) = rangeB a (d + 1) := by
      apply BitVec.eq_of_getLsbD_eq
      intro j hj
      rw [BitVec.getLsbD_or, rangeB_bit, rangeB_bit, rangeB_bit, decide_eq_true hj, Bool.true_and, Bool.true_and, ← Bool.decide_and, ← Bool.decide_and, ← Bool.decide_and, ← Bool.decide_or]
      exact decide_eq_decide.2 (by omega)
    have tad := text_range (show a ≤ d by omega) x4
    refine AW.seq_region (fun K hK => ?_)
    refine AL.step rfl rfl rfl qR212 ?_
    refine AL.step rfl rfl rfl qR212 ?_
    refine AL.step rfl rfl rfl qR212 ?_
    refine AL.step rfl rfl rfl (by exact AStepD.callv rfl rfl en17 rfl (part_calls _ a d (by omega) x4)) ?_
    refine AL.step rfl rfl rfl qR212 ?_
    refine AL.step rfl rfl rfl qR51 ?_
    refine AL.step rfl rfl rfl qR51 ?_
    refine AL.step rfl rfl rfl qR211 ?_
    refine AL.step rfl rfl rfl qR211 ?_
    refine AL.nil_then (hK _ _ ?_); clear hK K
    refine AW.seq_region (fun K hK => ?_)
    refine AL.step rfl rfl rfl qR212 ?_
    refine AL.step rfl rfl rfl qR212 ?_
    refine AL.step rfl rfl rfl qS42 ?_
    refine AL.step rfl rfl rfl (by exact AStepD.val (AStepD.callf rfl en12 rfl (text_calls _ (rangeB a (b + 1) ||| rangeB c (d + 1)))) (by rw [hor, tad])) ?_
    refine AL.step rfl rfl rfl qR212 ?_
    refine AL.step rfl rfl rfl (by exact AStepD.bool (AStepD.str_eql rfl rfl rfl) (c := true) (by simp)) ?_
    refine AL.step rfl rfl rfl qR211 ?_
    refine AL.nil_then (hK _ _ ?_); clear hK K
    exact AW.ret (RetQ.mk (.inr rfl) (retA_tmp rfl qR21 retA_nil) rfl)
  · have he : b + 2 ≤ c := by
      have := of_decide_eq_false hc
      omega
    clear hc
    have hor : rangeB a (b + 1) ||| rangeB c (d + 1) = setB [(a, b), (c, d)] := by
      show _ = 0#64 ||| rangeB a (b + 1) ||| rangeB c (d + 1)
      rw [BitVec.zero_or]
    have hg : Good 0 [(a, b), (c, d)] := ⟨Nat.zero_le _, x1, by omega, he, x3, x4, trivial⟩
    have tor : textS (rangeB a (b + 1) ||| rangeB c (d + 1)) = segT (a, b) ++ [32] ++ segT (c, d) := by
      rw [hor, text_runs hg, List.map_cons, List.map_cons, List.map_nil, join_cons, Lib.join_one, List.append_assoc]
    refine AW.skip ?_
    refine hK4 _ _ ?_; try clear hK4 K4
    refine AW.seq_region (fun K hK => ?_)
    refine AL.step rfl rfl rfl qR212 ?_
    refine AL.step rfl rfl rfl qR212 ?_
    refine AL.step rfl rfl rfl qS42 ?_
    refine AL.step rfl rfl rfl (by exact AStepD.val (AStepD.callf rfl en12 rfl (text_calls _ (rangeB a (b + 1) ||| rangeB c (d + 1)))) (by rw [tor])) ?_
    refine AL.step rfl rfl rfl qR212 ?_
    refine AL.step rfl rfl rfl (by exact strA_add (segT (a, b)) [32] rfl rfl rfl (by simp; omega)) ?_
    refine AL.step rfl rfl rfl qR212 ?_
    refine AL.step rfl rfl rfl (by exact strA_add (segT (a, b) ++ [32]) (segT (c, d)) rfl rfl rfl (by simp; omega)) ?_
    refine AL.step rfl rfl rfl (by exact AStepD.bool (AStepD.str_eql rfl rfl rfl) (c := true) (by simp)) ?_
    refine AL.step rfl rfl rfl qR211 ?_
    refine AL.nil_then (hK _ _ ?_); clear hK K
    exact AW.ret (RetQ.mk (.inr rfl) (retA_tmp rfl qR21 retA_nil) rfl)
end Go.Proofs.YtopbofalkcblgaaDoor
