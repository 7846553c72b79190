/- The law RankShuffled. -/
import Derived.Test.YtmjookofajlcoaaM
namespace Go.Proofs.Ytmjookofajlcoaa
open Go.Ax
open Cel (c)
theorem qN1 {p : Prop} (h : p := by simp only [List.getD_cons_zero, List.getD_cons_succ]; all_goals apply Eq.refl) : p := h
theorem qN2 {p : Prop} (h : p := by first | exact AStepD.buildSlice0 tok rfl rfl rfl rfl (show _ = 2 from rfl) | exact AStepD.buildSlice1 tok rfl rfl rfl rfl (show _ = 2 from rfl) qA1 qA1 qA7 (by decide) qA2 | exact AStepD.buildSlice_seq tok rfl rfl rfl rfl (show _ = 2 from rfl) map_n rfl (by decide) (by decide) rfl qB3 qA2 | exact AStepD.buildSlice tok rfl rfl rfl rfl qA1 (by decide) (by decide) rfl qA2) : p := h
theorem qN3 {p : Prop} (h : p := by simp only [frameAt, putA]; all_goals exact rfl) : p := h
theorem qN4 {p : Prop} (h : p := by simp only [List.length_cons, List.length_nil, Nat.zero_add, Nat.reduceAdd, List.getD_cons_zero, List.getD_cons_succ]; all_goals apply Eq.refl) : p := h
set_option linter.unusedSimpArgs false
set_option linter.unusedVariables false

theorem right_perm {l m : List Rep} (h : l.Perm m) : rightB l = rightB m := by
  have h1 : l.all okR = m.all okR := by
    rw [Bool.eq_iff_iff, List.all_eq_true, List.all_eq_true]
    exact ⟨fun hh x hx => hh x (h.mem_iff.2 hx), fun hh x hx => hh x (h.mem_iff.1 hx)⟩
  have h2 : distB l = distB m := by
    rw [Bool.eq_iff_iff, distB_iff, distB_iff]
    exact h.pairwise_iff fun h => Ne.symm h
  rw [rightB, rightB, h1, h2, h.length_eq]
theorem order_perm {l m : List Rep} (h : l.Perm m) : orderS l = orderS m ∧ errS l = errS m := by
  have e : ordR l = ordR m := ord_unique ((ord_perm l).trans h) (ord_stands l)
  rw [orderS, orderS, errS, errS, right_perm h, e]
  exact ⟨rfl, rfl⟩
theorem orderS_le (l : List Rep) : (orderS l).length ≤ l.length := by
  rw [orderS]
  split
  · rw [ord_length]; exact Nat.le_refl _
  · exact Nat.zero_le _

theorem shuffled_law (l : List Rep) (x : Int) : ACalls Try.prog 5 [vecA l, .v (.int .i64 x)] AHeap.empty (fun r _ => r = .v (.bool true)) := by
  refine ACalls.of_body tok Try.func5 rfl Try.ntmps5 (Nat.le_of_ble_eq_true rfl) (fun base => ?_)
  refine AW.seq_region (fun K hK => ?_)
  refine AL.step rfl rfl rfl qA13 ?_
  refine AL.nil_then (hK _ _ ?_); clear hK K
  refine AW.seq_k (fun K1 hK1 => ?_)
  refine AW.seq_region (fun K hK => ?_)
  refine AL.step rfl rfl rfl (by exact AStepD.callf rfl en10 rfl (anchor_calls _)) ?_
  refine AL.step rfl rfl rfl (by first | exact AStepD.not rfl rfl | exact AStepD.neg rfl rfl (by first | exact IntWalk.i64_in _ (by omega) | exact IntWalk.i64_in _ (by simp only [Bool.or_eq_true, Bool.and_eq_true, Bool.or_eq_false_iff, Bool.and_eq_false_iff, Bool.not_eq_true', Bool.not_eq_false', decide_eq_true_eq, decide_eq_false_iff_not, Int.not_lt, Int.not_le, beq_iff_eq] at *; omega) | exact rfl)) ?_
  refine AL.nil_then (hK _ _ ?_); clear hK K
  refine AW.cond_false rfl rfl (AW.skip ?_)
  refine hK1 _ _ ?_; try clear hK1 K1
  refine AW.seq_k (fun K2 hK2 => ?_)
  refine AW.seq_region (fun K hK => ?_)
  refine AL.step rfl rfl rfl qA16 ?_
  refine AL.step rfl rfl rfl qF8 ?_
  refine AL.step rfl rfl rfl qF3 ?_
  refine AL.step rfl rfl rfl qA16 ?_
  first | refine AL.gstep rfl rfl rfl rfl rfl rfl rfl qA16 ?_ | refine AL.gskip rfl rfl rfl rfl rfl rfl rfl ?_ | refine AL.gnone rfl rfl rfl rfl rfl ?_ | refine AL.gmay rfl rfl rfl rfl rfl rfl qG4 ?_ | refine AL.gmay2 rfl rfl rfl rfl rfl rfl qG5 ?_
  first | refine AL.gstep rfl rfl rfl rfl rfl rfl rfl qF2 ?_ | refine AL.gskip rfl rfl rfl rfl rfl rfl rfl ?_ | refine AL.gnone rfl rfl rfl rfl rfl ?_ | refine AL.gmay rfl rfl rfl rfl rfl rfl (fun hb => by (try (apply AStepD.uncond 18 rfl (gpf hb))); exact qF2) ?_ | refine AL.gmay2 rfl rfl rfl rfl rfl rfl (fun _ hb => by (try (apply AStepD.uncond 18 rfl (gpf hb))); exact qF2) ?_
  refine AL.step rfl rfl rfl qF9 ?_
  refine AL.nil_then (hK _ _ ?_); clear hK K
  refine AW.cond _ rfl (fun hc => ?_) (fun hc => ?_)
  · refine AW.seq_region (fun K hK => ?_)
    refine AL.step rfl rfl rfl qA13 ?_
    refine AL.nil_then (hK _ _ ?_); clear hK K
    exact AW.ret (RetQ.mk (.inr rfl) (retA_tmp rfl qA1 retA_nil) rfl)
  (try simp only [Bool.or_eq_true, Bool.and_eq_true, Bool.or_eq_false_iff, Bool.and_eq_false_iff, Bool.not_eq_true', Bool.not_eq_false', decide_eq_true_eq, decide_eq_false_iff_not, Int.not_lt, Int.not_le] at hc)
  have hx : 0 ≤ x := by omega
  have hlen : l.length ≤ 8000000 := by omega
  obtain ⟨a, rfl⟩ := Int.eq_ofNat_of_zero_le hx
  have hk : a % (l.length + 1) ≤ l.length := Nat.le_of_lt_succ (Nat.mod_lt _ (Nat.succ_pos _))
  have htm : Int.tmod (a : Int) ((l.length : Int) + 1) = ((a % (l.length + 1) : Nat) : Int) := (Int.ofNat_tmod a (l.length + 1)).symm
  refine AW.skip ?_
  refine hK2 _ _ ?_; try clear hK2 K2
  refine AW.seq_region (fun K hK => ?_)
  refine AL.step rfl rfl rfl qA16 ?_
  refine AL.step rfl rfl rfl qA16 ?_
  refine AL.step rfl rfl rfl qF8 ?_
  refine AL.step rfl rfl rfl (by first | exact AStepD.add rfl rfl rfl (by first | exact IntWalk.i64_in _ (by omega) | exact IntWalk.i64_in _ (by simp only [Bool.or_eq_true, Bool.and_eq_true, Bool.or_eq_false_iff, Bool.and_eq_false_iff, Bool.not_eq_true', Bool.not_eq_false', decide_eq_true_eq, decide_eq_false_iff_not, Int.not_lt, Int.not_le, beq_iff_eq] at *; omega) | exact rfl) | exact AStepD.str_add rfl rfl rfl (by omega)) ?_
  refine AL.step rfl rfl rfl (by exact AStepD.val (AStepD.rem rfl rfl rfl (by omega) rfl) (congrArg (fun q => AV.v (.int .i64 q)) htm)) ?_
  refine AL.step rfl rfl rfl qA13 ?_
  refine AL.nil_then (hK _ _ ?_); clear hK K
  generalize a % (l.length + 1) = k at hk ⊢
  refine AW.seq_region (fun K hK => ?_)
  refine AL.step rfl rfl rfl qA16 ?_
  refine AL.step rfl rfl rfl (by exact AStepD.callf rfl en11 rfl (order_calls _ l hlen)) ?_
  refine AL.step rfl rfl rfl qA16 ?_
  refine AL.step rfl rfl rfl qG7 ?_
  refine AL.step rfl rfl rfl qG7 ?_
  refine AL.step rfl rfl rfl qA13 ?_
  refine AL.step rfl rfl rfl qA13 ?_
  refine AL.nil_then (hK _ _ ?_); clear hK K
  have hpm : (l.drop k ++ l.take k).Perm l := by
    have := List.perm_append_comm (l₁ := l.drop k) (l₂ := l.take k)
    rwa [List.take_append_drop] at this
  have hpl := hpm.length_eq
  have ht1 : (l.take k).length = k := by rw [List.length_take]; omega
  have ht2 : (l.drop k).length = l.length - k := List.length_drop
  obtain ⟨e1, e2⟩ := order_perm hpm
  refine AW.seq_k (fun K hK => ?_)
  apply AW.draw mixed [_, _, _, _, _, _, _, _, _, _, _, _, _, _, _] [0, 4, 8] [_, _, _, _] [(0, 0), (1, 1), (2, 1), (3, 1), (4, 1), (5, 2), (6, 2), (7, 2), (8, 2), (9, 3), (10, 3), (11, 3), (12, 3), (13, 3), (14, 3), (1, 0), (2, 0), (3, 0), (5, 0), (5, 1), (6, 0), (6, 1), (7, 0), (7, 1)] rfl rfl rfl qN1
  · refine ⟨?_, ?_, ?_, ?_, ?_, ?_, ?_, ?_, ?_, ?_, ?_, ?_, ?_, ?_, ?_, ?_, ?_, ?_, ?_, ?_, ?_, ?_, ?_, ?_⟩
    · refine Ob.mk _ [] 1 rfl rfl restr_nil rfl ?_
      simp only [List.getD_cons_zero, List.getD_cons_succ]
      exact GStep.plain rfl qN2
    · refine Ob.mk _ [0] 1 rfl rfl (restr_cons qA1 restr_nil) rfl ?_
      simp only [List.getD_cons_zero, List.getD_cons_succ]
      exact GStep.plain rfl qA16
    · refine Ob.mk _ [5] 1 rfl rfl (restr_cons qA1 restr_nil) rfl ?_
      simp only [List.getD_cons_zero, List.getD_cons_succ]
      exact GStep.plain rfl qA16
    · refine Ob.mk _ [33, 34] 1 rfl rfl (restr_cons qA1 (restr_cons qA1 restr_nil)) rfl ?_
      simp only [List.getD_cons_zero, List.getD_cons_succ]
      exact GStep.plain rfl qF7
    · refine Ob.mk _ [32, 35] 2 rfl rfl (restr_cons qA1 (restr_cons qA1 restr_nil)) rfl ?_
      simp only [List.getD_cons_zero, List.getD_cons_succ]
      exact GStep.plain rfl (by exact AStepD.app_flat (bk := 64) (xs := []) (ys := l.drop k) tok rfl rfl rfl rfl rfl rfl rfl rfl (show _ = 2 from rfl) rfl rfl qA14 rfl qA7 qA7)
    · refine Ob.mk _ [0] 2 rfl rfl (restr_cons qA1 restr_nil) rfl ?_
      simp only [List.getD_cons_zero, List.getD_cons_succ]
      exact GStep.plain rfl qA16
    · refine Ob.mk _ [5] 2 rfl rfl (restr_cons qA1 restr_nil) rfl ?_
      simp only [List.getD_cons_zero, List.getD_cons_succ]
      exact GStep.plain rfl qA16
    · refine Ob.mk _ [37, 38] 2 rfl rfl (restr_cons qA1 (restr_cons qA1 restr_nil)) rfl ?_
      simp only [List.getD_cons_zero, List.getD_cons_succ]
      exact GStep.plain rfl qF7
    · refine Ob.mk _ [36, 39] 3 rfl rfl (restr_cons qA1 (restr_cons qA1 restr_nil)) rfl ?_
      simp only [List.getD_cons_zero, List.getD_cons_succ]
      exact GStep.plain rfl (by exact AStepD.app_vecA (bk := 64) (xs := ([] ++ l.drop k)) (ys := l.take k) tok rfl rfl rfl rfl rfl rfl rfl rfl (show _ = 2 from rfl) rfl rfl qA14 rfl qA7 qA7)
    · refine Ob.mk _ [40] 3 rfl rfl (restr_cons qA1 restr_nil) rfl ?_
      simp only [List.getD_cons_zero, List.getD_cons_succ]
      exact GStep.plain rfl (by exact AStepD.callf rfl en11 rfl (order_calls _ ([] ++ l.drop k ++ l.take k) (by rw [List.nil_append, hpl]; exact hlen)))
    · refine Ob.mk _ [41] 3 rfl rfl (restr_cons qA1 restr_nil) rfl ?_
      simp only [List.getD_cons_zero, List.getD_cons_succ]
      exact GStep.plain rfl qA16
    · refine Ob.mk _ [31] 3 rfl rfl (restr_cons qA1 restr_nil) rfl ?_
      simp only [List.getD_cons_zero, List.getD_cons_succ]
      exact GStep.plain rfl qG7
    · refine Ob.mk _ [31] 3 rfl rfl (restr_cons qA1 restr_nil) rfl ?_
      simp only [List.getD_cons_zero, List.getD_cons_succ]
      exact GStep.plain rfl qG7
    · refine Ob.mk _ [42] 3 rfl rfl (restr_cons qA1 restr_nil) rfl ?_
      simp only [List.getD_cons_zero, List.getD_cons_succ]
      exact GStep.plain rfl qA13
    · refine Ob.mk _ [43] 3 rfl rfl (restr_cons qA1 restr_nil) rfl ?_
      simp only [List.getD_cons_zero, List.getD_cons_succ]
      exact GStep.plain rfl qA13
    · refine Ob.mk _ [0] 0 rfl rfl (restr_cons qA1 restr_nil) rfl ?_
      simp only [List.getD_cons_zero, List.getD_cons_succ]
      exact GStep.plain rfl qA16
    · refine Ob.mk _ [5] 0 rfl rfl (restr_cons qA1 restr_nil) rfl ?_
      simp only [List.getD_cons_zero, List.getD_cons_succ]
      exact GStep.plain rfl qA16
    · refine Ob.mk _ [33, 34] 0 rfl rfl (restr_cons qA1 (restr_cons qA1 restr_nil)) rfl ?_
      simp only [List.getD_cons_zero, List.getD_cons_succ]
      exact GStep.plain rfl qF7
    · refine Ob.mk _ [0] 0 rfl rfl (restr_cons qA1 restr_nil) rfl ?_
      simp only [List.getD_cons_zero, List.getD_cons_succ]
      exact GStep.plain rfl qA16
    · refine Ob.mk _ [0] 1 rfl rfl (restr_cons qA1 restr_nil) rfl ?_
      simp only [List.getD_cons_zero, List.getD_cons_succ]
      exact GStep.plain rfl qA16
    · refine Ob.mk _ [5] 0 rfl rfl (restr_cons qA1 restr_nil) rfl ?_
      simp only [List.getD_cons_zero, List.getD_cons_succ]
      exact GStep.plain rfl qA16
    · refine Ob.mk _ [5] 1 rfl rfl (restr_cons qA1 restr_nil) rfl ?_
      simp only [List.getD_cons_zero, List.getD_cons_succ]
      exact GStep.plain rfl qA16
    · refine Ob.mk _ [37, 38] 0 rfl rfl (restr_cons qA1 (restr_cons qA1 restr_nil)) rfl ?_
      simp only [List.getD_cons_zero, List.getD_cons_succ]
      exact GStep.plain rfl qF7
    · refine Ob.mk _ [37, 38] 1 rfl rfl (restr_cons qA1 (restr_cons qA1 restr_nil)) rfl ?_
      simp only [List.getD_cons_zero, List.getD_cons_succ]
      exact GStep.plain rfl qF7
  refine hK _ _ ?_; clear hK K
  refine AW.frame qN3 qN4 ?_
  rw [List.nil_append, e1, e2]
  have hol := orderS_le l
  generalize orderS l = o at hol ⊢
  refine AW.seq_k (fun K3 hK3 => ?_)
  refine AW.seq_region (fun K hK => ?_)
  refine AL.step rfl rfl rfl qA16 ?_
  refine AL.step rfl rfl rfl qA16 ?_
  refine AL.step rfl rfl rfl qG8 ?_
  refine AL.step rfl rfl rfl qA16 ?_
  first | refine AL.gstep rfl rfl rfl rfl rfl rfl rfl qA16 ?_ | refine AL.gskip rfl rfl rfl rfl rfl rfl rfl ?_ | refine AL.gnone rfl rfl rfl rfl rfl ?_ | refine AL.gmay rfl rfl rfl rfl rfl rfl (fun hb => by (try (apply AStepD.uncond 6 rfl (gpf hb))); exact qA16) ?_ | refine AL.gmay2 rfl rfl rfl rfl rfl rfl (fun _ hb => by (try (apply AStepD.uncond 6 rfl (gpf hb))); exact qA16) ?_
  first | refine AL.gstep rfl rfl rfl rfl rfl rfl rfl qF8 ?_ | refine AL.gskip rfl rfl rfl rfl rfl rfl rfl ?_ | refine AL.gnone rfl rfl rfl rfl rfl ?_ | refine AL.gmay rfl rfl rfl rfl rfl rfl (fun hb => by (try (apply AStepD.uncond 48 rfl (gpf hb))); exact qF8) ?_ | refine AL.gmay2 rfl rfl rfl rfl rfl rfl (fun _ hb => by (try (apply AStepD.uncond 48 rfl (gpf hb))); exact qF8) ?_
  first | refine AL.gstep rfl rfl rfl rfl rfl rfl rfl qA16 ?_ | refine AL.gskip rfl rfl rfl rfl rfl rfl rfl ?_ | refine AL.gnone rfl rfl rfl rfl rfl ?_ | refine AL.gmay rfl rfl rfl rfl rfl rfl (fun hb => by (try (apply AStepD.uncond 8 rfl (gpf hb))); exact qA16) ?_ | refine AL.gmay2 rfl rfl rfl rfl rfl rfl (fun _ hb => by (try (apply AStepD.uncond 8 rfl (gpf hb))); exact qA16) ?_
  first | refine AL.gstep rfl rfl rfl rfl rfl rfl rfl qF8 ?_ | refine AL.gskip rfl rfl rfl rfl rfl rfl rfl ?_ | refine AL.gnone rfl rfl rfl rfl rfl ?_ | refine AL.gmay rfl rfl rfl rfl rfl rfl (fun hb => by (try (apply AStepD.uncond 50 rfl (gpf hb))); exact qF8) ?_ | refine AL.gmay2 rfl rfl rfl rfl rfl rfl (fun _ hb => by (try (apply AStepD.uncond 50 rfl (gpf hb))); exact qF8) ?_
  first | refine AL.gstep rfl rfl rfl rfl rfl rfl rfl qG8 ?_ | refine AL.gskip rfl rfl rfl rfl rfl rfl rfl ?_ | refine AL.gnone rfl rfl rfl rfl rfl ?_ | refine AL.gmay rfl rfl rfl rfl rfl rfl (fun hb => by (try (apply AStepD.uncond 49 rfl (gpf hb))); (try (apply AStepD.uncond 51 rfl (gpf hb))); exact qG8) ?_ | refine AL.gmay2 rfl rfl rfl rfl rfl rfl (fun _ hb => by (try (apply AStepD.uncond 49 rfl (gpf hb))); (try (apply AStepD.uncond 51 rfl (gpf hb))); exact qG8) ?_
  refine AL.step rfl rfl rfl qF9 ?_
  refine AL.nil_then (hK _ _ ?_); clear hK K
  refine AW.cond _ rfl (fun hc => ?_) (fun hc => ?_)
  · simp at hc
  refine AW.skip ?_
  refine hK3 _ _ ?_; try clear hK3 K3
  refine AW.seq_k (fun K4 hK4 => ?_)
  refine AW.seq_region (fun K hK => ?_)
  refine AL.step rfl rfl rfl qA16 ?_
  refine AL.step rfl rfl rfl qF8 ?_
  refine AL.step rfl rfl rfl qA16 ?_
  refine AL.nil_then (hK _ _ ?_); clear hK K
  refine AW.block ?_
  refine AW.loop_at (ι := Nat) (fun i => [(56, .v (.int .i64 (i : Nat))), (55, .v (.int .i64 (o.length : Nat))), (54, vecA o), (8, vecA o)])
    (fun i H' => i ≤ o.length) (fun i => o.length - i) 0 qA17 (Nat.zero_le _) ?_
  rintro i H2 hi
  refine AW.seq_region (fun K hK => ?_)
  refine AL.step rfl rfl rfl qF2 ?_
  refine AL.nil_then (hK _ _ ?_); clear hK K
  refine AW.seq_k (fun K5 hK5 => ?_)
  refine AW.cond _ rfl (fun hc => ?_) (fun hc => ?_)
  · (try simp only [Bool.or_eq_true, Bool.and_eq_true, Bool.or_eq_false_iff, Bool.and_eq_false_iff, Bool.not_eq_true', Bool.not_eq_false', decide_eq_true_eq, decide_eq_false_iff_not, Int.not_lt, Int.not_le] at hc)
    have hio : i < o.length := by omega
    refine AW.skip ?_
    refine hK5 _ _ ?_; try clear hK5 K5
    refine AW.seq_k (fun K6 hK6 => ?_)
    refine AW.block ?_
    refine AW.seq_region (fun K hK => ?_)
    refine AL.step rfl rfl rfl qA16 ?_
    refine AL.step rfl rfl rfl qA18 ?_
    refine AL.step rfl rfl rfl qA20 ?_
    refine AL.step rfl rfl rfl qH1 ?_
    refine AL.step rfl rfl rfl qA13 ?_
    refine AL.step0 rfl rfl qB6 ?_
    refine AL.nil_then (hK _ _ ?_); clear hK K
    refine AW.seq_k (fun K hK => ?_)
    apply AW.draw mixed [_, _, _, _, _, _] [] [_] [(0, 0), (1, 0), (2, 0), (3, 0), (4, 0), (5, 0)] rfl rfl rfl qN1
    · refine ⟨?_, ?_, ?_, ?_, ?_, ?_⟩
      · refine Ob.mk _ [11] 0 rfl rfl (restr_cons qA1 restr_nil) rfl ?_
        simp only [List.getD_cons_zero, List.getD_cons_succ]
        exact GStep.plain rfl qA20
      · refine Ob.mk _ [8] 0 rfl rfl (restr_cons qA1 restr_nil) rfl ?_
        simp only [List.getD_cons_zero, List.getD_cons_succ]
        exact GStep.plain rfl qA16
      · refine Ob.mk _ [10] 0 rfl rfl (restr_cons qA1 restr_nil) rfl ?_
        simp only [List.getD_cons_zero, List.getD_cons_succ]
        exact GStep.plain rfl qA16
      · refine Ob.mk _ [62, 63] 0 rfl rfl (restr_cons qA1 (restr_cons qA1 restr_nil)) rfl ?_
        simp only [List.getD_cons_zero, List.getD_cons_succ]
        exact GStep.plain rfl qA18
      · refine Ob.mk _ [64] 0 rfl rfl (restr_cons qA1 restr_nil) rfl ?_
        simp only [List.getD_cons_zero, List.getD_cons_succ]
        exact GStep.plain rfl qA20
      · refine Ob.mk _ [61, 65] 0 rfl rfl (restr_cons qA1 (restr_cons qA1 restr_nil)) rfl ?_
        simp only [List.getD_cons_zero, List.getD_cons_succ]
        exact GStep.plain rfl (by exact AStepD.struct_eq (xs := [o[i].id, o[i].off]) (ys := [o[i].id, o[i].off]) tok .neq (.inr rfl) rfl rfl rfl rfl rfl st29 eg29 (fi29 _ rfl) rfl rfl (c := false) (by simp))
    refine hK _ _ ?_; clear hK K
    refine AW.frame qN3 qN4 ?_
    refine AW.cond_false rfl rfl (AW.skip ?_)
    refine hK6 _ _ ?_; try clear hK6 K6
    refine AW.region ?_
    refine AL.step rfl rfl rfl (by first | exact AStepD.add rfl rfl rfl (by first | exact IntWalk.i64_in _ (by omega) | exact IntWalk.i64_in _ (by simp only [Bool.or_eq_true, Bool.and_eq_true, Bool.or_eq_false_iff, Bool.and_eq_false_iff, Bool.not_eq_true', Bool.not_eq_false', decide_eq_true_eq, decide_eq_false_iff_not, Int.not_lt, Int.not_le, beq_iff_eq] at *; omega) | exact rfl) | exact AStepD.str_add rfl rfl rfl (by omega)) ?_
    refine AL.step rfl rfl rfl qA16 ?_
    refine AL.nil ?_
    exact ⟨i + 1, by omega, qA17, hio⟩
  · refine AW.exit ?_
    refine hK4 _ _ ?_; try clear hK4 K4
    refine AW.seq_region (fun K hK => ?_)
    refine AL.step rfl rfl rfl qA13 ?_
    refine AL.nil_then (hK _ _ ?_); clear hK K
    exact AW.ret (RetQ.mk (.inr rfl) (retA_tmp rfl qA1 retA_nil) rfl)
end Go.Proofs.Ytmjookofajlcoaa
