/- The law RankFirst. -/
import Derived.Test.YtmjookofajlcoaaN
namespace Go.Proofs.Ytmjookofajlcoaa
open Go.Ax
open Cel (c)
theorem qO1 {p : Prop} (h : p := by exact (fun hb => by (try (apply AStepD.uncond 13 rfl (gpf hb))); exact qA16)) : p := h
theorem qO2 {p : Prop} (h : p := by exact (fun _ hb => by (try (apply AStepD.uncond 13 rfl (gpf hb))); exact qA16)) : p := h
theorem qO3 {p : Prop} (h : p := by exact (fun hb => by (try (apply AStepD.uncond 11 rfl (gpf hb))); exact qA16)) : p := h
theorem qO4 {p : Prop} (h : p := by exact (fun _ hb => by (try (apply AStepD.uncond 11 rfl (gpf hb))); exact qA16)) : p := h
theorem qO5 {p : Prop} (h : p := by exact (fun hb => by (try (apply AStepD.uncond 6 rfl (gpf hb))); exact qA16)) : p := h
theorem qO6 {p : Prop} (h : p := by exact (fun _ hb => by (try (apply AStepD.uncond 6 rfl (gpf hb))); exact qA16)) : p := h
set_option linter.unusedSimpArgs false
set_option linter.unusedVariables false

theorem ahead_asymm {a b : Rep} (h : ahead a b = true) : ahead b a = false := by
  rw [ahead_iff] at h
  rw [ahead_no]
  omega
theorem ahead_self (a : Rep) : ahead a a = false := by simp [ahead]
/-- A rank among one more. -/
theorem rank_more {l : List Rep} {m : Rep} (hr : rightB (l ++ [m]) = true) {r : Rep} (hm : r ∈ l) : rankS (l ++ [m]) r.id = ((l.countP (fun x => ahead x r) + if ahead m r then 1 else 0 : Nat) : Int) ∧ rankE (l ++ [m]) r.id = 0 := by
  obtain ⟨h1, h2⟩ := rank_in hr (List.mem_append_left _ hm)
  rw [h1, h2, List.countP_append, List.countP_singleton]
  exact ⟨rfl, rfl⟩
theorem rank_last {l : List Rep} {m : Rep} (hr : rightB (l ++ [m]) = true) : rankS (l ++ [m]) m.id = (l.countP (fun x => ahead x m) : Nat) ∧ rankE (l ++ [m]) m.id = 0 := by
  obtain ⟨h1, h2⟩ := rank_in hr (List.mem_append_right l (List.mem_singleton.2 rfl))
  rw [h1, h2, List.countP_append, List.countP_singleton, ahead_self]
  exact ⟨rfl, rfl⟩

theorem first_law (l : List Rep) (more : Rep) : ACalls Try.prog 8 [vecA l, .agg (c more)] AHeap.empty (fun r _ => r = .v (.bool true)) := by
  refine ACalls.of_body tok Try.func8 rfl Try.ntmps8 (Nat.le_of_ble_eq_true rfl) (fun base => ?_)
  refine AW.seq_region (fun K hK => ?_)
  refine AL.step rfl rfl rfl qE5 ?_
  refine AL.step rfl rfl rfl qA13 ?_
  refine AL.nil_then (hK _ _ ?_); clear hK K
  refine AW.seq_k (fun K1 hK1 => ?_)
  refine AW.seq_region (fun K hK => ?_)
  refine AL.step rfl rfl rfl (by exact AStepD.callf rfl en10 rfl (anchor_calls _)) ?_
  refine AL.step rfl rfl rfl (by first | exact AStepD.not rfl rfl | exact AStepD.neg rfl rfl (by first | exact IntWalk.i64_in _ (by omega) | exact IntWalk.i64_in _ (by simp only [Bool.or_eq_true, Bool.and_eq_true, Bool.or_eq_false_iff, Bool.and_eq_false_iff, Bool.not_eq_true', Bool.not_eq_false', decide_eq_true_eq, decide_eq_false_iff_not, Int.not_lt, Int.not_le, beq_iff_eq] at *; omega) | exact rfl)) ?_
  refine AL.nil_then (hK _ _ ?_); clear hK K
  refine AW.cond_false rfl rfl (AW.skip ?_)
  refine hK1 _ _ ?_; try clear hK1 K1
  refine AW.seq_k (fun K2 hK2 => ?_)
  refine AW.seq_region (fun K hK => ?_)
  refine AL.step rfl rfl rfl qA16 ?_
  refine AL.step rfl rfl rfl qF8 ?_
  refine AL.step rfl rfl rfl qF3 ?_
  refine AL.step rfl rfl rfl qA16 ?_
  first | refine AL.gstep rfl rfl rfl rfl rfl rfl rfl qA16 ?_ | refine AL.gskip rfl rfl rfl rfl rfl rfl rfl ?_ | refine AL.gnone rfl rfl rfl rfl rfl ?_ | refine AL.gmay rfl rfl rfl rfl rfl rfl qG1 ?_ | refine AL.gmay2 rfl rfl rfl rfl rfl rfl qG2 ?_
  first | refine AL.gstep rfl rfl rfl rfl rfl rfl rfl (by exact AStepD.callf rfl en12 rfl (lright_calls _ l (by simp at *; omega))) ?_ | refine AL.gskip rfl rfl rfl rfl rfl rfl rfl ?_ | refine AL.gnone rfl rfl rfl rfl rfl ?_ | refine AL.gmay rfl rfl rfl rfl rfl rfl (fun hb => by (try (apply AStepD.uncond 25 rfl (gpf hb))); exact (by exact AStepD.callf rfl en12 rfl (lright_calls _ l (by simp at *; omega)))) ?_ | refine AL.gmay2 rfl rfl rfl rfl rfl rfl (fun _ hb => by (try (apply AStepD.uncond 25 rfl (gpf hb))); exact (by exact AStepD.callf rfl en12 rfl (lright_calls _ l (by simp at *; omega)))) ?_
  first | refine AL.gstep rfl rfl rfl rfl rfl rfl rfl (by first | exact AStepD.not rfl rfl | exact AStepD.neg rfl rfl (by first | exact IntWalk.i64_in _ (by omega) | exact IntWalk.i64_in _ (by simp only [Bool.or_eq_true, Bool.and_eq_true, Bool.or_eq_false_iff, Bool.and_eq_false_iff, Bool.not_eq_true', Bool.not_eq_false', decide_eq_true_eq, decide_eq_false_iff_not, Int.not_lt, Int.not_le, beq_iff_eq] at *; omega) | exact rfl)) ?_ | refine AL.gskip rfl rfl rfl rfl rfl rfl rfl ?_ | refine AL.gnone rfl rfl rfl rfl rfl ?_ | refine AL.gmay rfl rfl rfl rfl rfl rfl (fun hb => by (try (apply AStepD.uncond 26 rfl (gpf hb))); exact (by first | exact AStepD.not rfl rfl | exact AStepD.neg rfl rfl (by first | exact IntWalk.i64_in _ (by omega) | exact IntWalk.i64_in _ (by simp only [Bool.or_eq_true, Bool.and_eq_true, Bool.or_eq_false_iff, Bool.and_eq_false_iff, Bool.not_eq_true', Bool.not_eq_false', decide_eq_true_eq, decide_eq_false_iff_not, Int.not_lt, Int.not_le, beq_iff_eq] at *; omega) | exact rfl))) ?_ | refine AL.gmay2 rfl rfl rfl rfl rfl rfl (fun _ hb => by (try (apply AStepD.uncond 26 rfl (gpf hb))); exact (by first | exact AStepD.not rfl rfl | exact AStepD.neg rfl rfl (by first | exact IntWalk.i64_in _ (by omega) | exact IntWalk.i64_in _ (by simp only [Bool.or_eq_true, Bool.and_eq_true, Bool.or_eq_false_iff, Bool.and_eq_false_iff, Bool.not_eq_true', Bool.not_eq_false', decide_eq_true_eq, decide_eq_false_iff_not, Int.not_lt, Int.not_le, beq_iff_eq] at *; omega) | exact rfl))) ?_
  refine AL.step rfl rfl rfl qF9 ?_
  refine AL.nil_then (hK _ _ ?_); clear hK K
  refine AW.cond _ rfl (fun hc => ?_) (fun hc => ?_)
  · refine AW.seq_region (fun K hK => ?_)
    refine AL.step rfl rfl rfl qA13 ?_
    refine AL.nil_then (hK _ _ ?_); clear hK K
    exact AW.ret (RetQ.mk (.inr rfl) (retA_tmp rfl qA1 retA_nil) rfl)
  (try simp only [Bool.or_eq_true, Bool.and_eq_true, Bool.or_eq_false_iff, Bool.and_eq_false_iff, Bool.not_eq_true', Bool.not_eq_false', decide_eq_true_eq, decide_eq_false_iff_not, Int.not_lt, Int.not_le] at hc)
  have h15 : l.length ≤ 15 := by omega
  have hr : rightB l = true := by simpa using hc.2
  refine AW.skip ?_
  refine hK2 _ _ ?_; try clear hK2 K2
  refine AW.seq_k (fun K hK => ?_)
  apply AW.draw mixed [_, _, _, _, _, _, _] [0, 2, 5] [_, _, _, _] [(0, 0), (1, 1), (2, 1), (3, 2), (4, 2), (5, 2), (6, 3), (1, 0), (3, 0), (3, 1), (4, 0), (4, 1)] rfl rfl rfl qN1
  · refine ⟨?_, ?_, ?_, ?_, ?_, ?_, ?_, ?_, ?_, ?_, ?_, ?_⟩
    · refine Ob.mk _ [] 1 rfl rfl restr_nil rfl ?_
      simp only [List.getD_cons_zero, List.getD_cons_succ]
      exact GStep.plain rfl qN2
    · refine Ob.mk _ [0] 1 rfl rfl (restr_cons qA1 restr_nil) rfl ?_
      simp only [List.getD_cons_zero, List.getD_cons_succ]
      exact GStep.plain rfl qA16
    · refine Ob.mk _ [29, 30] 2 rfl rfl (restr_cons qA1 (restr_cons qA1 restr_nil)) rfl ?_
      simp only [List.getD_cons_zero, List.getD_cons_succ]
      exact GStep.plain rfl (by exact AStepD.app_flat (bk := 64) (xs := []) (ys := l) tok rfl rfl rfl rfl rfl rfl rfl rfl (show _ = 2 from rfl) rfl rfl qA14 rfl qA7 qA7)
    · refine Ob.mk _ [3] 2 rfl rfl (restr_cons qA1 restr_nil) rfl ?_
      simp only [List.getD_cons_zero, List.getD_cons_succ]
      exact GStep.plain rfl qA20
    · refine Ob.mk _ [32] 2 rfl rfl (restr_cons qA1 restr_nil) rfl ?_
      simp only [List.getD_cons_zero, List.getD_cons_succ]
      exact GStep.plain rfl (by exact AStepD.vec_flat (l := ([more] : List Rep)) (AStepD.buildSlice1 tok rfl rfl rfl rfl (show _ = 2 from rfl) qA1 qA1 rfl (by decide) qA2) rfl rfl rfl)
    · refine Ob.mk _ [31, 33] 3 rfl rfl (restr_cons qA1 (restr_cons qA1 restr_nil)) rfl ?_
      simp only [List.getD_cons_zero, List.getD_cons_succ]
      exact GStep.plain rfl (by exact AStepD.app_vecA (bk := 64) (xs := ([] ++ l)) (ys := [more]) tok rfl rfl rfl rfl rfl rfl rfl rfl (show _ = 2 from rfl) rfl rfl qA14 rfl qA7 qA7)
    · refine Ob.mk _ [34] 3 rfl rfl (restr_cons qA1 restr_nil) rfl ?_
      simp only [List.getD_cons_zero, List.getD_cons_succ]
      exact GStep.plain rfl qA13
    · refine Ob.mk _ [0] 0 rfl rfl (restr_cons qA1 restr_nil) rfl ?_
      simp only [List.getD_cons_zero, List.getD_cons_succ]
      exact GStep.plain rfl qA16
    · refine Ob.mk _ [3] 0 rfl rfl (restr_cons qA1 restr_nil) rfl ?_
      simp only [List.getD_cons_zero, List.getD_cons_succ]
      exact GStep.plain rfl qA20
    · refine Ob.mk _ [3] 1 rfl rfl (restr_cons qA1 restr_nil) rfl ?_
      simp only [List.getD_cons_zero, List.getD_cons_succ]
      exact GStep.plain rfl qA20
    · refine Ob.mk _ [32] 0 rfl rfl (restr_cons qA1 restr_nil) rfl ?_
      simp only [List.getD_cons_zero, List.getD_cons_succ]
      exact GStep.plain rfl (by exact AStepD.vec_flat (l := ([more] : List Rep)) (AStepD.buildSlice1 tok rfl rfl rfl rfl (show _ = 2 from rfl) qA1 qA1 rfl (by decide) qA2) rfl rfl rfl)
    · refine Ob.mk _ [32] 1 rfl rfl (restr_cons qA1 restr_nil) rfl ?_
      simp only [List.getD_cons_zero, List.getD_cons_succ]
      exact GStep.plain rfl (by exact AStepD.vec_flat (l := ([more] : List Rep)) (AStepD.buildSlice1 tok rfl rfl rfl rfl (show _ = 2 from rfl) qA1 qA1 rfl (by decide) qA2) rfl rfl rfl)
  refine hK _ _ ?_; clear hK K
  refine AW.frame qN3 qN4 ?_
  rw [List.nil_append]
  have hln : (l ++ [more]).length = l.length + 1 := by simp
  have hlm : (l ++ [more]).length ≤ 8000000 := by omega
  have hll : l.length ≤ 8000000 := by omega
  refine AW.seq_k (fun K3 hK3 => ?_)
  refine AW.seq_region (fun K hK => ?_)
  refine AL.step rfl rfl rfl qA16 ?_
  refine AL.step rfl rfl rfl (by exact AStepD.callf rfl en12 rfl (lright_calls _ (l ++ [more]) hlm)) ?_
  refine AL.step rfl rfl rfl (by first | exact AStepD.not rfl rfl | exact AStepD.neg rfl rfl (by first | exact IntWalk.i64_in _ (by omega) | exact IntWalk.i64_in _ (by simp only [Bool.or_eq_true, Bool.and_eq_true, Bool.or_eq_false_iff, Bool.and_eq_false_iff, Bool.not_eq_true', Bool.not_eq_false', decide_eq_true_eq, decide_eq_false_iff_not, Int.not_lt, Int.not_le, beq_iff_eq] at *; omega) | exact rfl)) ?_
  refine AL.nil_then (hK _ _ ?_); clear hK K
  refine AW.cond _ rfl (fun hc => ?_) (fun hc => ?_)
  · refine AW.seq_region (fun K hK => ?_)
    refine AL.step rfl rfl rfl qA13 ?_
    refine AL.nil_then (hK _ _ ?_); clear hK K
    exact AW.ret (RetQ.mk (.inr rfl) (retA_tmp rfl qA1 retA_nil) rfl)
  have hr2 : rightB (l ++ [more]) = true := by simpa using hc
  clear hc
  refine AW.skip ?_
  refine hK3 _ _ ?_; try clear hK3 K3
  refine AW.seq_region (fun K hK => ?_)
  refine AL.step rfl rfl rfl qA13 ?_
  refine AL.nil_then (hK _ _ ?_); clear hK K
  refine AW.seq_k (fun K4 hK4 => ?_)
  refine AW.seq_region (fun K hK => ?_)
  refine AL.step rfl rfl rfl qA16 ?_
  refine AL.step rfl rfl rfl qF8 ?_
  refine AL.step rfl rfl rfl qA16 ?_
  refine AL.nil_then (hK _ _ ?_); clear hK K
  refine AW.block ?_
  refine AW.loop_at (ι := Nat) (fun i => [(40, .v (.int .i64 (i : Nat))), (39, .v (.int .i64 (l.length : Nat))), (38, vecA l), (6, .v (.bool ((l.take i).all fun r => ahead r more))), (5, vecA (l ++ [more])), (3, .ptr AHeap.empty.next 0), (0, vecA l)])
    (fun i H' => i ≤ l.length ∧ AHeap.empty.next < H'.next ∧ H'.get AHeap.empty.next = some (.cells 29 [.v (.int .i64 more.id), .v (.int .i64 more.off)])) (fun i => l.length - i) 0 qA17 ⟨Nat.zero_le _, qA12, qA14⟩ ?_
  rintro i H2 ⟨hi, hn2, hX⟩
  refine AW.lts fun hlt => ?_
  refine AW.seq_region (fun K hK => ?_)
  refine AL.step rfl rfl rfl qF2 ?_
  refine AL.nil_then (hK _ _ ?_); clear hK K
  refine AW.seq_k (fun K5 hK5 => ?_)
  refine AW.cond _ rfl (fun hc => ?_) (fun hc => ?_)
  · (try simp only [Bool.or_eq_true, Bool.and_eq_true, Bool.or_eq_false_iff, Bool.and_eq_false_iff, Bool.not_eq_true', Bool.not_eq_false', decide_eq_true_eq, decide_eq_false_iff_not, Int.not_lt, Int.not_le] at hc)
    have hil : i < l.length := by omega
    refine AW.skip ?_
    refine hK5 _ _ ?_; try clear hK5 K5
    refine AW.seq_k (fun K6 hK6 => ?_)
    refine AW.block ?_
    refine AW.seq_region (fun K hK => ?_)
    refine AL.step rfl rfl rfl qA18 ?_
    refine AL.step rfl rfl rfl qA20 ?_
    refine AL.step rfl rfl rfl qH1 ?_
    refine AL.step0 rfl rfl qB6 ?_
    refine AL.nil_then (hK _ _ ?_); clear hK K
    have hah := fun H => ahead_calls H l[i] more
    refine AW.region ?_
    refine AL.step rfl rfl rfl qA16 ?_
    refine AL.step rfl rfl rfl qA16 ?_
    first | refine AL.gstep rfl rfl rfl rfl rfl rfl rfl qA20 ?_ | refine AL.gskip rfl rfl rfl rfl rfl rfl rfl ?_ | refine AL.gnone rfl rfl rfl rfl rfl ?_ | refine AL.gmay rfl rfl rfl rfl rfl rfl (fun hb => by (try (apply AStepD.uncond 8 rfl (gpf hb))); exact qA20) ?_ | refine AL.gmay2 rfl rfl rfl rfl rfl rfl (fun _ hb => by (try (apply AStepD.uncond 8 rfl (gpf hb))); exact qA20) ?_
    first | refine AL.gstep rfl rfl rfl rfl rfl rfl rfl qA20 ?_ | refine AL.gskip rfl rfl rfl rfl rfl rfl rfl ?_ | refine AL.gnone rfl rfl rfl rfl rfl ?_ | refine AL.gmay rfl rfl rfl rfl rfl rfl (fun hb => by (try (apply AStepD.uncond 3 rfl (gpf hb))); exact qA20) ?_ | refine AL.gmay2 rfl rfl rfl rfl rfl rfl (fun _ hb => by (try (apply AStepD.uncond 3 rfl (gpf hb))); exact qA20) ?_
    first | refine AL.gstep rfl rfl rfl rfl rfl rfl rfl (by exact AStepD.callf rfl en13 rfl (hah _)) ?_ | refine AL.gskip rfl rfl rfl rfl rfl rfl rfl ?_ | refine AL.gnone rfl rfl rfl rfl rfl ?_ | refine AL.gmay rfl rfl rfl rfl rfl rfl (fun hb => by (try (apply AStepD.uncond 46 rfl (gpf hb))); (try (apply AStepD.uncond 47 rfl (gpf hb))); exact (by exact AStepD.callf rfl en13 rfl (hah _))) ?_ | refine AL.gmay2 rfl rfl rfl rfl rfl rfl (fun _ hb => by (try (apply AStepD.uncond 46 rfl (gpf hb))); (try (apply AStepD.uncond 47 rfl (gpf hb))); exact (by exact AStepD.callf rfl en13 rfl (hah _))) ?_
    refine AL.step rfl rfl rfl qF9 ?_
    refine AL.step rfl rfl rfl qA13 ?_
    refine AL.nil ?_
    refine hK6 _ _ ?_; try clear hK6 K6
    refine AW.region ?_
    refine AL.step rfl rfl rfl (by first | exact AStepD.add rfl rfl rfl (by first | exact IntWalk.i64_in _ (by omega) | exact IntWalk.i64_in _ (by simp only [Bool.or_eq_true, Bool.and_eq_true, Bool.or_eq_false_iff, Bool.and_eq_false_iff, Bool.not_eq_true', Bool.not_eq_false', decide_eq_true_eq, decide_eq_false_iff_not, Int.not_lt, Int.not_le, beq_iff_eq] at *; omega) | exact rfl) | exact AStepD.str_add rfl rfl rfl (by omega)) ?_
    refine AL.step rfl rfl rfl qA16 ?_
    refine AL.nil ?_
    refine ⟨i + 1, by omega, ?_, hil, qA12, qA14⟩
    rw [all_next l i hil]
    exact qA17
  · (try simp only [Bool.or_eq_true, Bool.and_eq_true, Bool.or_eq_false_iff, Bool.and_eq_false_iff, Bool.not_eq_true', Bool.not_eq_false', decide_eq_true_eq, decide_eq_false_iff_not, Int.not_lt, Int.not_le] at hc)
    have hil : i = l.length := by omega
    subst hil
    rw [List.take_length]
    refine AW.exit ?_
    refine hK4 _ _ ?_; try clear hK4 K4
    generalize hla : (l.all fun r => ahead r more) = last
    have hla2 : last = true → ∀ r ∈ l, ahead r more = true := fun h => by subst h; simpa using hla
    clear hla
    refine AW.seq_k (fun K7 hK7 => ?_)
    refine AW.seq_region (fun K hK => ?_)
    refine AL.step rfl rfl rfl qA16 ?_
    refine AL.step rfl rfl rfl qF8 ?_
    refine AL.step rfl rfl rfl qA16 ?_
    refine AL.nil_then (hK _ _ ?_); clear hK K
    refine AW.block ?_
    refine AW.loop_at (ι := Nat) (fun i => [(53, .v (.int .i64 (i : Nat))), (52, .v (.int .i64 (l.length : Nat))), (51, vecA l), (6, .v (.bool last)), (5, vecA (l ++ [more])), (3, .ptr AHeap.empty.next 0), (0, vecA l)])
      (fun i H' => i ≤ l.length ∧ AHeap.empty.next < H'.next ∧ H'.get AHeap.empty.next = some (.cells 29 [.v (.int .i64 more.id), .v (.int .i64 more.off)])) (fun i => l.length - i) 0 qA17 ⟨Nat.zero_le _, qA12, qA14⟩ ?_
    rintro i H3 ⟨hi, hn3, hX3⟩
    refine AW.lts fun hlt => ?_
    refine AW.seq_region (fun K hK => ?_)
    refine AL.step rfl rfl rfl qF2 ?_
    refine AL.nil_then (hK _ _ ?_); clear hK K
    refine AW.seq_k (fun K8 hK8 => ?_)
    refine AW.cond _ rfl (fun hc => ?_) (fun hc => ?_)
    · (try simp only [Bool.or_eq_true, Bool.and_eq_true, Bool.or_eq_false_iff, Bool.and_eq_false_iff, Bool.not_eq_true', Bool.not_eq_false', decide_eq_true_eq, decide_eq_false_iff_not, Int.not_lt, Int.not_le] at hc)
      have hil : i < l.length := by omega
      obtain ⟨e1, e2⟩ := rank_in hr (List.getElem_mem hil)
      obtain ⟨e3, e4⟩ := rank_more hr2 (List.getElem_mem hil)
      have hcp : l.countP (fun x => ahead x l[i]) ≤ l.length := List.countP_le_length
      have hc0 : l.countP (fun x => ahead x l[i]) = 0 → ∀ x ∈ l, ahead x l[i] = false := fun h x hx => by simpa using List.countP_eq_zero.1 h x hx
      have hla3 : last = true → ahead more l[i] = false := fun h => ahead_asymm (hla2 h _ (List.getElem_mem hil))
      refine AW.skip ?_
      refine hK8 _ _ ?_; try clear hK8 K8
      refine AW.seq_k (fun K9 hK9 => ?_)
      refine AW.block ?_
      refine AW.seq_region (fun K hK => ?_)
      refine AL.step rfl rfl rfl qA18 ?_
      refine AL.step rfl rfl rfl qA20 ?_
      refine AL.step rfl rfl rfl qH1 ?_
      refine AL.step0 rfl rfl qB6 ?_
      refine AL.nil_then (hK _ _ ?_); clear hK K
      refine AW.seq_region (fun K hK => ?_)
      refine AL.step rfl rfl rfl qA16 ?_
      refine AL.step rfl rfl rfl qE7 ?_
      refine AL.step rfl rfl rfl qB2 ?_
      refine AL.step rfl rfl rfl (by exact AStepD.callf rfl en16 rfl (rank_calls _ l l[i].id hll)) ?_
      refine AL.step rfl rfl rfl qA16 ?_
      refine AL.step rfl rfl rfl qG7 ?_
      refine AL.step rfl rfl rfl qG7 ?_
      refine AL.step rfl rfl rfl qA13 ?_
      refine AL.step rfl rfl rfl qA13 ?_
      refine AL.nil_then (hK _ _ ?_); clear hK K
      refine AW.seq_region (fun K hK => ?_)
      refine AL.step rfl rfl rfl qA16 ?_
      refine AL.step rfl rfl rfl qE7 ?_
      refine AL.step rfl rfl rfl qB2 ?_
      refine AL.step rfl rfl rfl (by exact AStepD.callf rfl en16 rfl (rank_calls _ (l ++ [more]) l[i].id hlm)) ?_
      refine AL.step rfl rfl rfl qA16 ?_
      refine AL.step rfl rfl rfl qG7 ?_
      refine AL.step rfl rfl rfl qG7 ?_
      refine AL.step rfl rfl rfl qA13 ?_
      refine AL.step rfl rfl rfl qA13 ?_
      refine AL.nil_then (hK _ _ ?_); clear hK K
      rw [e1, e2, e3, e4]
      clear e1 e2 e3 e4
      generalize l.countP (fun x => ahead x l[i]) = a at hcp hc0 ⊢
      refine AW.seq_k (fun K10 hK10 => ?_)
      refine AW.seq_region (fun K hK => ?_)
      refine AL.step rfl rfl rfl qA16 ?_
      refine AL.step rfl rfl rfl qG8 ?_
      refine AL.step rfl rfl rfl qA16 ?_
      first | refine AL.gstep rfl rfl rfl rfl rfl rfl rfl qA16 ?_ | refine AL.gskip rfl rfl rfl rfl rfl rfl rfl ?_ | refine AL.gnone rfl rfl rfl rfl rfl ?_ | refine AL.gmay rfl rfl rfl rfl rfl rfl (fun hb => by (try (apply AStepD.uncond 14 rfl (gpf hb))); exact qA16) ?_ | refine AL.gmay2 rfl rfl rfl rfl rfl rfl (fun _ hb => by (try (apply AStepD.uncond 14 rfl (gpf hb))); exact qA16) ?_
      first | refine AL.gstep rfl rfl rfl rfl rfl rfl rfl qG8 ?_ | refine AL.gskip rfl rfl rfl rfl rfl rfl rfl ?_ | refine AL.gnone rfl rfl rfl rfl rfl ?_ | refine AL.gmay rfl rfl rfl rfl rfl rfl (fun hb => by (try (apply AStepD.uncond 74 rfl (gpf hb))); exact qG8) ?_ | refine AL.gmay2 rfl rfl rfl rfl rfl rfl (fun _ hb => by (try (apply AStepD.uncond 74 rfl (gpf hb))); exact qG8) ?_
      refine AL.step rfl rfl rfl qF9 ?_
      refine AL.step rfl rfl rfl qA16 ?_
      first | refine AL.gstep rfl rfl rfl rfl rfl rfl rfl qA16 ?_ | refine AL.gskip rfl rfl rfl rfl rfl rfl rfl ?_ | refine AL.gnone rfl rfl rfl rfl rfl ?_ | refine AL.gmay rfl rfl rfl rfl rfl rfl qO1 ?_ | refine AL.gmay2 rfl rfl rfl rfl rfl rfl qO2 ?_
      first | refine AL.gstep rfl rfl rfl rfl rfl rfl rfl qA16 ?_ | refine AL.gskip rfl rfl rfl rfl rfl rfl rfl ?_ | refine AL.gnone rfl rfl rfl rfl rfl ?_ | refine AL.gmay rfl rfl rfl rfl rfl rfl qO3 ?_ | refine AL.gmay2 rfl rfl rfl rfl rfl rfl qO4 ?_
      first | refine AL.gstep rfl rfl rfl rfl rfl rfl rfl qF2 ?_ | refine AL.gskip rfl rfl rfl rfl rfl rfl rfl ?_ | refine AL.gnone rfl rfl rfl rfl rfl ?_ | refine AL.gmay rfl rfl rfl rfl rfl rfl (fun hb => by (try (apply AStepD.uncond 78 rfl (gpf hb))); (try (apply AStepD.uncond 79 rfl (gpf hb))); exact qF2) ?_ | refine AL.gmay2 rfl rfl rfl rfl rfl rfl (fun _ hb => by (try (apply AStepD.uncond 78 rfl (gpf hb))); (try (apply AStepD.uncond 79 rfl (gpf hb))); exact qF2) ?_
      refine AL.step rfl rfl rfl qF9 ?_
      refine AL.step rfl rfl rfl qA16 ?_
      first | refine AL.gstep rfl rfl rfl rfl rfl rfl rfl qA16 ?_ | refine AL.gskip rfl rfl rfl rfl rfl rfl rfl ?_ | refine AL.gnone rfl rfl rfl rfl rfl ?_ | refine AL.gmay rfl rfl rfl rfl rfl rfl qO1 ?_ | refine AL.gmay2 rfl rfl rfl rfl rfl rfl qO2 ?_
      first | refine AL.gstep rfl rfl rfl rfl rfl rfl rfl qA16 ?_ | refine AL.gskip rfl rfl rfl rfl rfl rfl rfl ?_ | refine AL.gnone rfl rfl rfl rfl rfl ?_ | refine AL.gmay rfl rfl rfl rfl rfl rfl qO3 ?_ | refine AL.gmay2 rfl rfl rfl rfl rfl rfl qO4 ?_
      first | refine AL.gstep rfl rfl rfl rfl rfl rfl rfl (by first | exact AStepD.add rfl rfl rfl (by first | exact IntWalk.i64_in _ (by omega) | exact IntWalk.i64_in _ (by simp only [Bool.or_eq_true, Bool.and_eq_true, Bool.or_eq_false_iff, Bool.and_eq_false_iff, Bool.not_eq_true', Bool.not_eq_false', decide_eq_true_eq, decide_eq_false_iff_not, Int.not_lt, Int.not_le, beq_iff_eq] at *; omega) | exact rfl) | exact AStepD.str_add rfl rfl rfl (by omega)) ?_ | refine AL.gskip rfl rfl rfl rfl rfl rfl rfl ?_ | refine AL.gnone rfl rfl rfl rfl rfl ?_ | refine AL.gmay rfl rfl rfl rfl rfl rfl (fun hb => by (try (apply AStepD.uncond 84 rfl (gpf hb))); exact (by first | exact AStepD.add rfl rfl rfl (by first | exact IntWalk.i64_in _ (by omega) | exact IntWalk.i64_in _ (by simp only [Bool.or_eq_true, Bool.and_eq_true, Bool.or_eq_false_iff, Bool.and_eq_false_iff, Bool.not_eq_true', Bool.not_eq_false', decide_eq_true_eq, decide_eq_false_iff_not, Int.not_lt, Int.not_le, beq_iff_eq] at *; omega) | exact rfl) | exact AStepD.str_add rfl rfl rfl (by omega))) ?_ | refine AL.gmay2 rfl rfl rfl rfl rfl rfl (fun _ hb => by (try (apply AStepD.uncond 84 rfl (gpf hb))); exact (by first | exact AStepD.add rfl rfl rfl (by first | exact IntWalk.i64_in _ (by omega) | exact IntWalk.i64_in _ (by simp only [Bool.or_eq_true, Bool.and_eq_true, Bool.or_eq_false_iff, Bool.and_eq_false_iff, Bool.not_eq_true', Bool.not_eq_false', decide_eq_true_eq, decide_eq_false_iff_not, Int.not_lt, Int.not_le, beq_iff_eq] at *; omega) | exact rfl) | exact AStepD.str_add rfl rfl rfl (by omega))) ?_
      first | refine AL.gstep rfl rfl rfl rfl rfl rfl rfl qF3 ?_ | refine AL.gskip rfl rfl rfl rfl rfl rfl rfl ?_ | refine AL.gnone rfl rfl rfl rfl rfl ?_ | refine AL.gmay rfl rfl rfl rfl rfl rfl (fun hb => by (try (apply AStepD.uncond 83 rfl (gpf hb))); (try (apply AStepD.uncond 85 rfl (gpf hb))); exact qF3) ?_ | refine AL.gmay2 rfl rfl rfl rfl rfl rfl (fun _ hb => by (try (apply AStepD.uncond 83 rfl (gpf hb))); (try (apply AStepD.uncond 85 rfl (gpf hb))); exact qF3) ?_
      refine AL.step rfl rfl rfl qF9 ?_
      refine AL.step rfl rfl rfl qA16 ?_
      first | refine AL.gstep rfl rfl rfl rfl rfl rfl rfl qA16 ?_ | refine AL.gskip rfl rfl rfl rfl rfl rfl rfl ?_ | refine AL.gnone rfl rfl rfl rfl rfl ?_ | refine AL.gmay rfl rfl rfl rfl rfl rfl qO5 ?_ | refine AL.gmay2 rfl rfl rfl rfl rfl rfl qO6 ?_
      first | refine AL.gstep rfl rfl rfl rfl rfl rfl rfl qA16 ?_ | refine AL.gskip rfl rfl rfl rfl rfl rfl rfl ?_ | refine AL.gnone rfl rfl rfl rfl rfl ?_ | refine AL.gmay rfl rfl rfl rfl rfl rfl (fun hb => by (try (apply AStepD.uncond 89 rfl (gpf hb))); exact qA16) ?_ | refine AL.gmay2 rfl rfl rfl rfl rfl rfl (fun _ hb => by (try (apply AStepD.uncond 89 rfl (gpf hb))); exact qA16) ?_
      first | refine AL.gstep rfl rfl rfl rfl rfl rfl rfl qA16 ?_ | refine AL.gskip rfl rfl rfl rfl rfl rfl rfl ?_ | refine AL.gnone rfl rfl rfl rfl rfl ?_ | refine AL.gmay rfl rfl rfl rfl rfl rfl qO3 ?_ | refine AL.gmay2 rfl rfl rfl rfl rfl rfl qO4 ?_
      first | refine AL.gstep rfl rfl rfl rfl rfl rfl rfl qA16 ?_ | refine AL.gskip rfl rfl rfl rfl rfl rfl rfl ?_ | refine AL.gnone rfl rfl rfl rfl rfl ?_ | refine AL.gmay rfl rfl rfl rfl rfl rfl qO1 ?_ | refine AL.gmay2 rfl rfl rfl rfl rfl rfl qO2 ?_
      first | refine AL.gstep rfl rfl rfl rfl rfl rfl rfl qG8 ?_ | refine AL.gskip rfl rfl rfl rfl rfl rfl rfl ?_ | refine AL.gnone rfl rfl rfl rfl rfl ?_ | refine AL.gmay rfl rfl rfl rfl rfl rfl (fun hb => by (try (apply AStepD.uncond 91 rfl (gpf hb))); (try (apply AStepD.uncond 92 rfl (gpf hb))); exact qG8) ?_ | refine AL.gmay2 rfl rfl rfl rfl rfl rfl (fun _ hb => by (try (apply AStepD.uncond 91 rfl (gpf hb))); (try (apply AStepD.uncond 92 rfl (gpf hb))); exact qG8) ?_
      first | refine AL.gstep rfl rfl rfl rfl rfl rfl rfl qF9 ?_ | refine AL.gskip rfl rfl rfl rfl rfl rfl rfl ?_ | refine AL.gnone rfl rfl rfl rfl rfl ?_ | refine AL.gmay rfl rfl rfl rfl rfl rfl (fun hb => by (try (apply AStepD.uncond 90 rfl (gpf hb))); (try (apply AStepD.uncond 93 rfl (gpf hb))); exact qF9) ?_ | refine AL.gmay2 rfl rfl rfl rfl rfl rfl (fun _ hb => by (try (apply AStepD.uncond 90 rfl (gpf hb))); (try (apply AStepD.uncond 93 rfl (gpf hb))); exact qF9) ?_
      refine AL.step rfl rfl rfl qF9 ?_
      refine AL.nil_then (hK _ _ ?_); clear hK K
      refine AW.cond _ rfl (fun hc => ?_) (fun hc => ?_)
      · exfalso
        (try simp only [Bool.or_eq_true, Bool.and_eq_true, Bool.or_eq_false_iff, Bool.and_eq_false_iff, Bool.not_eq_true', Bool.not_eq_false', decide_eq_true_eq, decide_eq_false_iff_not, Int.not_lt, Int.not_le] at hc)
        simp only [ne_eq] at hc
        cases last
        · simp at hc
          split at hc <;> omega
        · rw [hla3 rfl] at hc
          simp at hc
          omega
      clear hc
      refine AW.skip ?_
      refine hK10 _ _ ?_; try clear hK10 K10
      refine AW.seq_region (fun K hK => ?_)
      refine AL.step rfl rfl rfl qA16 ?_
      refine AL.step rfl rfl rfl qF8 ?_
      refine AL.step rfl rfl rfl qA16 ?_
      refine AL.nil_then (hK _ _ ?_); clear hK K
      refine AW.block ?_
      refine AW.loop_at (ι := Nat) (fun j => [(98, .v (.int .i64 (j : Nat))), (97, .v (.int .i64 (l.length : Nat))), (96, vecA l), (53, .v (.int .i64 (i : Nat))), (52, .v (.int .i64 (l.length : Nat))), (51, vecA l), (11, .v (.int .i64 (a : Nat))), (10, .ptr H3.next 0), (6, .v (.bool last)), (5, vecA (l ++ [more])), (3, .ptr AHeap.empty.next 0), (0, vecA l)])
        (fun j H' => j ≤ l.length ∧ AHeap.empty.next < H'.next ∧ H3.next < H'.next ∧ H'.get AHeap.empty.next = some (.cells 29 [.v (.int .i64 more.id), .v (.int .i64 more.off)]) ∧ H'.get H3.next = some (.cells 29 [.v (.int .i64 l[i].id), .v (.int .i64 l[i].off)])) (fun j => l.length - j) 0 qA17 ⟨Nat.zero_le _, qA12, qA12, qA14, qA14⟩ ?_
      rintro j H4 ⟨hj, hn4, hn5, hX4, hX5⟩
      refine AW.lts fun hlt => ?_
      refine AW.seq_region (fun K hK => ?_)
      refine AL.step rfl rfl rfl qF2 ?_
      refine AL.nil_then (hK _ _ ?_); clear hK K
      refine AW.seq_k (fun K11 hK11 => ?_)
      refine AW.cond _ rfl (fun hc => ?_) (fun hc => ?_)
      · (try simp only [Bool.or_eq_true, Bool.and_eq_true, Bool.or_eq_false_iff, Bool.and_eq_false_iff, Bool.not_eq_true', Bool.not_eq_false', decide_eq_true_eq, decide_eq_false_iff_not, Int.not_lt, Int.not_le] at hc)
        have hjl : j < l.length := by omega
        have hjn := hc0
        refine AW.skip ?_
        refine hK11 _ _ ?_; try clear hK11 K11
        refine AW.seq_k (fun K12 hK12 => ?_)
        refine AW.block ?_
        refine AW.seq_region (fun K hK => ?_)
        refine AL.step rfl rfl rfl qA18 ?_
        refine AL.step rfl rfl rfl qA20 ?_
        refine AL.step rfl rfl rfl qH1 ?_
        refine AL.step0 rfl rfl qB6 ?_
        refine AL.nil_then (hK _ _ ?_); clear hK K
        refine AW.seq_region (fun K hK => ?_)
        refine AL.step rfl rfl rfl qA16 ?_
        refine AL.step rfl rfl rfl qE3 ?_
        refine AL.step rfl rfl rfl qA16 ?_
        first | refine AL.gstep rfl rfl rfl rfl rfl rfl rfl qF10 ?_ | refine AL.gskip rfl rfl rfl rfl rfl rfl rfl ?_ | refine AL.gnone rfl rfl rfl rfl rfl ?_ | refine AL.gmay rfl rfl rfl rfl rfl rfl (fun hb => by (try (apply AStepD.uncond 16 rfl (gpf hb))); exact qF10) ?_ | refine AL.gmay2 rfl rfl rfl rfl rfl rfl (fun _ hb => by (try (apply AStepD.uncond 16 rfl (gpf hb))); exact qF10) ?_
        first | refine AL.gstep rfl rfl rfl rfl rfl rfl rfl qB2 ?_ | refine AL.gskip rfl rfl rfl rfl rfl rfl rfl ?_ | refine AL.gnone rfl rfl rfl rfl rfl ?_ | refine AL.gmay rfl rfl rfl rfl rfl rfl (fun hb => by (try (apply AStepD.uncond 105 rfl (gpf hb))); exact qB2) ?_ | refine AL.gmay2 rfl rfl rfl rfl rfl rfl (fun _ hb => by (try (apply AStepD.uncond 105 rfl (gpf hb))); exact qB2) ?_
        first | refine AL.gstep rfl rfl rfl rfl rfl rfl rfl qF10 ?_ | refine AL.gskip rfl rfl rfl rfl rfl rfl rfl ?_ | refine AL.gnone rfl rfl rfl rfl rfl ?_ | refine AL.gmay rfl rfl rfl rfl rfl rfl (fun hb => by (try (apply AStepD.uncond 10 rfl (gpf hb))); exact qF10) ?_ | refine AL.gmay2 rfl rfl rfl rfl rfl rfl (fun _ hb => by (try (apply AStepD.uncond 10 rfl (gpf hb))); exact qF10) ?_
        first | refine AL.gstep rfl rfl rfl rfl rfl rfl rfl qB2 ?_ | refine AL.gskip rfl rfl rfl rfl rfl rfl rfl ?_ | refine AL.gnone rfl rfl rfl rfl rfl ?_ | refine AL.gmay rfl rfl rfl rfl rfl rfl (fun hb => by (try (apply AStepD.uncond 107 rfl (gpf hb))); exact qB2) ?_ | refine AL.gmay2 rfl rfl rfl rfl rfl rfl (fun _ hb => by (try (apply AStepD.uncond 107 rfl (gpf hb))); exact qB2) ?_
        first | refine AL.gstep rfl rfl rfl rfl rfl rfl rfl qF3 ?_ | refine AL.gskip rfl rfl rfl rfl rfl rfl rfl ?_ | refine AL.gnone rfl rfl rfl rfl rfl ?_ | refine AL.gmay rfl rfl rfl rfl rfl rfl (fun hb => by (try (apply AStepD.uncond 106 rfl (gpf hb))); (try (apply AStepD.uncond 108 rfl (gpf hb))); exact qF3) ?_ | refine AL.gmay2 rfl rfl rfl rfl rfl rfl (fun _ hb => by (try (apply AStepD.uncond 106 rfl (gpf hb))); (try (apply AStepD.uncond 108 rfl (gpf hb))); exact qF3) ?_
        refine AL.step rfl rfl rfl qF9 ?_
        refine AL.nil_then (hK _ _ ?_); clear hK K
        refine AW.cond _ rfl (fun hc => ?_) (fun hc => ?_)
        · exfalso
          (try simp only [Bool.or_eq_true, Bool.and_eq_true, Bool.or_eq_false_iff, Bool.and_eq_false_iff, Bool.not_eq_true', Bool.not_eq_false', decide_eq_true_eq, decide_eq_false_iff_not, Int.not_lt, Int.not_le] at hc)
          have ha0 : a = 0 := by omega
          have := hc0 ha0 _ (List.getElem_mem hjl)
          rw [ahead_no] at this
          omega
        refine AW.skip ?_
        refine hK12 _ _ ?_; try clear hK12 K12
        refine AW.region ?_
        refine AL.step rfl rfl rfl (by first | exact AStepD.add rfl rfl rfl (by first | exact IntWalk.i64_in _ (by omega) | exact IntWalk.i64_in _ (by simp only [Bool.or_eq_true, Bool.and_eq_true, Bool.or_eq_false_iff, Bool.and_eq_false_iff, Bool.not_eq_true', Bool.not_eq_false', decide_eq_true_eq, decide_eq_false_iff_not, Int.not_lt, Int.not_le, beq_iff_eq] at *; omega) | exact rfl) | exact AStepD.str_add rfl rfl rfl (by omega)) ?_
        refine AL.step rfl rfl rfl qA16 ?_
        refine AL.nil ?_
        refine ⟨j + 1, by omega, qA17, hjl, qA12, qA12, qA14, qA14⟩
      · refine AW.exit ?_
        refine hK9 _ _ ?_; try clear hK9 K9
        refine AW.region ?_
        refine AL.step rfl rfl rfl (by first | exact AStepD.add rfl rfl rfl (by first | exact IntWalk.i64_in _ (by omega) | exact IntWalk.i64_in _ (by simp only [Bool.or_eq_true, Bool.and_eq_true, Bool.or_eq_false_iff, Bool.and_eq_false_iff, Bool.not_eq_true', Bool.not_eq_false', decide_eq_true_eq, decide_eq_false_iff_not, Int.not_lt, Int.not_le, beq_iff_eq] at *; omega) | exact rfl) | exact AStepD.str_add rfl rfl rfl (by omega)) ?_
        refine AL.step rfl rfl rfl qA16 ?_
        refine AL.nil ?_
        refine ⟨i + 1, by omega, qA17, hil, qA12, qA14⟩
    · refine AW.exit ?_
      refine hK7 _ _ ?_; try clear hK7 K7
      obtain ⟨e1, e2⟩ := rank_last hr2
      have hcl : last = true → l.countP (fun x => ahead x more) = l.length := fun h => List.countP_eq_length.2 (hla2 h)
      refine AW.seq_region (fun K hK => ?_)
      refine AL.step rfl rfl rfl qA16 ?_
      refine AL.step rfl rfl rfl qE7 ?_
      refine AL.step rfl rfl rfl qB2 ?_
      refine AL.step rfl rfl rfl (by exact AStepD.callf rfl en16 rfl (rank_calls _ (l ++ [more]) more.id hlm)) ?_
      refine AL.step rfl rfl rfl qA16 ?_
      refine AL.step rfl rfl rfl qG7 ?_
      refine AL.step rfl rfl rfl qG7 ?_
      refine AL.step rfl rfl rfl qA13 ?_
      refine AL.step rfl rfl rfl qA13 ?_
      refine AL.nil_then (hK _ _ ?_); clear hK K
      rw [e1, e2]
      refine AW.seq_region (fun K hK => ?_)
      refine AL.step rfl rfl rfl qA16 ?_
      refine AL.step rfl rfl rfl qE3 ?_
      refine AL.step rfl rfl rfl qA16 ?_
      first | refine AL.gstep rfl rfl rfl rfl rfl rfl rfl qA16 ?_ | refine AL.gskip rfl rfl rfl rfl rfl rfl rfl ?_ | refine AL.gnone rfl rfl rfl rfl rfl ?_ | refine AL.gmay rfl rfl rfl rfl rfl rfl qO5 ?_ | refine AL.gmay2 rfl rfl rfl rfl rfl rfl qO6 ?_
      first | refine AL.gstep rfl rfl rfl rfl rfl rfl rfl (by first | exact AStepD.not rfl rfl | exact AStepD.neg rfl rfl (by first | exact IntWalk.i64_in _ (by omega) | exact IntWalk.i64_in _ (by simp only [Bool.or_eq_true, Bool.and_eq_true, Bool.or_eq_false_iff, Bool.and_eq_false_iff, Bool.not_eq_true', Bool.not_eq_false', decide_eq_true_eq, decide_eq_false_iff_not, Int.not_lt, Int.not_le, beq_iff_eq] at *; omega) | exact rfl)) ?_ | refine AL.gskip rfl rfl rfl rfl rfl rfl rfl ?_ | refine AL.gnone rfl rfl rfl rfl rfl ?_ | refine AL.gmay rfl rfl rfl rfl rfl rfl (fun hb => by (try (apply AStepD.uncond 123 rfl (gpf hb))); exact (by first | exact AStepD.not rfl rfl | exact AStepD.neg rfl rfl (by first | exact IntWalk.i64_in _ (by omega) | exact IntWalk.i64_in _ (by simp only [Bool.or_eq_true, Bool.and_eq_true, Bool.or_eq_false_iff, Bool.and_eq_false_iff, Bool.not_eq_true', Bool.not_eq_false', decide_eq_true_eq, decide_eq_false_iff_not, Int.not_lt, Int.not_le, beq_iff_eq] at *; omega) | exact rfl))) ?_ | refine AL.gmay2 rfl rfl rfl rfl rfl rfl (fun _ hb => by (try (apply AStepD.uncond 123 rfl (gpf hb))); exact (by first | exact AStepD.not rfl rfl | exact AStepD.neg rfl rfl (by first | exact IntWalk.i64_in _ (by omega) | exact IntWalk.i64_in _ (by simp only [Bool.or_eq_true, Bool.and_eq_true, Bool.or_eq_false_iff, Bool.and_eq_false_iff, Bool.not_eq_true', Bool.not_eq_false', decide_eq_true_eq, decide_eq_false_iff_not, Int.not_lt, Int.not_le, beq_iff_eq] at *; omega) | exact rfl))) ?_
      first | refine AL.gstep rfl rfl rfl rfl rfl rfl rfl qA16 ?_ | refine AL.gskip rfl rfl rfl rfl rfl rfl rfl ?_ | refine AL.gnone rfl rfl rfl rfl rfl ?_ | refine AL.gmay rfl rfl rfl rfl rfl rfl (fun hb => by (try (apply AStepD.uncond 124 rfl (gpf hb))); exact qA16) ?_ | refine AL.gmay2 rfl rfl rfl rfl rfl rfl (fun _ hb => by (try (apply AStepD.uncond 124 rfl (gpf hb))); exact qA16) ?_
      first | refine AL.gstep rfl rfl rfl rfl rfl rfl rfl qA16 ?_ | refine AL.gskip rfl rfl rfl rfl rfl rfl rfl ?_ | refine AL.gnone rfl rfl rfl rfl rfl ?_ | refine AL.gmay rfl rfl rfl rfl rfl rfl (fun hb => by (try (apply AStepD.uncond 17 rfl (gpf hb))); exact qA16) ?_ | refine AL.gmay2 rfl rfl rfl rfl rfl rfl (fun _ hb => by (try (apply AStepD.uncond 17 rfl (gpf hb))); exact qA16) ?_
      first | refine AL.gstep rfl rfl rfl rfl rfl rfl rfl qA16 ?_ | refine AL.gskip rfl rfl rfl rfl rfl rfl rfl ?_ | refine AL.gnone rfl rfl rfl rfl rfl ?_ | refine AL.gmay rfl rfl rfl rfl rfl rfl qG1 ?_ | refine AL.gmay2 rfl rfl rfl rfl rfl rfl qG2 ?_
      first | refine AL.gstep rfl rfl rfl rfl rfl rfl rfl qF8 ?_ | refine AL.gskip rfl rfl rfl rfl rfl rfl rfl ?_ | refine AL.gnone rfl rfl rfl rfl rfl ?_ | refine AL.gmay rfl rfl rfl rfl rfl rfl (fun hb => by (try (apply AStepD.uncond 127 rfl (gpf hb))); exact qF8) ?_ | refine AL.gmay2 rfl rfl rfl rfl rfl rfl (fun _ hb => by (try (apply AStepD.uncond 127 rfl (gpf hb))); exact qF8) ?_
      first | refine AL.gstep rfl rfl rfl rfl rfl rfl rfl qE3 ?_ | refine AL.gskip rfl rfl rfl rfl rfl rfl rfl ?_ | refine AL.gnone rfl rfl rfl rfl rfl ?_ | refine AL.gmay rfl rfl rfl rfl rfl rfl (fun hb => by (try (apply AStepD.uncond 126 rfl (gpf hb))); (try (apply AStepD.uncond 128 rfl (gpf hb))); exact qE3) ?_ | refine AL.gmay2 rfl rfl rfl rfl rfl rfl (fun _ hb => by (try (apply AStepD.uncond 126 rfl (gpf hb))); (try (apply AStepD.uncond 128 rfl (gpf hb))); exact qE3) ?_
      first | refine AL.gstep rfl rfl rfl rfl rfl rfl rfl qF9 ?_ | refine AL.gskip rfl rfl rfl rfl rfl rfl rfl ?_ | refine AL.gnone rfl rfl rfl rfl rfl ?_ | refine AL.gmay rfl rfl rfl rfl rfl rfl (fun hb => by (try (apply AStepD.uncond 125 rfl (gpf hb))); (try (apply AStepD.uncond 129 rfl (gpf hb))); exact qF9) ?_ | refine AL.gmay2 rfl rfl rfl rfl rfl rfl (fun _ hb => by (try (apply AStepD.uncond 125 rfl (gpf hb))); (try (apply AStepD.uncond 129 rfl (gpf hb))); exact qF9) ?_
      refine AL.step rfl rfl rfl qF9 ?_
      refine AL.step rfl rfl rfl qA13 ?_
      refine AL.nil_then (hK _ _ ?_); clear hK K
      refine AW.ret (RetQ.mk (.inr rfl) (retA_tmp rfl qA1 retA_nil) ?_)
      show AV.v (.bool _) = .v (.bool true)
      congr 2
      cases last
      · simp
      · simp [hcl rfl]
end Go.Proofs.Ytmjookofajlcoaa
