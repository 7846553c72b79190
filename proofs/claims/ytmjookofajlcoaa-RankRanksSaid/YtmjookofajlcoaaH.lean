/- The walks of the law's own words: right, ahead, the anchor. -/
import Derived.Test.YtmjookofajlcoaaG
namespace Go.Proofs.Ytmjookofajlcoaa
open Go.Ax
open Cel (c)
theorem qH1 {p : Prop} (h : p := by exact AStepD.alloc tok rfl rfl) : p := h
theorem qH2 {p : Prop} (h : p := by first | exact AStepD.build_seq tok rfl rfl rfl (by decide) (map_p qA1 (map_p qA1 map_n)) (show _ = 2 from rfl) rfl qB3 qA2 | exact AStepD.build_arr_seq tok rfl rfl rfl rfl (map_p qA1 (map_p qA1 map_n)) (show _ = 2 from rfl) rfl qB3 qA2 | exact AStepD.build tok rfl rfl rfl (by decide) rfl qA2) : p := h
set_option linter.unusedSimpArgs false
set_option linter.unusedVariables false

theorem lright_calls (H : AHeap) (l : List Rep) (hlen : l.length ≤ 8000000) : ACalls Try.prog 12 [vecA l] H (fun r H' => r = .v (.bool (rightB l)) ∧ H' = H) := by
  refine ACalls.quiet_keep ?_ (.v _)
  refine ACalls.of_body tok Try.func12 rfl Try.ntmps12 (Nat.le_of_ble_eq_true rfl) (fun base => ?_)
  refine AW.seq_region (fun K hK => ?_)
  refine AL.step rfl rfl rfl qA13 ?_
  refine AL.nil_then (hK _ _ ?_); clear hK K
  refine AW.seq_k (fun K1 hK1 => ?_)
  refine AW.seq_region (fun K hK => ?_)
  refine AL.step rfl rfl rfl qA16 ?_
  refine AL.step rfl rfl rfl qF8 ?_
  refine AL.step rfl rfl rfl qF3 ?_
  refine AL.nil_then (hK _ _ ?_); clear hK K
  refine AW.cond _ rfl (fun hc => ?_) (fun hc => ?_)
  · (try simp only [Bool.or_eq_true, Bool.and_eq_true, Bool.or_eq_false_iff, Bool.and_eq_false_iff, Bool.not_eq_true', Bool.not_eq_false', decide_eq_true_eq, decide_eq_false_iff_not, Int.not_lt, Int.not_le] at hc)
    refine AW.seq_region (fun K hK => ?_)
    refine AL.step rfl rfl rfl qA13 ?_
    refine AL.nil_then (hK _ _ ?_); clear hK K
    refine AW.ret (RetQ.mk (.inr rfl) (retA_tmp rfl qA1 retA_nil) ⟨?_, qE4⟩)
    rw [rightB, decide_eq_false (by omega : ¬ l.length ≤ 16), Bool.and_false]; rfl
  · (try simp only [Bool.or_eq_true, Bool.and_eq_true, Bool.or_eq_false_iff, Bool.and_eq_false_iff, Bool.not_eq_true', Bool.not_eq_false', decide_eq_true_eq, decide_eq_false_iff_not, Int.not_lt, Int.not_le] at hc)
    have h16 : l.length ≤ 16 := by omega
    refine AW.skip ?_
    refine hK1 _ _ ?_; try clear hK1 K1
    refine AW.seq_k (fun K2 hK2 => ?_)
    refine AW.seq_region (fun K hK => ?_)
    refine AL.step rfl rfl rfl qA16 ?_
    refine AL.step rfl rfl rfl qF8 ?_
    refine AL.step rfl rfl rfl qA16 ?_
    refine AL.nil_then (hK _ _ ?_); clear hK K
    refine AW.block ?_
    refine AW.loop_at (ι := Nat) (fun i => [(12, .v (.int .i64 (i : Nat))), (11, .v (.int .i64 (l.length : Nat))), (10, vecA l), (0, vecA l)])
      (fun i H' => i ≤ l.length ∧ Keep H H' ∧ (l.take i).all okR = true ∧ distB (l.take i) = true) (fun i => l.length - i) 0 qA17 ⟨Nat.zero_le _, qE4, rfl, rfl⟩ ?_
    rintro i H2 ⟨hi, hk, hok, hdi⟩
    have hkn := hk.1
    refine AW.lts fun hlt => ?_
    refine AW.seq_region (fun K hK => ?_)
    refine AL.step rfl rfl rfl qF2 ?_
    refine AL.nil_then (hK _ _ ?_); clear hK K
    refine AW.seq_k (fun K3 hK3 => ?_)
    refine AW.cond _ rfl (fun hc => ?_) (fun hc => ?_)
    · (try simp only [Bool.or_eq_true, Bool.and_eq_true, Bool.or_eq_false_iff, Bool.and_eq_false_iff, Bool.not_eq_true', Bool.not_eq_false', decide_eq_true_eq, decide_eq_false_iff_not, Int.not_lt, Int.not_le] at hc)
      have hil : i < l.length := by omega
      refine AW.skip ?_
      refine hK3 _ _ ?_; try clear hK3 K3
      refine AW.seq_k (fun K4 hK4 => ?_)
      refine AW.block ?_
      refine AW.seq_region (fun K hK => ?_)
      refine AL.step rfl rfl rfl qA16 ?_
      refine AL.step rfl rfl rfl qA18 ?_
      refine AL.step rfl rfl rfl qA20 ?_
      refine AL.step rfl rfl rfl qH1 ?_
      refine AL.step rfl rfl rfl qA13 ?_
      refine AL.step0 rfl rfl qB6 ?_
      refine AL.nil_then (hK _ _ ?_); clear hK K
      refine AW.seq_k (fun K5 hK5 => ?_)
      refine AW.seq_region (fun K hK => ?_)
      refine AL.step rfl rfl rfl qE7 ?_
      refine AL.step rfl rfl rfl qB2 ?_
      refine AL.step rfl rfl rfl qF2 ?_
      refine AL.step rfl rfl rfl qA16 ?_
      first | refine AL.gstep rfl rfl rfl rfl rfl rfl rfl qE7 ?_ | refine AL.gskip rfl rfl rfl rfl rfl rfl rfl ?_ | refine AL.gnone rfl rfl rfl rfl rfl ?_ | refine AL.gmay rfl rfl rfl rfl rfl rfl (fun hb => by (try (apply AStepD.uncond 4 rfl (gpf hb))); exact qE7) ?_ | refine AL.gmay2 rfl rfl rfl rfl rfl rfl (fun _ hb => by (try (apply AStepD.uncond 4 rfl (gpf hb))); exact qE7) ?_
      first | refine AL.gstep rfl rfl rfl rfl rfl rfl rfl qB2 ?_ | refine AL.gskip rfl rfl rfl rfl rfl rfl rfl ?_ | refine AL.gnone rfl rfl rfl rfl rfl ?_ | refine AL.gmay rfl rfl rfl rfl rfl rfl (fun hb => by (try (apply AStepD.uncond 21 rfl (gpf hb))); exact qB2) ?_ | refine AL.gmay2 rfl rfl rfl rfl rfl rfl (fun _ hb => by (try (apply AStepD.uncond 21 rfl (gpf hb))); exact qB2) ?_
      first | refine AL.gstep rfl rfl rfl rfl rfl rfl rfl qF3 ?_ | refine AL.gskip rfl rfl rfl rfl rfl rfl rfl ?_ | refine AL.gnone rfl rfl rfl rfl rfl ?_ | refine AL.gmay rfl rfl rfl rfl rfl rfl (fun hb => by (try (apply AStepD.uncond 22 rfl (gpf hb))); exact qF3) ?_ | refine AL.gmay2 rfl rfl rfl rfl rfl rfl (fun _ hb => by (try (apply AStepD.uncond 22 rfl (gpf hb))); exact qF3) ?_
      refine AL.step rfl rfl rfl qF9 ?_
      refine AL.step rfl rfl rfl qA16 ?_
      first | refine AL.gstep rfl rfl rfl rfl rfl rfl rfl qF10 ?_ | refine AL.gskip rfl rfl rfl rfl rfl rfl rfl ?_ | refine AL.gnone rfl rfl rfl rfl rfl ?_ | refine AL.gmay rfl rfl rfl rfl rfl rfl qF11 ?_ | refine AL.gmay2 rfl rfl rfl rfl rfl rfl qF12 ?_
      first | refine AL.gstep rfl rfl rfl rfl rfl rfl rfl qB2 ?_ | refine AL.gskip rfl rfl rfl rfl rfl rfl rfl ?_ | refine AL.gnone rfl rfl rfl rfl rfl ?_ | refine AL.gmay rfl rfl rfl rfl rfl rfl (fun hb => by (try (apply AStepD.uncond 26 rfl (gpf hb))); exact qB2) ?_ | refine AL.gmay2 rfl rfl rfl rfl rfl rfl (fun _ hb => by (try (apply AStepD.uncond 26 rfl (gpf hb))); exact qB2) ?_
      first | refine AL.gstep rfl rfl rfl rfl rfl rfl rfl qF2 ?_ | refine AL.gskip rfl rfl rfl rfl rfl rfl rfl ?_ | refine AL.gnone rfl rfl rfl rfl rfl ?_ | refine AL.gmay rfl rfl rfl rfl rfl rfl (fun hb => by (try (apply AStepD.uncond 27 rfl (gpf hb))); exact qF2) ?_ | refine AL.gmay2 rfl rfl rfl rfl rfl rfl (fun _ hb => by (try (apply AStepD.uncond 27 rfl (gpf hb))); exact qF2) ?_
      refine AL.step rfl rfl rfl qF9 ?_
      refine AL.step rfl rfl rfl qA16 ?_
      first | refine AL.gstep rfl rfl rfl rfl rfl rfl rfl qF10 ?_ | refine AL.gskip rfl rfl rfl rfl rfl rfl rfl ?_ | refine AL.gnone rfl rfl rfl rfl rfl ?_ | refine AL.gmay rfl rfl rfl rfl rfl rfl qF11 ?_ | refine AL.gmay2 rfl rfl rfl rfl rfl rfl qF12 ?_
      first | refine AL.gstep rfl rfl rfl rfl rfl rfl rfl qB2 ?_ | refine AL.gskip rfl rfl rfl rfl rfl rfl rfl ?_ | refine AL.gnone rfl rfl rfl rfl rfl ?_ | refine AL.gmay rfl rfl rfl rfl rfl rfl (fun hb => by (try (apply AStepD.uncond 31 rfl (gpf hb))); exact qB2) ?_ | refine AL.gmay2 rfl rfl rfl rfl rfl rfl (fun _ hb => by (try (apply AStepD.uncond 31 rfl (gpf hb))); exact qB2) ?_
      first | refine AL.gstep rfl rfl rfl rfl rfl rfl rfl qF3 ?_ | refine AL.gskip rfl rfl rfl rfl rfl rfl rfl ?_ | refine AL.gnone rfl rfl rfl rfl rfl ?_ | refine AL.gmay rfl rfl rfl rfl rfl rfl (fun hb => by (try (apply AStepD.uncond 32 rfl (gpf hb))); exact qF3) ?_ | refine AL.gmay2 rfl rfl rfl rfl rfl rfl (fun _ hb => by (try (apply AStepD.uncond 32 rfl (gpf hb))); exact qF3) ?_
      refine AL.step rfl rfl rfl qF9 ?_
      refine AL.nil_then (hK _ _ ?_); clear hK K
      refine AW.cond _ rfl (fun hc => ?_) (fun hc => ?_)
      · (try simp only [Bool.or_eq_true, Bool.and_eq_true, Bool.or_eq_false_iff, Bool.and_eq_false_iff, Bool.not_eq_true', Bool.not_eq_false', decide_eq_true_eq, decide_eq_false_iff_not, Int.not_lt, Int.not_le] at hc)
        have hno : okR l[i] = false := by simp only [okR, Bool.and_eq_false_iff, decide_eq_false_iff_not]; omega
        refine AW.seq_region (fun K hK => ?_)
        refine AL.step rfl rfl rfl qA13 ?_
        refine AL.nil_then (hK _ _ ?_); clear hK K
        refine AW.ret (RetQ.mk (.inr rfl) (retA_tmp rfl qA1 retA_nil) ⟨?_, qF6⟩)
        rw [rightB, not_all hil hno]; rfl
      · (try simp only [Bool.or_eq_true, Bool.and_eq_true, Bool.or_eq_false_iff, Bool.and_eq_false_iff, Bool.not_eq_true', Bool.not_eq_false', decide_eq_true_eq, decide_eq_false_iff_not, Int.not_lt, Int.not_le] at hc)
        have hyes : okR l[i] = true := by simp only [okR, Bool.and_eq_true, decide_eq_true_eq]; omega
        refine AW.skip ?_
        refine hK5 _ _ ?_; try clear hK5 K5
        have htl : (l.take i).length = i := by rw [List.length_take]; omega
        refine AW.seq_region (fun K hK => ?_)
        refine AL.step rfl rfl rfl qA16 ?_
        refine AL.step rfl rfl rfl qA16 ?_
        refine AL.step rfl rfl rfl qF7 ?_
        refine AL.step rfl rfl rfl qF8 ?_
        refine AL.step rfl rfl rfl qA16 ?_
        refine AL.nil_then (hK _ _ ?_); clear hK K
        refine AW.block ?_
        refine AW.loop_at (ι := Nat) (fun j => [(39, .v (.int .i64 (j : Nat))), (38, .v (.int .i64 ((l.take i).length : Nat))), (37, vecA (l.take i)), (12, .v (.int .i64 (i : Nat))), (11, .v (.int .i64 (l.length : Nat))), (10, vecA l), (4, .ptr H2.next 0), (0, vecA l)])
          (fun j H' => j ≤ i ∧ Keep H H' ∧ H2.next < H'.next ∧ H'.get H2.next = some (.cells 29 (c l[i])) ∧ ∀ q (hq : q < (l.take i).length), q < j → ¬ (l.take i)[q].id = l[i].id) (fun j => i - j) 0 qA17 ⟨Nat.zero_le _, qF6, qA12, qA14, fun _ _ h => by omega⟩ ?_
        rintro j H3 ⟨hj, hk3, hn3, hX, hne⟩
        refine AW.lts fun hlt3 => ?_
        refine AW.seq_region (fun K hK => ?_)
        refine AL.step rfl rfl rfl qF2 ?_
        refine AL.nil_then (hK _ _ ?_); clear hK K
        refine AW.seq_k (fun K6 hK6 => ?_)
        refine AW.cond _ rfl (fun hc => ?_) (fun hc => ?_)
        · (try simp only [Bool.or_eq_true, Bool.and_eq_true, Bool.or_eq_false_iff, Bool.and_eq_false_iff, Bool.not_eq_true', Bool.not_eq_false', decide_eq_true_eq, decide_eq_false_iff_not, Int.not_lt, Int.not_le] at hc)
          have hji : j < (l.take i).length := by omega
          refine AW.skip ?_
          refine hK6 _ _ ?_; try clear hK6 K6
          refine AW.seq_k (fun K7 hK7 => ?_)
          refine AW.block ?_
          refine AW.seq_region (fun K hK => ?_)
          refine AL.step rfl rfl rfl qA18 ?_
          refine AL.step rfl rfl rfl qA20 ?_
          refine AL.step rfl rfl rfl qH1 ?_
          refine AL.step0 rfl rfl qB6 ?_
          refine AL.nil_then (hK _ _ ?_); clear hK K
          refine AW.seq_region (fun K hK => ?_)
          refine AL.step rfl rfl rfl qE7 ?_
          refine AL.step rfl rfl rfl qB2 ?_
          refine AL.step rfl rfl rfl qE7 ?_
          refine AL.step rfl rfl rfl qB2 ?_
          refine AL.step rfl rfl rfl qE3 ?_
          refine AL.nil_then (hK _ _ ?_); clear hK K
          refine AW.cond _ rfl (fun hc => ?_) (fun hc => ?_)
          · (try simp only [Bool.or_eq_true, Bool.and_eq_true, Bool.or_eq_false_iff, Bool.and_eq_false_iff, Bool.not_eq_true', Bool.not_eq_false', decide_eq_true_eq, decide_eq_false_iff_not, Int.not_lt, Int.not_le] at hc)
            refine AW.seq_region (fun K hK => ?_)
            refine AL.step rfl rfl rfl qA13 ?_
            refine AL.nil_then (hK _ _ ?_); clear hK K
            refine AW.ret (RetQ.mk (.inr rfl) (retA_tmp rfl qA1 retA_nil) ⟨?_, qF6⟩)
            rw [rightB, not_dist hil (List.any_eq_true.2 ⟨_, List.getElem_mem hji, by simpa using hc⟩), Bool.and_false]; rfl
          · (try simp only [Bool.or_eq_true, Bool.and_eq_true, Bool.or_eq_false_iff, Bool.and_eq_false_iff, Bool.not_eq_true', Bool.not_eq_false', decide_eq_true_eq, decide_eq_false_iff_not, Int.not_lt, Int.not_le] at hc)
            refine AW.skip ?_
            refine hK7 _ _ ?_; try clear hK7 K7
            refine AW.region ?_
            refine AL.step rfl rfl rfl (by first | exact AStepD.add rfl rfl rfl (by first | exact IntWalk.i64_in _ (by omega) | exact IntWalk.i64_in _ (by simp only [Bool.or_eq_true, Bool.and_eq_true, Bool.or_eq_false_iff, Bool.and_eq_false_iff, Bool.not_eq_true', Bool.not_eq_false', decide_eq_true_eq, decide_eq_false_iff_not, Int.not_lt, Int.not_le, beq_iff_eq] at *; omega) | exact rfl) | exact AStepD.str_add rfl rfl rfl (by omega)) ?_
            refine AL.step rfl rfl rfl qA16 ?_
            refine AL.nil ?_
            refine ⟨j + 1, by omega, qA17, by omega, qF6, qA12, qA14, fun q hq hqj => ?_⟩
            rcases Nat.lt_succ_iff_lt_or_eq.1 hqj with h | rfl
            · exact hne q hq h
            · exact hc
        · (try simp only [Bool.or_eq_true, Bool.and_eq_true, Bool.or_eq_false_iff, Bool.and_eq_false_iff, Bool.not_eq_true', Bool.not_eq_false', decide_eq_true_eq, decide_eq_false_iff_not, Int.not_lt, Int.not_le] at hc)
          have hji : j = i := by omega
          refine AW.exit ?_
          refine hK4 _ _ ?_; try clear hK4 K4
          refine AW.region ?_
          refine AL.step rfl rfl rfl (by first | exact AStepD.add rfl rfl rfl (by first | exact IntWalk.i64_in _ (by omega) | exact IntWalk.i64_in _ (by simp only [Bool.or_eq_true, Bool.and_eq_true, Bool.or_eq_false_iff, Bool.and_eq_false_iff, Bool.not_eq_true', Bool.not_eq_false', decide_eq_true_eq, decide_eq_false_iff_not, Int.not_lt, Int.not_le, beq_iff_eq] at *; omega) | exact rfl) | exact AStepD.str_add rfl rfl rfl (by omega)) ?_
          refine AL.step rfl rfl rfl qA16 ?_
          refine AL.nil ?_
          refine ⟨i + 1, by omega, qA17, hil, hk3, ?_, ?_⟩
          · rw [all_next l i hil, hok, hyes]; rfl
          · rw [distB_next l i hil, hdi]
            simp only [Bool.true_and, Bool.not_eq_true', ← Bool.not_eq_true, List.any_eq_true, decide_eq_true_eq, not_exists, not_and]
            intro x hx
            obtain ⟨q, hq, rfl⟩ := List.mem_iff_getElem.1 hx
            exact hne q hq (by omega)
    · (try simp only [Bool.or_eq_true, Bool.and_eq_true, Bool.or_eq_false_iff, Bool.and_eq_false_iff, Bool.not_eq_true', Bool.not_eq_false', decide_eq_true_eq, decide_eq_false_iff_not, Int.not_lt, Int.not_le] at hc)
      have hil : i = l.length := by omega
      rw [hil, List.take_length] at hok hdi
      refine AW.exit ?_
      refine hK2 _ _ ?_; try clear hK2 K2
      refine AW.seq_region (fun K hK => ?_)
      refine AL.step rfl rfl rfl qA13 ?_
      refine AL.nil_then (hK _ _ ?_); clear hK K
      refine AW.ret (RetQ.mk (.inr rfl) (retA_tmp rfl qA1 retA_nil) ⟨?_, hk⟩)
      rw [rightB, hok, hdi, decide_eq_true h16]; rfl

theorem ahead_calls (H : AHeap) (a b : Rep) : ACalls Try.prog 13 [.agg (c a), .agg (c b)] H (fun r H' => r = .v (.bool (ahead a b)) ∧ H' = H) := by
  refine ACalls.quiet_keep ?_ (.v _)
  refine ACalls.lts fun hlt => ?_
  refine ACalls.of_body tok Try.func13 rfl Try.ntmps13 (Nat.le_of_ble_eq_true rfl) (fun base => ?_)
  refine AW.seq_region (fun K hK => ?_)
  refine AL.step rfl rfl rfl qE5 ?_
  refine AL.step rfl rfl rfl qE5 ?_
  refine AL.step rfl rfl rfl qA13 ?_
  refine AL.nil_then (hK _ _ ?_); clear hK K
  refine AW.seq_region (fun K hK => ?_)
  refine AL.step rfl rfl rfl qF10 ?_
  refine AL.step rfl rfl rfl qB2 ?_
  refine AL.step rfl rfl rfl qF10 ?_
  refine AL.step rfl rfl rfl qB2 ?_
  refine AL.step rfl rfl rfl qF3 ?_
  refine AL.step rfl rfl rfl qA16 ?_
  first | refine AL.gstep rfl rfl rfl rfl rfl rfl rfl qF10 ?_ | refine AL.gskip rfl rfl rfl rfl rfl rfl rfl ?_ | refine AL.gnone rfl rfl rfl rfl rfl ?_ | refine AL.gmay rfl rfl rfl rfl rfl rfl (fun hb => by (try (apply AStepD.uncond 2 rfl (gpf hb))); exact qF10) ?_ | refine AL.gmay2 rfl rfl rfl rfl rfl rfl (fun _ hb => by (try (apply AStepD.uncond 2 rfl (gpf hb))); exact qF10) ?_
  first | refine AL.gstep rfl rfl rfl rfl rfl rfl rfl qB2 ?_ | refine AL.gskip rfl rfl rfl rfl rfl rfl rfl ?_ | refine AL.gnone rfl rfl rfl rfl rfl ?_ | refine AL.gmay rfl rfl rfl rfl rfl rfl (fun hb => by (try (apply AStepD.uncond 11 rfl (gpf hb))); exact qB2) ?_ | refine AL.gmay2 rfl rfl rfl rfl rfl rfl (fun _ hb => by (try (apply AStepD.uncond 11 rfl (gpf hb))); exact qB2) ?_
  first | refine AL.gstep rfl rfl rfl rfl rfl rfl rfl qF10 ?_ | refine AL.gskip rfl rfl rfl rfl rfl rfl rfl ?_ | refine AL.gnone rfl rfl rfl rfl rfl ?_ | refine AL.gmay rfl rfl rfl rfl rfl rfl (fun hb => by (try (apply AStepD.uncond 3 rfl (gpf hb))); exact qF10) ?_ | refine AL.gmay2 rfl rfl rfl rfl rfl rfl (fun _ hb => by (try (apply AStepD.uncond 3 rfl (gpf hb))); exact qF10) ?_
  first | refine AL.gstep rfl rfl rfl rfl rfl rfl rfl qB2 ?_ | refine AL.gskip rfl rfl rfl rfl rfl rfl rfl ?_ | refine AL.gnone rfl rfl rfl rfl rfl ?_ | refine AL.gmay rfl rfl rfl rfl rfl rfl (fun hb => by (try (apply AStepD.uncond 13 rfl (gpf hb))); exact qB2) ?_ | refine AL.gmay2 rfl rfl rfl rfl rfl rfl (fun _ hb => by (try (apply AStepD.uncond 13 rfl (gpf hb))); exact qB2) ?_
  first | refine AL.gstep rfl rfl rfl rfl rfl rfl rfl qE3 ?_ | refine AL.gskip rfl rfl rfl rfl rfl rfl rfl ?_ | refine AL.gnone rfl rfl rfl rfl rfl ?_ | refine AL.gmay rfl rfl rfl rfl rfl rfl (fun hb => by (try (apply AStepD.uncond 12 rfl (gpf hb))); (try (apply AStepD.uncond 14 rfl (gpf hb))); exact qE3) ?_ | refine AL.gmay2 rfl rfl rfl rfl rfl rfl (fun _ hb => by (try (apply AStepD.uncond 12 rfl (gpf hb))); (try (apply AStepD.uncond 14 rfl (gpf hb))); exact qE3) ?_
  first | refine AL.gstep rfl rfl rfl rfl rfl rfl rfl qA16 ?_ | refine AL.gskip rfl rfl rfl rfl rfl rfl rfl ?_ | refine AL.gnone rfl rfl rfl rfl rfl ?_ | refine AL.gmay rfl rfl rfl rfl rfl rfl (fun hb => by (try (apply AStepD.uncond 15 rfl (gpf hb))); exact qA16) ?_ | refine AL.gmay2 rfl rfl rfl rfl rfl rfl (fun _ hb => by (try (apply AStepD.uncond 15 rfl (gpf hb))); exact qA16) ?_
  first | refine AL.gstep rfl rfl rfl rfl rfl rfl rfl qE7 ?_ | refine AL.gskip rfl rfl rfl rfl rfl rfl rfl ?_ | refine AL.gnone rfl rfl rfl rfl rfl ?_ | refine AL.gmay rfl rfl rfl rfl rfl rfl (fun hb => by (try (apply AStepD.uncond 2 rfl (gpf hb))); exact qE7) ?_ | refine AL.gmay2 rfl rfl rfl rfl rfl rfl (fun _ hb => by (try (apply AStepD.uncond 2 rfl (gpf hb))); exact qE7) ?_
  first | refine AL.gstep rfl rfl rfl rfl rfl rfl rfl qB2 ?_ | refine AL.gskip rfl rfl rfl rfl rfl rfl rfl ?_ | refine AL.gnone rfl rfl rfl rfl rfl ?_ | refine AL.gmay rfl rfl rfl rfl rfl rfl (fun hb => by (try (apply AStepD.uncond 17 rfl (gpf hb))); exact qB2) ?_ | refine AL.gmay2 rfl rfl rfl rfl rfl rfl (fun _ hb => by (try (apply AStepD.uncond 17 rfl (gpf hb))); exact qB2) ?_
  first | refine AL.gstep rfl rfl rfl rfl rfl rfl rfl qE7 ?_ | refine AL.gskip rfl rfl rfl rfl rfl rfl rfl ?_ | refine AL.gnone rfl rfl rfl rfl rfl ?_ | refine AL.gmay rfl rfl rfl rfl rfl rfl (fun hb => by (try (apply AStepD.uncond 3 rfl (gpf hb))); exact qE7) ?_ | refine AL.gmay2 rfl rfl rfl rfl rfl rfl (fun _ hb => by (try (apply AStepD.uncond 3 rfl (gpf hb))); exact qE7) ?_
  first | refine AL.gstep rfl rfl rfl rfl rfl rfl rfl qB2 ?_ | refine AL.gskip rfl rfl rfl rfl rfl rfl rfl ?_ | refine AL.gnone rfl rfl rfl rfl rfl ?_ | refine AL.gmay rfl rfl rfl rfl rfl rfl (fun hb => by (try (apply AStepD.uncond 19 rfl (gpf hb))); exact qB2) ?_ | refine AL.gmay2 rfl rfl rfl rfl rfl rfl (fun _ hb => by (try (apply AStepD.uncond 19 rfl (gpf hb))); exact qB2) ?_
  first | refine AL.gstep rfl rfl rfl rfl rfl rfl rfl qF2 ?_ | refine AL.gskip rfl rfl rfl rfl rfl rfl rfl ?_ | refine AL.gnone rfl rfl rfl rfl rfl ?_ | refine AL.gmay rfl rfl rfl rfl rfl rfl (fun hb => by (try (apply AStepD.uncond 18 rfl (gpf hb))); (try (apply AStepD.uncond 20 rfl (gpf hb))); exact qF2) ?_ | refine AL.gmay2 rfl rfl rfl rfl rfl rfl (fun _ hb => by (try (apply AStepD.uncond 18 rfl (gpf hb))); (try (apply AStepD.uncond 20 rfl (gpf hb))); exact qF2) ?_
  first | refine AL.gstep rfl rfl rfl rfl rfl rfl rfl qF9 ?_ | refine AL.gskip rfl rfl rfl rfl rfl rfl rfl ?_ | refine AL.gnone rfl rfl rfl rfl rfl ?_ | refine AL.gmay rfl rfl rfl rfl rfl rfl (fun hb => by (try (apply AStepD.uncond 16 rfl (gpf hb))); (try (apply AStepD.uncond 21 rfl (gpf hb))); exact qF9) ?_ | refine AL.gmay2 rfl rfl rfl rfl rfl rfl (fun _ hb => by (try (apply AStepD.uncond 16 rfl (gpf hb))); (try (apply AStepD.uncond 21 rfl (gpf hb))); exact qF9) ?_
  refine AL.step rfl rfl rfl qF9 ?_
  refine AL.step rfl rfl rfl qA13 ?_
  refine AL.nil_then (hK _ _ ?_); clear hK K
  refine AW.ret (RetQ.mk (.inr rfl) (retA_tmp rfl qA1 retA_nil) ⟨rfl, qE4⟩)

theorem anchor_calls (H : AHeap) : ACalls Try.prog 10 [] H (fun r H' => r = .v (.bool true) ∧ H' = H) := by
  refine ACalls.quiet_keep ?_ (.v _)
  have h1 : orderS [⟨3, 50⟩, ⟨1, 20⟩, ⟨2, 50⟩] = [⟨2, 50⟩, ⟨3, 50⟩, ⟨1, 20⟩] := rfl
  have h2 : errS [⟨3, 50⟩, ⟨1, 20⟩, ⟨2, 50⟩] = 0 := rfl
  refine ACalls.of_body tok Try.func10 rfl Try.ntmps10 (Nat.le_of_ble_eq_true rfl) (fun base => ?_)
  refine AW.seq_region (fun K hK => ?_)
  refine AL.step rfl rfl rfl qA13 ?_
  refine AL.nil_then (hK _ _ ?_); clear hK K
  refine AW.seq_region (fun K hK => ?_)
  refine AL.step rfl rfl rfl qH2 ?_
  refine AL.step rfl rfl rfl qH2 ?_
  refine AL.step rfl rfl rfl qH2 ?_
  refine AL.step rfl rfl rfl (by exact AStepD.vec_flat (l := ([⟨3, 50⟩, ⟨1, 20⟩, ⟨2, 50⟩] : List Rep)) (AStepD.buildSlice_seq tok rfl rfl rfl rfl (show _ = 2 from rfl) (map_p qA1 (map_p qA1 (map_p qA1 map_n))) rfl (by decide) (by decide) rfl qB3 qA2) rfl rfl rfl) ?_
  refine AL.step rfl rfl rfl (by exact AStepD.callf rfl en11 rfl (order_calls _ [⟨3, 50⟩, ⟨1, 20⟩, ⟨2, 50⟩] (by simp))) ?_
  refine AL.step rfl rfl rfl qA16 ?_
  refine AL.step rfl rfl rfl qG7 ?_
  refine AL.step rfl rfl rfl qG7 ?_
  refine AL.step rfl rfl rfl qA13 ?_
  refine AL.step rfl rfl rfl qA13 ?_
  refine AL.nil_then (hK _ _ ?_); clear hK K
  rw [h1, h2]
  refine AW.seq_region (fun K hK => ?_)
  refine AL.step rfl rfl rfl (by exact AStepD.callf rfl en14 rfl (delay_calls _ _ _)) ?_
  refine AL.step rfl rfl rfl qA16 ?_
  refine AL.step rfl rfl rfl qG7 ?_
  refine AL.step rfl rfl rfl qG7 ?_
  refine AL.step rfl rfl rfl qA13 ?_
  refine AL.step rfl rfl rfl qA13 ?_
  refine AL.nil_then (hK _ _ ?_); clear hK K
  refine AW.seq_region (fun K hK => ?_)
  refine AL.step rfl rfl rfl qA16 ?_
  refine AL.step rfl rfl rfl qE3 ?_
  refine AL.step rfl rfl rfl qA16 ?_
  first | refine AL.gstep rfl rfl rfl rfl rfl rfl rfl qA16 ?_ | refine AL.gskip rfl rfl rfl rfl rfl rfl rfl ?_ | refine AL.gnone rfl rfl rfl rfl rfl ?_ | refine AL.gmay rfl rfl rfl rfl rfl rfl qG4 ?_ | refine AL.gmay2 rfl rfl rfl rfl rfl rfl qG5 ?_
  first | refine AL.gstep rfl rfl rfl rfl rfl rfl rfl qF8 ?_ | refine AL.gskip rfl rfl rfl rfl rfl rfl rfl ?_ | refine AL.gnone rfl rfl rfl rfl rfl ?_ | refine AL.gmay rfl rfl rfl rfl rfl rfl (fun hb => by (try (apply AStepD.uncond 20 rfl (gpf hb))); exact qF8) ?_ | refine AL.gmay2 rfl rfl rfl rfl rfl rfl (fun _ hb => by (try (apply AStepD.uncond 20 rfl (gpf hb))); exact qF8) ?_
  first | refine AL.gstep rfl rfl rfl rfl rfl rfl rfl qE3 ?_ | refine AL.gskip rfl rfl rfl rfl rfl rfl rfl ?_ | refine AL.gnone rfl rfl rfl rfl rfl ?_ | refine AL.gmay rfl rfl rfl rfl rfl rfl (fun hb => by (try (apply AStepD.uncond 21 rfl (gpf hb))); exact qE3) ?_ | refine AL.gmay2 rfl rfl rfl rfl rfl rfl (fun _ hb => by (try (apply AStepD.uncond 21 rfl (gpf hb))); exact qE3) ?_
  refine AL.step rfl rfl rfl qF9 ?_
  refine AL.step rfl rfl rfl qA16 ?_
  first | refine AL.gstep rfl rfl rfl rfl rfl rfl rfl qA16 ?_ | refine AL.gskip rfl rfl rfl rfl rfl rfl rfl ?_ | refine AL.gnone rfl rfl rfl rfl rfl ?_ | refine AL.gmay rfl rfl rfl rfl rfl rfl qG4 ?_ | refine AL.gmay2 rfl rfl rfl rfl rfl rfl qG5 ?_
  first | refine AL.gstep rfl rfl rfl rfl rfl rfl rfl qA18 ?_ | refine AL.gskip rfl rfl rfl rfl rfl rfl rfl ?_ | refine AL.gnone rfl rfl rfl rfl rfl ?_ | refine AL.gmay rfl rfl rfl rfl rfl rfl (fun hb => by (try (apply AStepD.uncond 25 rfl (gpf hb))); exact qA18) ?_ | refine AL.gmay2 rfl rfl rfl rfl rfl rfl (fun _ hb => by (try (apply AStepD.uncond 25 rfl (gpf hb))); exact qA18) ?_
  first | refine AL.gstep rfl rfl rfl rfl rfl rfl rfl qE7 ?_ | refine AL.gskip rfl rfl rfl rfl rfl rfl rfl ?_ | refine AL.gnone rfl rfl rfl rfl rfl ?_ | refine AL.gmay rfl rfl rfl rfl rfl rfl (fun hb => by (try (apply AStepD.uncond 26 rfl (gpf hb))); exact qE7) ?_ | refine AL.gmay2 rfl rfl rfl rfl rfl rfl (fun _ hb => by (try (apply AStepD.uncond 26 rfl (gpf hb))); exact qE7) ?_
  first | refine AL.gstep rfl rfl rfl rfl rfl rfl rfl qB2 ?_ | refine AL.gskip rfl rfl rfl rfl rfl rfl rfl ?_ | refine AL.gnone rfl rfl rfl rfl rfl ?_ | refine AL.gmay rfl rfl rfl rfl rfl rfl (fun hb => by (try (apply AStepD.uncond 27 rfl (gpf hb))); exact qB2) ?_ | refine AL.gmay2 rfl rfl rfl rfl rfl rfl (fun _ hb => by (try (apply AStepD.uncond 27 rfl (gpf hb))); exact qB2) ?_
  first | refine AL.gstep rfl rfl rfl rfl rfl rfl rfl qE3 ?_ | refine AL.gskip rfl rfl rfl rfl rfl rfl rfl ?_ | refine AL.gnone rfl rfl rfl rfl rfl ?_ | refine AL.gmay rfl rfl rfl rfl rfl rfl (fun hb => by (try (apply AStepD.uncond 28 rfl (gpf hb))); exact qE3) ?_ | refine AL.gmay2 rfl rfl rfl rfl rfl rfl (fun _ hb => by (try (apply AStepD.uncond 28 rfl (gpf hb))); exact qE3) ?_
  refine AL.step rfl rfl rfl qF9 ?_
  refine AL.step rfl rfl rfl qA16 ?_
  first | refine AL.gstep rfl rfl rfl rfl rfl rfl rfl qA16 ?_ | refine AL.gskip rfl rfl rfl rfl rfl rfl rfl ?_ | refine AL.gnone rfl rfl rfl rfl rfl ?_ | refine AL.gmay rfl rfl rfl rfl rfl rfl qG4 ?_ | refine AL.gmay2 rfl rfl rfl rfl rfl rfl qG5 ?_
  first | refine AL.gstep rfl rfl rfl rfl rfl rfl rfl qA18 ?_ | refine AL.gskip rfl rfl rfl rfl rfl rfl rfl ?_ | refine AL.gnone rfl rfl rfl rfl rfl ?_ | refine AL.gmay rfl rfl rfl rfl rfl rfl (fun hb => by (try (apply AStepD.uncond 32 rfl (gpf hb))); exact qA18) ?_ | refine AL.gmay2 rfl rfl rfl rfl rfl rfl (fun _ hb => by (try (apply AStepD.uncond 32 rfl (gpf hb))); exact qA18) ?_
  first | refine AL.gstep rfl rfl rfl rfl rfl rfl rfl qE7 ?_ | refine AL.gskip rfl rfl rfl rfl rfl rfl rfl ?_ | refine AL.gnone rfl rfl rfl rfl rfl ?_ | refine AL.gmay rfl rfl rfl rfl rfl rfl (fun hb => by (try (apply AStepD.uncond 33 rfl (gpf hb))); exact qE7) ?_ | refine AL.gmay2 rfl rfl rfl rfl rfl rfl (fun _ hb => by (try (apply AStepD.uncond 33 rfl (gpf hb))); exact qE7) ?_
  first | refine AL.gstep rfl rfl rfl rfl rfl rfl rfl qB2 ?_ | refine AL.gskip rfl rfl rfl rfl rfl rfl rfl ?_ | refine AL.gnone rfl rfl rfl rfl rfl ?_ | refine AL.gmay rfl rfl rfl rfl rfl rfl (fun hb => by (try (apply AStepD.uncond 34 rfl (gpf hb))); exact qB2) ?_ | refine AL.gmay2 rfl rfl rfl rfl rfl rfl (fun _ hb => by (try (apply AStepD.uncond 34 rfl (gpf hb))); exact qB2) ?_
  first | refine AL.gstep rfl rfl rfl rfl rfl rfl rfl qE3 ?_ | refine AL.gskip rfl rfl rfl rfl rfl rfl rfl ?_ | refine AL.gnone rfl rfl rfl rfl rfl ?_ | refine AL.gmay rfl rfl rfl rfl rfl rfl (fun hb => by (try (apply AStepD.uncond 35 rfl (gpf hb))); exact qE3) ?_ | refine AL.gmay2 rfl rfl rfl rfl rfl rfl (fun _ hb => by (try (apply AStepD.uncond 35 rfl (gpf hb))); exact qE3) ?_
  refine AL.step rfl rfl rfl qF9 ?_
  refine AL.step rfl rfl rfl qA16 ?_
  first | refine AL.gstep rfl rfl rfl rfl rfl rfl rfl qA16 ?_ | refine AL.gskip rfl rfl rfl rfl rfl rfl rfl ?_ | refine AL.gnone rfl rfl rfl rfl rfl ?_ | refine AL.gmay rfl rfl rfl rfl rfl rfl qG4 ?_ | refine AL.gmay2 rfl rfl rfl rfl rfl rfl qG5 ?_
  first | refine AL.gstep rfl rfl rfl rfl rfl rfl rfl qA18 ?_ | refine AL.gskip rfl rfl rfl rfl rfl rfl rfl ?_ | refine AL.gnone rfl rfl rfl rfl rfl ?_ | refine AL.gmay rfl rfl rfl rfl rfl rfl (fun hb => by (try (apply AStepD.uncond 39 rfl (gpf hb))); exact qA18) ?_ | refine AL.gmay2 rfl rfl rfl rfl rfl rfl (fun _ hb => by (try (apply AStepD.uncond 39 rfl (gpf hb))); exact qA18) ?_
  first | refine AL.gstep rfl rfl rfl rfl rfl rfl rfl qE7 ?_ | refine AL.gskip rfl rfl rfl rfl rfl rfl rfl ?_ | refine AL.gnone rfl rfl rfl rfl rfl ?_ | refine AL.gmay rfl rfl rfl rfl rfl rfl (fun hb => by (try (apply AStepD.uncond 40 rfl (gpf hb))); exact qE7) ?_ | refine AL.gmay2 rfl rfl rfl rfl rfl rfl (fun _ hb => by (try (apply AStepD.uncond 40 rfl (gpf hb))); exact qE7) ?_
  first | refine AL.gstep rfl rfl rfl rfl rfl rfl rfl qB2 ?_ | refine AL.gskip rfl rfl rfl rfl rfl rfl rfl ?_ | refine AL.gnone rfl rfl rfl rfl rfl ?_ | refine AL.gmay rfl rfl rfl rfl rfl rfl (fun hb => by (try (apply AStepD.uncond 41 rfl (gpf hb))); exact qB2) ?_ | refine AL.gmay2 rfl rfl rfl rfl rfl rfl (fun _ hb => by (try (apply AStepD.uncond 41 rfl (gpf hb))); exact qB2) ?_
  first | refine AL.gstep rfl rfl rfl rfl rfl rfl rfl qE3 ?_ | refine AL.gskip rfl rfl rfl rfl rfl rfl rfl ?_ | refine AL.gnone rfl rfl rfl rfl rfl ?_ | refine AL.gmay rfl rfl rfl rfl rfl rfl (fun hb => by (try (apply AStepD.uncond 42 rfl (gpf hb))); exact qE3) ?_ | refine AL.gmay2 rfl rfl rfl rfl rfl rfl (fun _ hb => by (try (apply AStepD.uncond 42 rfl (gpf hb))); exact qE3) ?_
  refine AL.step rfl rfl rfl qF9 ?_
  refine AL.step rfl rfl rfl qA16 ?_
  first | refine AL.gstep rfl rfl rfl rfl rfl rfl rfl qA16 ?_ | refine AL.gskip rfl rfl rfl rfl rfl rfl rfl ?_ | refine AL.gnone rfl rfl rfl rfl rfl ?_ | refine AL.gmay rfl rfl rfl rfl rfl rfl (fun hb => by (try (apply AStepD.uncond 4 rfl (gpf hb))); exact qA16) ?_ | refine AL.gmay2 rfl rfl rfl rfl rfl rfl (fun _ hb => by (try (apply AStepD.uncond 4 rfl (gpf hb))); exact qA16) ?_
  first | refine AL.gstep rfl rfl rfl rfl rfl rfl rfl qE3 ?_ | refine AL.gskip rfl rfl rfl rfl rfl rfl rfl ?_ | refine AL.gnone rfl rfl rfl rfl rfl ?_ | refine AL.gmay rfl rfl rfl rfl rfl rfl (fun hb => by (try (apply AStepD.uncond 46 rfl (gpf hb))); exact qE3) ?_ | refine AL.gmay2 rfl rfl rfl rfl rfl rfl (fun _ hb => by (try (apply AStepD.uncond 46 rfl (gpf hb))); exact qE3) ?_
  refine AL.step rfl rfl rfl qF9 ?_
  refine AL.step rfl rfl rfl qA16 ?_
  first | refine AL.gstep rfl rfl rfl rfl rfl rfl rfl qA16 ?_ | refine AL.gskip rfl rfl rfl rfl rfl rfl rfl ?_ | refine AL.gnone rfl rfl rfl rfl rfl ?_ | refine AL.gmay rfl rfl rfl rfl rfl rfl (fun hb => by (try (apply AStepD.uncond 3 rfl (gpf hb))); exact qA16) ?_ | refine AL.gmay2 rfl rfl rfl rfl rfl rfl (fun _ hb => by (try (apply AStepD.uncond 3 rfl (gpf hb))); exact qA16) ?_
  first | refine AL.gstep rfl rfl rfl rfl rfl rfl rfl qE3 ?_ | refine AL.gskip rfl rfl rfl rfl rfl rfl rfl ?_ | refine AL.gnone rfl rfl rfl rfl rfl ?_ | refine AL.gmay rfl rfl rfl rfl rfl rfl (fun hb => by (try (apply AStepD.uncond 50 rfl (gpf hb))); exact qE3) ?_ | refine AL.gmay2 rfl rfl rfl rfl rfl rfl (fun _ hb => by (try (apply AStepD.uncond 50 rfl (gpf hb))); exact qE3) ?_
  refine AL.step rfl rfl rfl qF9 ?_
  refine AL.step rfl rfl rfl qA13 ?_
  refine AL.nil_then (hK _ _ ?_); clear hK K
  refine AW.ret (RetQ.mk (.inr rfl) (retA_tmp rfl qA1 retA_nil) ⟨rfl, qE4⟩)
end Go.Proofs.Ytmjookofajlcoaa
