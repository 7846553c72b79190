/- The law RankRanks. -/
import Derived.Test.YtmjookofajlcoaaJ
namespace Go.Proofs.Ytmjookofajlcoaa
open Go.Ax
open Cel (c)
theorem qM1 {p : Prop} (h : p := by exact (fun hb => by (try (apply AStepD.uncond 5 rfl (gpf hb))); exact qA16)) : p := h
theorem qM2 {p : Prop} (h : p := by exact (fun _ hb => by (try (apply AStepD.uncond 5 rfl (gpf hb))); exact qA16)) : p := h
set_option linter.unusedSimpArgs false
set_option linter.unusedVariables false

/-- A replica's rank is how many stand ahead of it. -/
theorem rank_in {l : List Rep} (hr : rightB l = true) {r : Rep} (hm : r ∈ l) : rankS l r.id = (l.countP fun x => ahead x r : Nat) ∧ rankE l r.id = 0 := by
  have hst := ord_strict hr
  have hds := ord_dist hr
  have hpm := ord_perm l
  have hcp : l.countP (fun x => ahead x r) = (ordR l).countP fun x => ahead x r := (hpm.countP_eq _).symm
  simp only [rankS, rankE, if_pos hr, hcp]
  generalize ordR l = o at hst hds hpm ⊢
  obtain ⟨i, hi, rfl⟩ := List.mem_iff_getElem.1 (hpm.mem_iff.2 hm)
  have hidx : idxF (fun r => decide (r.id = o[i].id)) o = i := idxF_at hi (by simp) fun j hj => by
    have := List.pairwise_iff_getElem.1 hds j i (by omega) hi hj
    simpa using this
  have hcnt : o.countP (fun x => ahead x o[i]) = i := by
    have e : o = o.take i ++ o[i] :: o.drop (i + 1) := by rw [← List.drop_eq_getElem_cons hi, List.take_append_drop]
    have h1 : (o.take i).countP (fun x => ahead x o[i]) = i := by
      have : (o.take i).countP (fun x => ahead x o[i]) = (o.take i).length := List.countP_eq_length.2 fun x hx => by
        obtain ⟨j, hj, rfl⟩ := List.mem_iff_getElem.1 hx
        rw [List.length_take] at hj
        rw [List.getElem_take]
        exact List.pairwise_iff_getElem.1 hst j i (by omega) hi (by omega)
      rw [this, List.length_take]; omega
    have h2 : (o[i] :: o.drop (i + 1)).countP (fun x => ahead x o[i]) = 0 := List.countP_eq_zero.2 fun x hx => by
      rcases List.mem_cons.1 hx with rfl | hx
      · simp [ahead]
      · obtain ⟨j, hj, rfl⟩ := List.mem_iff_getElem.1 hx
        rw [List.length_drop] at hj
        rw [List.getElem_drop]
        have := List.pairwise_iff_getElem.1 hst i (i + 1 + j) hi (by omega) (by omega)
        rw [ahead_iff] at this
        rw [Bool.not_eq_true, ahead_no]
        omega
    calc o.countP (fun x => ahead x o[i]) = (o.take i ++ o[i] :: o.drop (i + 1)).countP (fun x => ahead x o[i]) := congrArg _ e
      _ = i := by rw [List.countP_append, h1, h2]; rfl
  rw [hidx, hcnt, if_neg (by omega), if_neg (by omega)]
  exact ⟨rfl, rfl⟩
theorem rank_out {l : List Rep} (hr : rightB l = true) {w : Int} (hm : ∀ r ∈ l, r.id ≠ w) : rankS l w = 0 ∧ rankE l w = 30 := by
  have hidx : idxF (fun r => decide (r.id = w)) (ordR l) = -1 := idxF_no fun j hj => by
    simpa using hm _ ((ord_perm l).mem_iff.1 (List.getElem_mem hj))
  simp only [rankS, rankE, if_pos hr, hidx]
  exact ⟨rfl, rfl⟩
theorem rank_bad {l : List Rep} (hr : rightB l = false) (w : Int) : rankS l w = 0 ∧ rankE l w = 10 := by
  rw [rankS, rankE, hr]; exact ⟨rfl, rfl⟩

theorem ranks_law (l : List Rep) (w : Int) : ACalls Try.prog 7 [vecA l, .v (.int .i64 w)] AHeap.empty (fun r _ => r = .v (.bool true)) := by
  refine ACalls.of_body tok Try.func7 rfl Try.ntmps7 (Nat.le_of_ble_eq_true rfl) (fun base => ?_)
  refine AW.seq_region (fun K hK => ?_)
  refine AL.step rfl rfl rfl qA13 ?_
  refine AL.nil_then (hK _ _ ?_); clear hK K
  refine AW.seq_k (fun K1 hK1 => ?_)
  refine AW.seq_region (fun K hK => ?_)
  refine AL.step rfl rfl rfl (by exact AStepD.callf rfl en10 rfl (anchor_calls _)) ?_
  refine AL.step rfl rfl rfl (by first | exact AStepD.not rfl rfl | exact AStepD.neg rfl rfl (by first | exact IntWalk.i64_in _ (by omega) | exact IntWalk.i64_in _ (by simp only [Bool.or_eq_true, Bool.and_eq_true, Bool.or_eq_false_iff, Bool.and_eq_false_iff, Bool.not_eq_true', Bool.not_eq_false', decide_eq_true_eq, decide_eq_false_iff_not, Int.not_lt, Int.not_le, beq_iff_eq] at *; omega) | exact rfl)) ?_
  refine AL.nil_then (hK _ _ ?_); clear hK K
  refine AW.cond_false rfl rfl (AW.skip ?_)
  refine hK1 _ _ ?_; try clear hK1 K1
  refine AW.seq_k (fun K2 hK2 => ?_)
  refine AW.seq_region (fun K hK => ?_)
  refine AL.step rfl rfl rfl qA16 ?_
  refine AL.step rfl rfl rfl qF8 ?_
  refine AL.step rfl rfl rfl qF3 ?_
  refine AL.nil_then (hK _ _ ?_); clear hK K
  refine AW.cond _ rfl (fun hc => ?_) (fun hc => ?_)
  · refine AW.seq_region (fun K hK => ?_)
    refine AL.step rfl rfl rfl qA13 ?_
    refine AL.nil_then (hK _ _ ?_); clear hK K
    exact AW.ret (RetQ.mk (.inr rfl) (retA_tmp rfl qA1 retA_nil) rfl)
  (try simp only [Bool.or_eq_true, Bool.and_eq_true, Bool.or_eq_false_iff, Bool.and_eq_false_iff, Bool.not_eq_true', Bool.not_eq_false', decide_eq_true_eq, decide_eq_false_iff_not, Int.not_lt, Int.not_le] at hc)
  have hl100 : l.length ≤ 100 := by omega
  have hlen : l.length ≤ 8000000 := by omega
  refine AW.skip ?_
  refine hK2 _ _ ?_; try clear hK2 K2
  refine AW.seq_region (fun K hK => ?_)
  refine AL.step rfl rfl rfl qA16 ?_
  refine AL.step rfl rfl rfl qA16 ?_
  refine AL.step rfl rfl rfl (by exact AStepD.callf rfl en16 rfl (rank_calls _ l w hlen)) ?_
  refine AL.step rfl rfl rfl qA16 ?_
  refine AL.step rfl rfl rfl qG7 ?_
  refine AL.step rfl rfl rfl qG7 ?_
  refine AL.step rfl rfl rfl qA13 ?_
  refine AL.step rfl rfl rfl qA13 ?_
  refine AL.nil_then (hK _ _ ?_); clear hK K
  refine AW.seq_k (fun K3 hK3 => ?_)
  refine AW.seq_region (fun K hK => ?_)
  refine AL.step rfl rfl rfl qA16 ?_
  refine AL.step rfl rfl rfl (by exact AStepD.callf rfl en12 rfl (lright_calls _ l hlen)) ?_
  refine AL.step rfl rfl rfl (by first | exact AStepD.not rfl rfl | exact AStepD.neg rfl rfl (by first | exact IntWalk.i64_in _ (by omega) | exact IntWalk.i64_in _ (by simp only [Bool.or_eq_true, Bool.and_eq_true, Bool.or_eq_false_iff, Bool.and_eq_false_iff, Bool.not_eq_true', Bool.not_eq_false', decide_eq_true_eq, decide_eq_false_iff_not, Int.not_lt, Int.not_le, beq_iff_eq] at *; omega) | exact rfl)) ?_
  refine AL.nil_then (hK _ _ ?_); clear hK K
  refine AW.cond _ rfl (fun hc => ?_) (fun hc => ?_)
  · have hr : rightB l = false := by simpa using hc
    rw [(rank_bad hr w).1, (rank_bad hr w).2]
    refine AW.seq_region (fun K hK => ?_)
    refine AL.step rfl rfl rfl qA16 ?_
    refine AL.step rfl rfl rfl qE3 ?_
    refine AL.step rfl rfl rfl qA16 ?_
    first | refine AL.gstep rfl rfl rfl rfl rfl rfl rfl qA16 ?_ | refine AL.gskip rfl rfl rfl rfl rfl rfl rfl ?_ | refine AL.gnone rfl rfl rfl rfl rfl ?_ | refine AL.gmay rfl rfl rfl rfl rfl rfl qM1 ?_ | refine AL.gmay2 rfl rfl rfl rfl rfl rfl qM2 ?_
    first | refine AL.gstep rfl rfl rfl rfl rfl rfl rfl qE3 ?_ | refine AL.gskip rfl rfl rfl rfl rfl rfl rfl ?_ | refine AL.gnone rfl rfl rfl rfl rfl ?_ | refine AL.gmay rfl rfl rfl rfl rfl rfl (fun hb => by (try (apply AStepD.uncond 29 rfl (gpf hb))); exact qE3) ?_ | refine AL.gmay2 rfl rfl rfl rfl rfl rfl (fun _ hb => by (try (apply AStepD.uncond 29 rfl (gpf hb))); exact qE3) ?_
    refine AL.step rfl rfl rfl qF9 ?_
    refine AL.step rfl rfl rfl qA13 ?_
    refine AL.nil_then (hK _ _ ?_); clear hK K
    exact AW.ret (RetQ.mk (.inr rfl) (retA_tmp rfl qA1 retA_nil) rfl)
  have hr : rightB l = true := by simpa using hc
  refine AW.skip ?_
  refine hK3 _ _ ?_; try clear hK3 K3
  refine AW.seq_k (fun K4 hK4 => ?_)
  refine AW.seq_region (fun K hK => ?_)
  refine AL.step rfl rfl rfl qA16 ?_
  refine AL.step rfl rfl rfl qF8 ?_
  refine AL.step rfl rfl rfl qA16 ?_
  refine AL.nil_then (hK _ _ ?_); clear hK K
  refine AW.block ?_
  refine AW.loop_at (ι := Nat) (fun i => [(34, .v (.int .i64 (i : Nat))), (33, .v (.int .i64 (l.length : Nat))), (32, vecA l), (6, .v (.int .i64 (rankE l w))), (5, .v (.int .i64 (rankS l w))), (1, .v (.int .i64 w)), (0, vecA l)])
    (fun i H' => i ≤ l.length ∧ ∀ j (hj : j < l.length), j < i → l[j].id ≠ w) (fun i => l.length - i) 0 qA17 ⟨Nat.zero_le _, fun _ _ h => by omega⟩ ?_
  rintro i H2 ⟨hi, hno⟩
  refine AW.seq_region (fun K hK => ?_)
  refine AL.step rfl rfl rfl qF2 ?_
  refine AL.nil_then (hK _ _ ?_); clear hK K
  refine AW.seq_k (fun K5 hK5 => ?_)
  refine AW.cond _ rfl (fun hc => ?_) (fun hc => ?_)
  · (try simp only [Bool.or_eq_true, Bool.and_eq_true, Bool.or_eq_false_iff, Bool.and_eq_false_iff, Bool.not_eq_true', Bool.not_eq_false', decide_eq_true_eq, decide_eq_false_iff_not, Int.not_lt, Int.not_le] at hc)
    have hil : i < l.length := by omega
    refine AW.skip ?_
    refine hK5 _ _ ?_; try clear hK5 K5
    refine AW.seq_k (fun K6 hK6 => ?_)
    refine AW.block ?_
    refine AW.seq_region (fun K hK => ?_)
    refine AL.step rfl rfl rfl qA18 ?_
    refine AL.step rfl rfl rfl qA20 ?_
    refine AL.step rfl rfl rfl qH1 ?_
    refine AL.step0 rfl rfl qB6 ?_
    refine AL.nil_then (hK _ _ ?_); clear hK K
    refine AW.seq_k (fun K7 hK7 => ?_)
    refine AW.seq_region (fun K hK => ?_)
    refine AL.step rfl rfl rfl qE7 ?_
    refine AL.step rfl rfl rfl qB2 ?_
    refine AL.step rfl rfl rfl qA16 ?_
    refine AL.step rfl rfl rfl qG8 ?_
    refine AL.nil_then (hK _ _ ?_); clear hK K
    refine AW.cond _ rfl (fun hc => ?_) (fun hc => ?_)
    · (try simp only [Bool.or_eq_true, Bool.and_eq_true, Bool.or_eq_false_iff, Bool.and_eq_false_iff, Bool.not_eq_true', Bool.not_eq_false', decide_eq_true_eq, decide_eq_false_iff_not, Int.not_lt, Int.not_le] at hc)
      refine AW.exit ?_
      refine hK6 _ _ ?_; try clear hK6 K6
      refine AW.region ?_
      refine AL.step rfl rfl rfl (by first | exact AStepD.add rfl rfl rfl (by first | exact IntWalk.i64_in _ (by omega) | exact IntWalk.i64_in _ (by simp only [Bool.or_eq_true, Bool.and_eq_true, Bool.or_eq_false_iff, Bool.and_eq_false_iff, Bool.not_eq_true', Bool.not_eq_false', decide_eq_true_eq, decide_eq_false_iff_not, Int.not_lt, Int.not_le, beq_iff_eq] at *; omega) | exact rfl) | exact AStepD.str_add rfl rfl rfl (by omega)) ?_
      refine AL.step rfl rfl rfl qA16 ?_
      refine AL.nil ?_
      refine ⟨i + 1, by omega, qA17, hil, fun j hj hji => ?_⟩
      rcases Nat.lt_succ_iff_lt_or_eq.1 hji with h | rfl
      · exact hno j hj h
      · exact hc
    · (try simp only [Bool.or_eq_true, Bool.and_eq_true, Bool.or_eq_false_iff, Bool.and_eq_false_iff, Bool.not_eq_true', Bool.not_eq_false', decide_eq_true_eq, decide_eq_false_iff_not, Int.not_lt, Int.not_le] at hc)
      have hid : l[i].id = w := by simpa using hc
      obtain ⟨e1, e2⟩ := rank_in hr (List.getElem_mem hil)
      subst hid
      rw [e1, e2]
      refine AW.skip ?_
      refine hK7 _ _ ?_; try clear hK7 K7
      refine AW.seq_region (fun K hK => ?_)
      refine AL.step rfl rfl rfl qA13 ?_
      refine AL.nil_then (hK _ _ ?_); clear hK K
      refine AW.seq_k (fun K8 hK8 => ?_)
      refine AW.seq_region (fun K hK => ?_)
      refine AL.step rfl rfl rfl qA16 ?_
      refine AL.step rfl rfl rfl qF8 ?_
      refine AL.step rfl rfl rfl qA16 ?_
      refine AL.nil_then (hK _ _ ?_); clear hK K
      refine AW.block ?_
      refine AW.loop_at (ι := Nat × Nat) (fun x => [(44, .v (.int .i64 (x.1 : Nat))), (43, .v (.int .i64 (l.length : Nat))), (42, vecA l), (9, .v (.int .i64 (x.2 : Nat))), (8, .ptr H2.next 0), (6, .v (.int .i64 0)), (5, .v (.int .i64 ((l.countP fun x => ahead x l[i]) : Nat)))])
        (fun x H' => x.1 ≤ l.length ∧ H2.next < H'.next ∧ H'.get H2.next = some (.cells 29 (c l[i])) ∧ x.2 ≤ x.1 ∧ (l.take x.1).countP (fun x => ahead x l[i]) = x.2) (fun x => l.length - x.1) (0, 0) qA17 ⟨Nat.zero_le _, qA12, qA14, Nat.le_refl _, rfl⟩ ?_
      rintro ⟨j, n⟩ H3 ⟨hj, hn3, hX, hnj, hcn⟩
      dsimp only at hj hnj hcn ⊢
      refine AW.lts fun hlt3 => ?_
      refine AW.seq_region (fun K hK => ?_)
      refine AL.step rfl rfl rfl qF2 ?_
      refine AL.nil_then (hK _ _ ?_); clear hK K
      refine AW.seq_k (fun K9 hK9 => ?_)
      refine AW.cond _ rfl (fun hc => ?_) (fun hc => ?_)
      · (try simp only [Bool.or_eq_true, Bool.and_eq_true, Bool.or_eq_false_iff, Bool.and_eq_false_iff, Bool.not_eq_true', Bool.not_eq_false', decide_eq_true_eq, decide_eq_false_iff_not, Int.not_lt, Int.not_le] at hc)
        have hjl : j < l.length := by omega
        have htn := take_next l j hjl
        refine AW.skip ?_
        refine hK9 _ _ ?_; try clear hK9 K9
        refine AW.seq_k (fun K10 hK10 => ?_)
        refine AW.block ?_
        refine AW.seq_region (fun K hK => ?_)
        refine AL.step rfl rfl rfl qA18 ?_
        refine AL.step rfl rfl rfl qA20 ?_
        refine AL.step rfl rfl rfl qH1 ?_
        refine AL.step0 rfl rfl qB6 ?_
        refine AL.nil_then (hK _ _ ?_); clear hK K
        refine AW.seq_region (fun K hK => ?_)
        refine AL.step rfl rfl rfl qA20 ?_
        refine AL.step rfl rfl rfl qA20 ?_
        refine AL.step rfl rfl rfl (by exact AStepD.callf rfl en13 rfl (ahead_calls _ l[j] l[i])) ?_
        refine AL.nil_then (hK _ _ ?_); clear hK K
        refine AW.cond _ rfl (fun hc => ?_) (fun hc => ?_)
        · refine AW.region ?_
          refine AL.step rfl rfl rfl qA16 ?_
          refine AL.step rfl rfl rfl (by first | exact AStepD.add rfl rfl rfl (by first | exact IntWalk.i64_in _ (by omega) | exact IntWalk.i64_in _ (by simp only [Bool.or_eq_true, Bool.and_eq_true, Bool.or_eq_false_iff, Bool.and_eq_false_iff, Bool.not_eq_true', Bool.not_eq_false', decide_eq_true_eq, decide_eq_false_iff_not, Int.not_lt, Int.not_le, beq_iff_eq] at *; omega) | exact rfl) | exact AStepD.str_add rfl rfl rfl (by omega)) ?_
          refine AL.step rfl rfl rfl qA13 ?_
          refine AL.nil ?_
          refine hK10 _ _ ?_; try clear hK10 K10
          refine AW.region ?_
          refine AL.step rfl rfl rfl (by first | exact AStepD.add rfl rfl rfl (by first | exact IntWalk.i64_in _ (by omega) | exact IntWalk.i64_in _ (by simp only [Bool.or_eq_true, Bool.and_eq_true, Bool.or_eq_false_iff, Bool.and_eq_false_iff, Bool.not_eq_true', Bool.not_eq_false', decide_eq_true_eq, decide_eq_false_iff_not, Int.not_lt, Int.not_le, beq_iff_eq] at *; omega) | exact rfl) | exact AStepD.str_add rfl rfl rfl (by omega)) ?_
          refine AL.step rfl rfl rfl qA16 ?_
          refine AL.nil ?_
          refine ⟨(j + 1, n + 1), by show l.length - (j + 1) < l.length - j; omega, qA17, hjl, qA12, qA14, by show n + 1 ≤ j + 1; omega, ?_⟩
          rw [htn, List.countP_append, hcn, List.countP_singleton, if_pos hc]
        · refine AW.skip ?_
          refine hK10 _ _ ?_; try clear hK10 K10
          refine AW.region ?_
          refine AL.step rfl rfl rfl (by first | exact AStepD.add rfl rfl rfl (by first | exact IntWalk.i64_in _ (by omega) | exact IntWalk.i64_in _ (by simp only [Bool.or_eq_true, Bool.and_eq_true, Bool.or_eq_false_iff, Bool.and_eq_false_iff, Bool.not_eq_true', Bool.not_eq_false', decide_eq_true_eq, decide_eq_false_iff_not, Int.not_lt, Int.not_le, beq_iff_eq] at *; omega) | exact rfl) | exact AStepD.str_add rfl rfl rfl (by omega)) ?_
          refine AL.step rfl rfl rfl qA16 ?_
          refine AL.nil ?_
          refine ⟨(j + 1, n), by show l.length - (j + 1) < l.length - j; omega, qA17, hjl, qA12, qA14, by show n ≤ j + 1; omega, ?_⟩
          rw [htn, List.countP_append, hcn, List.countP_singleton, if_neg (by rw [hc]; decide)]; rfl
      · (try simp only [Bool.or_eq_true, Bool.and_eq_true, Bool.or_eq_false_iff, Bool.and_eq_false_iff, Bool.not_eq_true', Bool.not_eq_false', decide_eq_true_eq, decide_eq_false_iff_not, Int.not_lt, Int.not_le] at hc)
        have hjl : j = l.length := by omega
        rw [hjl, List.take_length] at hcn
        rw [hcn]
        refine AW.exit ?_
        refine hK8 _ _ ?_; try clear hK8 K8
        refine AW.seq_region (fun K hK => ?_)
        refine AL.step rfl rfl rfl qA16 ?_
        refine AL.step rfl rfl rfl qE3 ?_
        refine AL.step rfl rfl rfl qA16 ?_
        first | refine AL.gstep rfl rfl rfl rfl rfl rfl rfl qA16 ?_ | refine AL.gskip rfl rfl rfl rfl rfl rfl rfl ?_ | refine AL.gnone rfl rfl rfl rfl rfl ?_ | refine AL.gmay rfl rfl rfl rfl rfl rfl qM1 ?_ | refine AL.gmay2 rfl rfl rfl rfl rfl rfl qM2 ?_
        first | refine AL.gstep rfl rfl rfl rfl rfl rfl rfl qA16 ?_ | refine AL.gskip rfl rfl rfl rfl rfl rfl rfl ?_ | refine AL.gnone rfl rfl rfl rfl rfl ?_ | refine AL.gmay rfl rfl rfl rfl rfl rfl qI1 ?_ | refine AL.gmay2 rfl rfl rfl rfl rfl rfl qI2 ?_
        first | refine AL.gstep rfl rfl rfl rfl rfl rfl rfl qE3 ?_ | refine AL.gskip rfl rfl rfl rfl rfl rfl rfl ?_ | refine AL.gnone rfl rfl rfl rfl rfl ?_ | refine AL.gmay rfl rfl rfl rfl rfl rfl (fun hb => by (try (apply AStepD.uncond 57 rfl (gpf hb))); (try (apply AStepD.uncond 58 rfl (gpf hb))); exact qE3) ?_ | refine AL.gmay2 rfl rfl rfl rfl rfl rfl (fun _ hb => by (try (apply AStepD.uncond 57 rfl (gpf hb))); (try (apply AStepD.uncond 58 rfl (gpf hb))); exact qE3) ?_
        refine AL.step rfl rfl rfl qF9 ?_
        refine AL.step rfl rfl rfl qA13 ?_
        refine AL.nil_then (hK _ _ ?_); clear hK K
        refine AW.ret (RetQ.mk (.inr rfl) (retA_tmp rfl qA1 retA_nil) ?_)
        show AV.v (.bool _) = .v (.bool true)
        simp
  · (try simp only [Bool.or_eq_true, Bool.and_eq_true, Bool.or_eq_false_iff, Bool.and_eq_false_iff, Bool.not_eq_true', Bool.not_eq_false', decide_eq_true_eq, decide_eq_false_iff_not, Int.not_lt, Int.not_le] at hc)
    have hil : i = l.length := by omega
    obtain ⟨e1, e2⟩ := rank_out hr (w := w) fun r hm => by
      obtain ⟨j, hj, rfl⟩ := List.mem_iff_getElem.1 hm
      exact hno j hj (by omega)
    rw [e1, e2]
    refine AW.exit ?_
    refine hK4 _ _ ?_; try clear hK4 K4
    refine AW.seq_region (fun K hK => ?_)
    refine AL.step rfl rfl rfl qA16 ?_
    refine AL.step rfl rfl rfl qE3 ?_
    refine AL.step rfl rfl rfl qA16 ?_
    first | refine AL.gstep rfl rfl rfl rfl rfl rfl rfl qA16 ?_ | refine AL.gskip rfl rfl rfl rfl rfl rfl rfl ?_ | refine AL.gnone rfl rfl rfl rfl rfl ?_ | refine AL.gmay rfl rfl rfl rfl rfl rfl qM1 ?_ | refine AL.gmay2 rfl rfl rfl rfl rfl rfl qM2 ?_
    first | refine AL.gstep rfl rfl rfl rfl rfl rfl rfl qE3 ?_ | refine AL.gskip rfl rfl rfl rfl rfl rfl rfl ?_ | refine AL.gnone rfl rfl rfl rfl rfl ?_ | refine AL.gmay rfl rfl rfl rfl rfl rfl (fun hb => by (try (apply AStepD.uncond 65 rfl (gpf hb))); exact qE3) ?_ | refine AL.gmay2 rfl rfl rfl rfl rfl rfl (fun _ hb => by (try (apply AStepD.uncond 65 rfl (gpf hb))); exact qE3) ?_
    refine AL.step rfl rfl rfl qF9 ?_
    refine AL.step rfl rfl rfl qA13 ?_
    refine AL.nil_then (hK _ _ ?_); clear hK K
    exact AW.ret (RetQ.mk (.inr rfl) (retA_tmp rfl qA1 retA_nil) rfl)
end Go.Proofs.Ytmjookofajlcoaa
