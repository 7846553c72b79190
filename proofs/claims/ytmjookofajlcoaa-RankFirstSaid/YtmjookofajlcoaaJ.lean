/- The law RankOrders. -/
import Derived.Test.YtmjookofajlcoaaI
namespace Go.Proofs.Ytmjookofajlcoaa
open Go.Ax
open Cel (c)
theorem qJ1 {p : Prop} (h : p := by exact (fun hb => by (try (apply AStepD.uncond 3 rfl (gpf hb))); exact qA16)) : p := h
theorem qJ2 {p : Prop} (h : p := by exact (fun _ hb => by (try (apply AStepD.uncond 3 rfl (gpf hb))); exact qA16)) : p := h
set_option linter.unusedSimpArgs false
set_option linter.unusedVariables false

theorem st29 : Try.prog.stoodInHeld 29 = false := by kernel_rfl
theorem eg29 : Try.prog.eqGuardType Try.prog.depth 29 = false := by kernel_rfl
theorem fi29 : ∀ fs, (tt 29).und = .struct fs → flatInts tt 0 fs.toList = true := by
  intro fs h
  cases h
  rfl
theorem right_dist {l : List Rep} (h : rightB l = true) : l.Pairwise fun a b => a.id ≠ b.id := by
  simp only [rightB, Bool.and_eq_true, distB_iff] at h
  exact h.1.2
theorem right_len {l : List Rep} (h : rightB l = true) : l.length ≤ 16 := by
  simp only [rightB, Bool.and_eq_true, decide_eq_true_eq] at h
  exact h.2
theorem right_ok {l : List Rep} (h : rightB l = true) : ∀ r ∈ l, okR r = true := by
  simp only [rightB, Bool.and_eq_true, List.all_eq_true] at h
  exact h.1.1
theorem ord_dist {l : List Rep} (h : rightB l = true) : (ordR l).Pairwise fun a b => a.id ≠ b.id :=
  (ord_perm l).symm.pairwise (right_dist h) fun h => Ne.symm h
/-- In the order each one stands ahead of all behind it. -/
theorem ord_strict {l : List Rep} (h : rightB l = true) : (ordR l).Pairwise fun a b => ahead a b = true := by
  refine ((ord_stands l).and (ord_dist h)).imp fun {a b} ⟨h1, h2⟩ => ?_
  rw [ahead_no] at h1
  rw [ahead_iff]
  omega

theorem orders_law (l : List Rep) : ACalls Try.prog 3 [vecA l] AHeap.empty (fun r _ => r = .v (.bool true)) := by
  refine ACalls.of_body tok Try.func3 rfl Try.ntmps3 (Nat.le_of_ble_eq_true rfl) (fun base => ?_)
  refine AW.seq_region (fun K hK => ?_)
  refine AL.step rfl rfl rfl qA13 ?_
  refine AL.nil_then (hK _ _ ?_); clear hK K
  refine AW.seq_k (fun K1 hK1 => ?_)
  refine AW.seq_region (fun K hK => ?_)
  refine AL.step rfl rfl rfl (by exact AStepD.callf rfl en10 rfl (anchor_calls _)) ?_
  refine AL.step rfl rfl rfl (by first | exact AStepD.not rfl rfl | exact AStepD.neg rfl rfl (by first | exact IntWalk.i64_in _ (by omega) | exact IntWalk.i64_in _ (by simp only [Bool.or_eq_true, Bool.and_eq_true, Bool.or_eq_false_iff, Bool.and_eq_false_iff, Bool.not_eq_true', Bool.not_eq_false', decide_eq_true_eq, decide_eq_false_iff_not, Int.not_lt, Int.not_le, beq_iff_eq] at *; omega) | exact rfl)) ?_
  refine AL.nil_then (hK _ _ ?_); clear hK K
  refine AW.cond_false rfl rfl (AW.skip ?_)
  refine hK1 _ _ ?_; try clear hK1 K1
  refine AW.seq_k (fun K2 hK2 => ?_)
  refine AW.seq_region (fun K hK => ?_)
  refine AL.step rfl rfl rfl qA16 ?_
  refine AL.step rfl rfl rfl qF8 ?_
  refine AL.step rfl rfl rfl qF3 ?_
  refine AL.nil_then (hK _ _ ?_); clear hK K
  refine AW.cond _ rfl (fun hc => ?_) (fun hc => ?_)
  · refine AW.seq_region (fun K hK => ?_)
    refine AL.step rfl rfl rfl qA13 ?_
    refine AL.nil_then (hK _ _ ?_); clear hK K
    exact AW.ret (RetQ.mk (.inr rfl) (retA_tmp rfl qA1 retA_nil) rfl)
  (try simp only [Bool.or_eq_true, Bool.and_eq_true, Bool.or_eq_false_iff, Bool.and_eq_false_iff, Bool.not_eq_true', Bool.not_eq_false', decide_eq_true_eq, decide_eq_false_iff_not, Int.not_lt, Int.not_le] at hc)
  have hlen : l.length ≤ 8000000 := by omega
  refine AW.skip ?_
  refine hK2 _ _ ?_; try clear hK2 K2
  refine AW.seq_region (fun K hK => ?_)
  refine AL.step rfl rfl rfl qA16 ?_
  refine AL.step rfl rfl rfl (by exact AStepD.callf rfl en11 rfl (order_calls _ l hlen)) ?_
  refine AL.step rfl rfl rfl qA16 ?_
  refine AL.step rfl rfl rfl qG7 ?_
  refine AL.step rfl rfl rfl qG7 ?_
  refine AL.step rfl rfl rfl qA13 ?_
  refine AL.step rfl rfl rfl qA13 ?_
  refine AL.nil_then (hK _ _ ?_); clear hK K
  refine AW.seq_k (fun K3 hK3 => ?_)
  refine AW.seq_region (fun K hK => ?_)
  refine AL.step rfl rfl rfl qA16 ?_
  refine AL.step rfl rfl rfl (by exact AStepD.callf rfl en12 rfl (lright_calls _ l hlen)) ?_
  refine AL.step rfl rfl rfl (by first | exact AStepD.not rfl rfl | exact AStepD.neg rfl rfl (by first | exact IntWalk.i64_in _ (by omega) | exact IntWalk.i64_in _ (by simp only [Bool.or_eq_true, Bool.and_eq_true, Bool.or_eq_false_iff, Bool.and_eq_false_iff, Bool.not_eq_true', Bool.not_eq_false', decide_eq_true_eq, decide_eq_false_iff_not, Int.not_lt, Int.not_le, beq_iff_eq] at *; omega) | exact rfl)) ?_
  refine AL.nil_then (hK _ _ ?_); clear hK K
  refine AW.cond _ rfl (fun hc => ?_) (fun hc => ?_)
  · have hr : rightB l = false := by simpa using hc
    rw [orderS, errS, hr]
    refine AW.seq_region (fun K hK => ?_)
    refine AL.step rfl rfl rfl qA16 ?_
    refine AL.step rfl rfl rfl qE3 ?_
    refine AL.step rfl rfl rfl qA16 ?_
    first | refine AL.gstep rfl rfl rfl rfl rfl rfl rfl qA16 ?_ | refine AL.gskip rfl rfl rfl rfl rfl rfl rfl ?_ | refine AL.gnone rfl rfl rfl rfl rfl ?_ | refine AL.gmay rfl rfl rfl rfl rfl rfl qJ1 ?_ | refine AL.gmay2 rfl rfl rfl rfl rfl rfl qJ2 ?_
    first | refine AL.gstep rfl rfl rfl rfl rfl rfl rfl qF8 ?_ | refine AL.gskip rfl rfl rfl rfl rfl rfl rfl ?_ | refine AL.gnone rfl rfl rfl rfl rfl ?_ | refine AL.gmay rfl rfl rfl rfl rfl rfl (fun hb => by (try (apply AStepD.uncond 28 rfl (gpf hb))); exact qF8) ?_ | refine AL.gmay2 rfl rfl rfl rfl rfl rfl (fun _ hb => by (try (apply AStepD.uncond 28 rfl (gpf hb))); exact qF8) ?_
    first | refine AL.gstep rfl rfl rfl rfl rfl rfl rfl qE3 ?_ | refine AL.gskip rfl rfl rfl rfl rfl rfl rfl ?_ | refine AL.gnone rfl rfl rfl rfl rfl ?_ | refine AL.gmay rfl rfl rfl rfl rfl rfl (fun hb => by (try (apply AStepD.uncond 29 rfl (gpf hb))); exact qE3) ?_ | refine AL.gmay2 rfl rfl rfl rfl rfl rfl (fun _ hb => by (try (apply AStepD.uncond 29 rfl (gpf hb))); exact qE3) ?_
    refine AL.step rfl rfl rfl qF9 ?_
    refine AL.step rfl rfl rfl qA13 ?_
    refine AL.nil_then (hK _ _ ?_); clear hK K
    exact AW.ret (RetQ.mk (.inr rfl) (retA_tmp rfl qA1 retA_nil) rfl)
  have hr : rightB l = true := by simpa using hc
  rw [orderS, errS, if_pos hr, if_pos hr]
  have hol := ord_length l
  have hst := ord_strict hr
  have hpm := ord_perm l
  generalize ordR l = o at hol hst hpm ⊢
  refine AW.skip ?_
  refine hK3 _ _ ?_; try clear hK3 K3
  refine AW.seq_k (fun K4 hK4 => ?_)
  refine AW.seq_region (fun K hK => ?_)
  refine AL.step rfl rfl rfl qA16 ?_
  refine AL.step rfl rfl rfl qG8 ?_
  refine AL.step rfl rfl rfl qA16 ?_
  first | refine AL.gstep rfl rfl rfl rfl rfl rfl rfl qA16 ?_ | refine AL.gskip rfl rfl rfl rfl rfl rfl rfl ?_ | refine AL.gnone rfl rfl rfl rfl rfl ?_ | refine AL.gmay rfl rfl rfl rfl rfl rfl qJ1 ?_ | refine AL.gmay2 rfl rfl rfl rfl rfl rfl qJ2 ?_
  first | refine AL.gstep rfl rfl rfl rfl rfl rfl rfl qF8 ?_ | refine AL.gskip rfl rfl rfl rfl rfl rfl rfl ?_ | refine AL.gnone rfl rfl rfl rfl rfl ?_ | refine AL.gmay rfl rfl rfl rfl rfl rfl (fun hb => by (try (apply AStepD.uncond 35 rfl (gpf hb))); exact qF8) ?_ | refine AL.gmay2 rfl rfl rfl rfl rfl rfl (fun _ hb => by (try (apply AStepD.uncond 35 rfl (gpf hb))); exact qF8) ?_
  first | refine AL.gstep rfl rfl rfl rfl rfl rfl rfl qA16 ?_ | refine AL.gskip rfl rfl rfl rfl rfl rfl rfl ?_ | refine AL.gnone rfl rfl rfl rfl rfl ?_ | refine AL.gmay rfl rfl rfl rfl rfl rfl qG1 ?_ | refine AL.gmay2 rfl rfl rfl rfl rfl rfl qG2 ?_
  first | refine AL.gstep rfl rfl rfl rfl rfl rfl rfl qF8 ?_ | refine AL.gskip rfl rfl rfl rfl rfl rfl rfl ?_ | refine AL.gnone rfl rfl rfl rfl rfl ?_ | refine AL.gmay rfl rfl rfl rfl rfl rfl (fun hb => by (try (apply AStepD.uncond 37 rfl (gpf hb))); exact qF8) ?_ | refine AL.gmay2 rfl rfl rfl rfl rfl rfl (fun _ hb => by (try (apply AStepD.uncond 37 rfl (gpf hb))); exact qF8) ?_
  first | refine AL.gstep rfl rfl rfl rfl rfl rfl rfl qG8 ?_ | refine AL.gskip rfl rfl rfl rfl rfl rfl rfl ?_ | refine AL.gnone rfl rfl rfl rfl rfl ?_ | refine AL.gmay rfl rfl rfl rfl rfl rfl (fun hb => by (try (apply AStepD.uncond 36 rfl (gpf hb))); (try (apply AStepD.uncond 38 rfl (gpf hb))); exact qG8) ?_ | refine AL.gmay2 rfl rfl rfl rfl rfl rfl (fun _ hb => by (try (apply AStepD.uncond 36 rfl (gpf hb))); (try (apply AStepD.uncond 38 rfl (gpf hb))); exact qG8) ?_
  refine AL.step rfl rfl rfl qF9 ?_
  refine AL.nil_then (hK _ _ ?_); clear hK K
  refine AW.cond _ rfl (fun hc => ?_) (fun hc => ?_)
  · simp [hol] at hc
  refine AW.skip ?_
  refine hK4 _ _ ?_; try clear hK4 K4
  refine AW.seq_k (fun K5 hK5 => ?_)
  refine AW.seq_region (fun K hK => ?_)
  refine AL.step rfl rfl rfl qA16 ?_
  refine AL.step rfl rfl rfl qF8 ?_
  refine AL.step rfl rfl rfl qA16 ?_
  refine AL.nil_then (hK _ _ ?_); clear hK K
  refine AW.block ?_
  refine AW.loop_at (ι := Nat) (fun i => [(43, .v (.int .i64 (i : Nat))), (42, .v (.int .i64 (o.length : Nat))), (41, vecA o), (3, vecA o), (0, vecA l)])
    (fun i H' => i ≤ o.length) (fun i => o.length - i) 0 qA17 (Nat.zero_le _) ?_
  rintro i H2 hi
  refine AW.seq_region (fun K hK => ?_)
  refine AL.step rfl rfl rfl qF2 ?_
  refine AL.nil_then (hK _ _ ?_); clear hK K
  refine AW.seq_k (fun K6 hK6 => ?_)
  refine AW.cond _ rfl (fun hc => ?_) (fun hc => ?_)
  · (try simp only [Bool.or_eq_true, Bool.and_eq_true, Bool.or_eq_false_iff, Bool.and_eq_false_iff, Bool.not_eq_true', Bool.not_eq_false', decide_eq_true_eq, decide_eq_false_iff_not, Int.not_lt, Int.not_le] at hc)
    have hio : i < o.length := by omega
    refine AW.skip ?_
    refine hK6 _ _ ?_; try clear hK6 K6
    refine AW.seq_k (fun K7 hK7 => ?_)
    refine AW.block ?_
    refine AW.seq_region (fun K hK => ?_)
    refine AL.step rfl rfl rfl qA16 ?_
    refine AL.step rfl rfl rfl qA18 ?_
    refine AL.step rfl rfl rfl qA20 ?_
    refine AL.step rfl rfl rfl qH1 ?_
    refine AL.step rfl rfl rfl qA13 ?_
    refine AL.step0 rfl rfl qB6 ?_
    refine AL.nil_then (hK _ _ ?_); clear hK K
    refine AW.seq_region (fun K hK => ?_)
    refine AL.step rfl rfl rfl qA13 ?_
    refine AL.nil_then (hK _ _ ?_); clear hK K
    refine AW.seq_k (fun K8 hK8 => ?_)
    refine AW.seq_region (fun K hK => ?_)
    refine AL.step rfl rfl rfl qA16 ?_
    refine AL.step rfl rfl rfl qF8 ?_
    refine AL.step rfl rfl rfl qA16 ?_
    refine AL.nil_then (hK _ _ ?_); clear hK K
    refine AW.block ?_
    refine AW.loop_at (ι := Nat × Bool) (fun x => [(50, .v (.int .i64 (x.1 : Nat))), (49, .v (.int .i64 (l.length : Nat))), (48, vecA l), (43, .v (.int .i64 (i : Nat))), (42, .v (.int .i64 (o.length : Nat))), (41, vecA o), (7, .v (.bool x.2)), (6, .ptr H2.next 0), (5, .v (.int .i64 (i : Nat))), (3, vecA o), (0, vecA l)])
      (fun x H' => x.1 ≤ l.length ∧ H2.next < H'.next ∧ H'.get H2.next = some (.cells 29 (c o[i])) ∧ (o[i] ∈ l.take x.1 → x.2 = true)) (fun x => l.length - x.1) (0, false) qA17 ⟨Nat.zero_le _, qA12, qA14, fun h => by simp at h⟩ ?_
    rintro ⟨k, b⟩ H3 ⟨hk, hn3, hX, hb⟩
    dsimp only at hk hb ⊢
    refine AW.lts fun hlt3 => ?_
    refine AW.seq_region (fun K hK => ?_)
    refine AL.step rfl rfl rfl qF2 ?_
    refine AL.nil_then (hK _ _ ?_); clear hK K
    refine AW.seq_k (fun K9 hK9 => ?_)
    refine AW.cond _ rfl (fun hc => ?_) (fun hc => ?_)
    · (try simp only [Bool.or_eq_true, Bool.and_eq_true, Bool.or_eq_false_iff, Bool.and_eq_false_iff, Bool.not_eq_true', Bool.not_eq_false', decide_eq_true_eq, decide_eq_false_iff_not, Int.not_lt, Int.not_le] at hc)
      have hkl : k < l.length := by omega
      refine AW.skip ?_
      refine hK9 _ _ ?_; try clear hK9 K9
      refine AW.seq_k (fun K10 hK10 => ?_)
      refine AW.block ?_
      refine AW.seq_region (fun K hK => ?_)
      refine AL.step rfl rfl rfl qA18 ?_
      refine AL.step rfl rfl rfl qA20 ?_
      refine AL.step rfl rfl rfl qH1 ?_
      refine AL.step0 rfl rfl qB6 ?_
      refine AL.nil_then (hK _ _ ?_); clear hK K
      refine AW.region ?_
      refine AL.step rfl rfl rfl qA16 ?_
      refine AL.step rfl rfl rfl qA16 ?_
      first | refine AL.gstep rfl rfl rfl rfl rfl rfl rfl qA20 ?_ | refine AL.gskip rfl rfl rfl rfl rfl rfl rfl ?_ | refine AL.gnone rfl rfl rfl rfl rfl ?_ | refine AL.gmay rfl rfl rfl rfl rfl rfl (fun hb => by (try (apply AStepD.uncond 9 rfl (gpf hb))); exact qA20) ?_ | refine AL.gmay2 rfl rfl rfl rfl rfl rfl (fun _ hb => by (try (apply AStepD.uncond 9 rfl (gpf hb))); exact qA20) ?_
      first | refine AL.gstep rfl rfl rfl rfl rfl rfl rfl qA20 ?_ | refine AL.gskip rfl rfl rfl rfl rfl rfl rfl ?_ | refine AL.gnone rfl rfl rfl rfl rfl ?_ | refine AL.gmay rfl rfl rfl rfl rfl rfl (fun hb => by (try (apply AStepD.uncond 6 rfl (gpf hb))); exact qA20) ?_ | refine AL.gmay2 rfl rfl rfl rfl rfl rfl (fun _ hb => by (try (apply AStepD.uncond 6 rfl (gpf hb))); exact qA20) ?_
      first | refine AL.gstep rfl rfl rfl rfl rfl rfl rfl (by exact AStepD.struct_eq (xs := [l[k].id, l[k].off]) (ys := [o[i].id, o[i].off]) tok .eql (.inl rfl) rfl rfl rfl rfl rfl st29 eg29 (fi29 _ rfl) rfl rfl rfl) ?_ | refine AL.gskip rfl rfl rfl rfl rfl rfl rfl ?_ | refine AL.gnone rfl rfl rfl rfl rfl ?_ | refine AL.gmay rfl rfl rfl rfl rfl rfl (fun hb => by (try (apply AStepD.uncond 56 rfl (gpf hb))); (try (apply AStepD.uncond 57 rfl (gpf hb))); exact (by exact AStepD.struct_eq (xs := [l[k].id, l[k].off]) (ys := [o[i].id, o[i].off]) tok .eql (.inl rfl) rfl rfl rfl rfl rfl st29 eg29 (fi29 _ rfl) rfl rfl rfl)) ?_ | refine AL.gmay2 rfl rfl rfl rfl rfl rfl (fun _ hb => by (try (apply AStepD.uncond 56 rfl (gpf hb))); (try (apply AStepD.uncond 57 rfl (gpf hb))); exact (by exact AStepD.struct_eq (xs := [l[k].id, l[k].off]) (ys := [o[i].id, o[i].off]) tok .eql (.inl rfl) rfl rfl rfl rfl rfl st29 eg29 (fi29 _ rfl) rfl rfl rfl)) ?_
      refine AL.step rfl rfl rfl qF9 ?_
      refine AL.step rfl rfl rfl qA13 ?_
      refine AL.nil ?_
      refine hK10 _ _ ?_; try clear hK10 K10
      refine AW.region ?_
      refine AL.step rfl rfl rfl (by first | exact AStepD.add rfl rfl rfl (by first | exact IntWalk.i64_in _ (by omega) | exact IntWalk.i64_in _ (by simp only [Bool.or_eq_true, Bool.and_eq_true, Bool.or_eq_false_iff, Bool.and_eq_false_iff, Bool.not_eq_true', Bool.not_eq_false', decide_eq_true_eq, decide_eq_false_iff_not, Int.not_lt, Int.not_le, beq_iff_eq] at *; omega) | exact rfl) | exact AStepD.str_add rfl rfl rfl (by omega)) ?_
      refine AL.step rfl rfl rfl qA16 ?_
      refine AL.nil ?_
      refine ⟨(k + 1, _), by show l.length - (k + 1) < l.length - k; omega, qA17, hkl, qA12, qA14, fun hm => ?_⟩
      rw [take_next l k hkl, List.mem_append, List.mem_singleton] at hm
      rcases hm with hm | hm
      · simp [hb hm]
      · simp [hm]
    · (try simp only [Bool.or_eq_true, Bool.and_eq_true, Bool.or_eq_false_iff, Bool.and_eq_false_iff, Bool.not_eq_true', Bool.not_eq_false', decide_eq_true_eq, decide_eq_false_iff_not, Int.not_lt, Int.not_le] at hc)
      have hkl : k = l.length := by omega
      have hin : b = true := hb (by rw [hkl, List.take_length]; exact hpm.mem_iff.1 (List.getElem_mem hio))
      subst hin
      refine AW.exit ?_
      refine hK8 _ _ ?_; try clear hK8 K8
      refine AW.seq_k (fun K11 hK11 => ?_)
      refine AW.seq_region (fun K hK => ?_)
      refine AL.step rfl rfl rfl qA16 ?_
      refine AL.step rfl rfl rfl (by first | exact AStepD.not rfl rfl | exact AStepD.neg rfl rfl (by first | exact IntWalk.i64_in _ (by omega) | exact IntWalk.i64_in _ (by simp only [Bool.or_eq_true, Bool.and_eq_true, Bool.or_eq_false_iff, Bool.and_eq_false_iff, Bool.not_eq_true', Bool.not_eq_false', decide_eq_true_eq, decide_eq_false_iff_not, Int.not_lt, Int.not_le, beq_iff_eq] at *; omega) | exact rfl)) ?_
      refine AL.nil_then (hK _ _ ?_); clear hK K
      refine AW.cond_false rfl rfl (AW.skip ?_)
      refine hK11 _ _ ?_; try clear hK11 K11
      have hdl : (o.drop (i + 1)).length = o.length - (i + 1) := List.length_drop
      refine AW.seq_region (fun K hK => ?_)
      refine AL.step rfl rfl rfl qA16 ?_
      refine AL.step rfl rfl rfl qA16 ?_
      refine AL.step rfl rfl rfl (by first | exact AStepD.add rfl rfl rfl (by first | exact IntWalk.i64_in _ (by omega) | exact IntWalk.i64_in _ (by simp only [Bool.or_eq_true, Bool.and_eq_true, Bool.or_eq_false_iff, Bool.and_eq_false_iff, Bool.not_eq_true', Bool.not_eq_false', decide_eq_true_eq, decide_eq_false_iff_not, Int.not_lt, Int.not_le, beq_iff_eq] at *; omega) | exact rfl) | exact AStepD.str_add rfl rfl rfl (by omega)) ?_
      refine AL.step rfl rfl rfl qF7 ?_
      refine AL.step rfl rfl rfl qF8 ?_
      refine AL.step rfl rfl rfl qA16 ?_
      refine AL.nil_then (hK _ _ ?_); clear hK K
      refine AW.block ?_
      refine AW.loop_at (ι := Nat) (fun j => [(68, .v (.int .i64 (j : Nat))), (67, .v (.int .i64 ((o.drop (i + 1)).length : Nat))), (66, vecA (o.drop (i + 1))), (43, .v (.int .i64 (i : Nat))), (42, .v (.int .i64 (o.length : Nat))), (41, vecA o), (6, .ptr H2.next 0), (3, vecA o), (0, vecA l)])
        (fun j H' => j ≤ (o.drop (i + 1)).length ∧ H2.next < H'.next ∧ H'.get H2.next = some (.cells 29 (c o[i]))) (fun j => (o.drop (i + 1)).length - j) 0 qA17 ⟨Nat.zero_le _, hn3, hX⟩ ?_
      rintro j H4 ⟨hj, hn4, hX4⟩
      refine AW.lts fun hlt4 => ?_
      refine AW.seq_region (fun K hK => ?_)
      refine AL.step rfl rfl rfl qF2 ?_
      refine AL.nil_then (hK _ _ ?_); clear hK K
      refine AW.seq_k (fun K12 hK12 => ?_)
      refine AW.cond _ rfl (fun hc => ?_) (fun hc => ?_)
      · (try simp only [Bool.or_eq_true, Bool.and_eq_true, Bool.or_eq_false_iff, Bool.and_eq_false_iff, Bool.not_eq_true', Bool.not_eq_false', decide_eq_true_eq, decide_eq_false_iff_not, Int.not_lt, Int.not_le] at hc)
        have hjo : j < (o.drop (i + 1)).length := by omega
        refine AW.skip ?_
        refine hK12 _ _ ?_; try clear hK12 K12
        refine AW.seq_k (fun K13 hK13 => ?_)
        refine AW.block ?_
        have hah : ahead o[i] (o.drop (i + 1))[j] = true := by
          rw [List.getElem_drop]
          exact List.pairwise_iff_getElem.1 hst i (i + 1 + j) hio (by omega) (by omega)
        refine AW.seq_region (fun K hK => ?_)
        refine AL.step rfl rfl rfl qA18 ?_
        refine AL.step rfl rfl rfl qA20 ?_
        refine AL.step rfl rfl rfl qH1 ?_
        refine AL.step0 rfl rfl qB6 ?_
        refine AL.nil_then (hK _ _ ?_); clear hK K
        refine AW.seq_region (fun K hK => ?_)
        refine AL.step rfl rfl rfl qA20 ?_
        refine AL.step rfl rfl rfl qA20 ?_
        refine AL.step rfl rfl rfl (by exact AStepD.callf rfl en13 rfl (ahead_calls _ o[i] (o.drop (i + 1))[j])) ?_
        refine AL.step rfl rfl rfl (by first | exact AStepD.not rfl rfl | exact AStepD.neg rfl rfl (by first | exact IntWalk.i64_in _ (by omega) | exact IntWalk.i64_in _ (by simp only [Bool.or_eq_true, Bool.and_eq_true, Bool.or_eq_false_iff, Bool.and_eq_false_iff, Bool.not_eq_true', Bool.not_eq_false', decide_eq_true_eq, decide_eq_false_iff_not, Int.not_lt, Int.not_le, beq_iff_eq] at *; omega) | exact rfl)) ?_
        refine AL.nil_then (hK _ _ ?_); clear hK K
        rw [hah]
        refine AW.cond_false rfl rfl (AW.skip ?_)
        refine hK13 _ _ ?_; try clear hK13 K13
        refine AW.region ?_
        refine AL.step rfl rfl rfl (by first | exact AStepD.add rfl rfl rfl (by first | exact IntWalk.i64_in _ (by omega) | exact IntWalk.i64_in _ (by simp only [Bool.or_eq_true, Bool.and_eq_true, Bool.or_eq_false_iff, Bool.and_eq_false_iff, Bool.not_eq_true', Bool.not_eq_false', decide_eq_true_eq, decide_eq_false_iff_not, Int.not_lt, Int.not_le, beq_iff_eq] at *; omega) | exact rfl) | exact AStepD.str_add rfl rfl rfl (by omega)) ?_
        refine AL.step rfl rfl rfl qA16 ?_
        refine AL.nil ?_
        refine ⟨j + 1, by omega, qA17, hjo, qA12, qA14⟩
      · (try simp only [Bool.or_eq_true, Bool.and_eq_true, Bool.or_eq_false_iff, Bool.and_eq_false_iff, Bool.not_eq_true', Bool.not_eq_false', decide_eq_true_eq, decide_eq_false_iff_not, Int.not_lt, Int.not_le] at hc)
        refine AW.exit ?_
        refine hK7 _ _ ?_; try clear hK7 K7
        refine AW.region ?_
        refine AL.step rfl rfl rfl (by first | exact AStepD.add rfl rfl rfl (by first | exact IntWalk.i64_in _ (by omega) | exact IntWalk.i64_in _ (by simp only [Bool.or_eq_true, Bool.and_eq_true, Bool.or_eq_false_iff, Bool.and_eq_false_iff, Bool.not_eq_true', Bool.not_eq_false', decide_eq_true_eq, decide_eq_false_iff_not, Int.not_lt, Int.not_le, beq_iff_eq] at *; omega) | exact rfl) | exact AStepD.str_add rfl rfl rfl (by omega)) ?_
        refine AL.step rfl rfl rfl qA16 ?_
        refine AL.nil ?_
        exact ⟨i + 1, by omega, qA17, hio⟩
  · refine AW.exit ?_
    refine hK5 _ _ ?_; try clear hK5 K5
    refine AW.seq_region (fun K hK => ?_)
    refine AL.step rfl rfl rfl qA13 ?_
    refine AL.nil_then (hK _ _ ?_); clear hK K
    exact AW.ret (RetQ.mk (.inr rfl) (retA_tmp rfl qA1 retA_nil) rfl)
end Go.Proofs.Ytmjookofajlcoaa
