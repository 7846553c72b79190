/- The walks of right, SortedFunc, Order. -/
import Derived.Test.YtmjookofajlcoaaE
namespace Go.Proofs.Ytmjookofajlcoaa
open Go.Ax
open Cel (c)
theorem qF1 {p : Prop} (h : p := by first | exact IsSl.vec | exact IsSl.sl | exact IsSl.slc | exact IsSl.nil | with_reducible assumption) : p := h
theorem qF2 {p : Prop} (h : p := by exact AStepD.lss rfl rfl rfl) : p := h
theorem qF3 {p : Prop} (h : p := by exact AStepD.gtr rfl rfl rfl) : p := h
theorem qF4 {p : Prop} (h : p := by intro h; first | (rw [h]; done) | (rw [h]; rfl) | (simp [h]; done) | (simp_all; done) | exact guard_true h) : p := h
theorem qF5 {p : Prop} (h : p := by first | exact Nat.zero_add 1 | exact (show _ + 1 = _ from qE2) | exact (show _ + 1 = _ + 1 from rfl) | exact rfl) : p := h
theorem qF6 {p : Prop} (h : p := by repeat' (first | exact Keep.refl _ | with_reducible assumption | apply Keep.new | apply Keep.set | apply Keep.del | (first | omega | (simp only [za, zb, zc]; omega)))) : p := h
theorem qF7 {p : Prop} (h : p := by first | exact AStepD.slice_flat_to tok rfl rfl rfl rfl rfl rfl (show _ = 2 from rfl) rfl rfl qA6 qA7 | exact AStepD.slice_flat_from tok rfl rfl rfl rfl rfl rfl (show _ = 2 from rfl) rfl rfl qA6 qA7 | exact AStepD.slice_vec' tok rfl rfl rfl rfl rfl (show _ = 2 from rfl) rfl rfl qA6 qA6 qA7 qA7 rfl rfl | exact AStepD.slice_sl_in tok rfl rfl rfl rfl rfl (show _ = 2 from rfl) qA6 qA6 qA7 qA7 qA7 qA8 qA8 | exact AStepD.slice_sl_end tok rfl rfl rfl rfl rfl (show _ = 2 from rfl) qA6 qA6 qA7 qA7 qA7 | exact AStepD.slice_slx tok rfl rfl rfl rfl rfl (show _ = 2 from rfl) qA6 qA6 qA7 qA7 qA7 qA8 qA8 qA8 | exact AStepD.slice_slc_in tok rfl (SubV.refl _) rfl rfl rfl (show _ = 2 from rfl) qA6 qA6 qA7 qA7 qA7 qA8 qA8 qA8 | exact AStepD.slice_str' tok rfl rfl rfl rfl rfl rfl qA6 qA6 qA7 qA7 | exact AStepD.slice_nil tok rfl rfl rfl rfl rfl rfl rfl | exact AStepD.slice_arr' tok rfl rfl rfl rfl rfl (show _ = 2 from rfl) qA14 rfl rfl qA6 qA6 qA9 (by decide) qA7 qA7 qA7) : p := h
theorem qF8 {p : Prop} (h : p := by first | exact AStepD.len_str tok rfl rfl rfl rfl | exact AStepD.len_sl tok rfl qA1 qF1 rfl rfl | exact AStepD.len_arr tok rfl rfl rfl) : p := h
theorem qF9 {p : Prop} (h : p := by first | exact AStepD.pick_true' rfl rfl qA1 | exact AStepD.pick_false' rfl rfl qA1 | exact AStepD.and rfl _ _ _ rfl rfl qF4 rfl | exact AStepD.and' rfl _ _ rfl rfl rfl | exact AStepD.or rfl _ _ _ rfl rfl rfl qF4 | exact AStepD.or' rfl _ _ rfl rfl rfl) : p := h
theorem qF10 {p : Prop} (h : p := by first | exact AStepD.fieldAddr' tok rfl rfl rfl rfl rfl rfl rfl qF5 | exact AStepD.fieldAddr_ip' tok rfl rfl rfl rfl rfl rfl rfl (show List.drop 1 _ = _ from rfl)) : p := h
theorem qF11 {p : Prop} (h : p := by exact (fun hb => by (try (apply AStepD.uncond 4 rfl (gpf hb))); exact qF10)) : p := h
theorem qF12 {p : Prop} (h : p := by exact (fun _ hb => by (try (apply AStepD.uncond 4 rfl (gpf hb))); exact qF10)) : p := h
set_option linter.unusedSimpArgs false
set_option linter.unusedVariables false

def okR (r : Rep) : Bool := decide (1 ≤ r.id) && decide (r.id ≤ 4294967296) && decide (0 ≤ r.off) && decide (r.off ≤ 281474976710656)
def distB : List Rep → Bool
  | [] => true
  | a :: r => distB r && !(r.any fun o => decide (o.id = a.id))
theorem distB_iff : ∀ l : List Rep, distB l = true ↔ l.Pairwise fun a b => a.id ≠ b.id
  | [] => by simp [distB]
  | a :: r => by
    simp only [distB, Bool.and_eq_true, distB_iff r, List.pairwise_cons, Bool.not_eq_true', ← Bool.not_eq_true, List.any_eq_true, decide_eq_true_eq, not_exists, not_and]
    constructor
    · rintro ⟨h1, h2⟩; exact ⟨fun b hb e => h2 b hb e.symm, h1⟩
    · rintro ⟨h1, h2⟩; exact ⟨h2, fun b hb e => h1 b hb e.symm⟩
theorem distB_next (l : List Rep) (i : Nat) (hi : i < l.length) : distB (l.take (i + 1)) = (distB (l.take i) && !((l.take i).any fun o => decide (o.id = l[i].id))) := by
  rw [Bool.eq_iff_iff, distB_iff, take_next l i hi, List.pairwise_append, Bool.and_eq_true, distB_iff, Bool.not_eq_true', ← Bool.not_eq_true, List.any_eq_true]
  simp only [List.pairwise_cons, List.not_mem_nil, List.mem_singleton, false_implies, implies_true, List.Pairwise.nil, and_self, true_and, forall_eq, decide_eq_true_eq, not_exists, not_and]
def rightB (l : List Rep) : Bool := l.all okR && distB l && decide (l.length ≤ 16)
theorem all_next {p : Rep → Bool} (l : List Rep) (i : Nat) (hi : i < l.length) : (l.take (i + 1)).all p = ((l.take i).all p && p l[i]) := by
  rw [take_next l i hi, List.all_append]; simp
theorem not_all {p : Rep → Bool} {l : List Rep} {i : Nat} (hi : i < l.length) (h : p l[i] = false) : l.all p = false := by
  rw [← Bool.not_eq_true, List.all_eq_true]
  intro hh
  have := hh _ (List.getElem_mem hi)
  rw [h] at this; cases this
theorem not_dist {l : List Rep} {i : Nat} (hi : i < l.length) (h : ((l.take i).any fun o => decide (o.id = l[i].id)) = true) : distB l = false := by
  rw [← Bool.not_eq_true, distB_iff]
  intro hp
  have h2 : (l.take (i + 1)).Pairwise fun a b => a.id ≠ b.id := hp.sublist (List.take_sublist _ _)
  rw [← distB_iff, distB_next l i hi, h] at h2
  simp at h2

theorem right_calls (H : AHeap) (l : List Rep) (hlen : l.length ≤ 8000000) : ACalls Try.prog 17 [vecA l] H (fun r H' => r = .v (.bool (rightB l)) ∧ H' = H) := by
  refine ACalls.quiet_keep ?_ (.v _)
  refine ACalls.of_body tok Try.func17 rfl Try.ntmps17 (Nat.le_of_ble_eq_true rfl) (fun base => ?_)
  refine AW.seq_region (fun K hK => ?_)
  refine AL.step rfl rfl rfl qA13 ?_
  refine AL.nil_then (hK _ _ ?_); clear hK K
  refine AW.seq_k (fun K1 hK1 => ?_)
  refine AW.seq_region (fun K hK => ?_)
  refine AL.step rfl rfl rfl qA16 ?_
  refine AL.step rfl rfl rfl qF8 ?_
  refine AL.step rfl rfl rfl qA16 ?_
  refine AL.nil_then (hK _ _ ?_); clear hK K
  refine AW.block ?_
  refine AW.loop_at (ι := Nat) (fun i => [(7, .v (.int .i64 (i : Nat))), (6, .v (.int .i64 (l.length : Nat))), (5, vecA l), (0, vecA l)])
    (fun i H' => i ≤ l.length ∧ Keep H H' ∧ (l.take i).all okR = true ∧ distB (l.take i) = true) (fun i => l.length - i) 0 qA17 ⟨Nat.zero_le _, qE4, rfl, rfl⟩ ?_
  rintro i H2 ⟨hi, hk, hok, hdi⟩
  have hkn := hk.1
  refine AW.lts fun hlt => ?_
  refine AW.seq_region (fun K hK => ?_)
  refine AL.step rfl rfl rfl qF2 ?_
  refine AL.nil_then (hK _ _ ?_); clear hK K
  refine AW.seq_k (fun K2 hK2 => ?_)
  refine AW.cond _ rfl (fun hc => ?_) (fun hc => ?_)
  · have hc := of_decide_eq_true hc
    have hil : i < l.length := by omega
    refine AW.skip ?_
    refine hK2 _ _ ?_; try clear hK2 K2
    refine AW.seq_k (fun K3 hK3 => ?_)
    refine AW.block ?_
    refine AW.seq_region (fun K hK => ?_)
    refine AL.step rfl rfl rfl qA16 ?_
    refine AL.step rfl rfl rfl qA18 ?_
    refine AL.step rfl rfl rfl qA20 ?_
    refine AL.step rfl rfl rfl (by exact AStepD.alloc tok rfl rfl) ?_
    refine AL.step rfl rfl rfl qA13 ?_
    refine AL.step0 rfl rfl qB6 ?_
    refine AL.nil_then (hK _ _ ?_); clear hK K
    refine AW.seq_k (fun K4 hK4 => ?_)
    refine AW.seq_region (fun K hK => ?_)
    refine AL.step rfl rfl rfl qE7 ?_
    refine AL.step rfl rfl rfl qB2 ?_
    refine AL.step rfl rfl rfl qF2 ?_
    refine AL.step rfl rfl rfl qA16 ?_
    first | refine AL.gstep rfl rfl rfl rfl rfl rfl rfl qE7 ?_ | refine AL.gskip rfl rfl rfl rfl rfl rfl rfl ?_ | refine AL.gnone rfl rfl rfl rfl rfl ?_ | refine AL.gmay rfl rfl rfl rfl rfl rfl (fun hb => by (try (apply AStepD.uncond 4 rfl (gpf hb))); exact qE7) ?_ | refine AL.gmay2 rfl rfl rfl rfl rfl rfl (fun _ hb => by (try (apply AStepD.uncond 4 rfl (gpf hb))); exact qE7) ?_
    first | refine AL.gstep rfl rfl rfl rfl rfl rfl rfl qB2 ?_ | refine AL.gskip rfl rfl rfl rfl rfl rfl rfl ?_ | refine AL.gnone rfl rfl rfl rfl rfl ?_ | refine AL.gmay rfl rfl rfl rfl rfl rfl (fun hb => by (try (apply AStepD.uncond 16 rfl (gpf hb))); exact qB2) ?_ | refine AL.gmay2 rfl rfl rfl rfl rfl rfl (fun _ hb => by (try (apply AStepD.uncond 16 rfl (gpf hb))); exact qB2) ?_
    first | refine AL.gstep rfl rfl rfl rfl rfl rfl rfl qF3 ?_ | refine AL.gskip rfl rfl rfl rfl rfl rfl rfl ?_ | refine AL.gnone rfl rfl rfl rfl rfl ?_ | refine AL.gmay rfl rfl rfl rfl rfl rfl (fun hb => by (try (apply AStepD.uncond 17 rfl (gpf hb))); exact qF3) ?_ | refine AL.gmay2 rfl rfl rfl rfl rfl rfl (fun _ hb => by (try (apply AStepD.uncond 17 rfl (gpf hb))); exact qF3) ?_
    refine AL.step rfl rfl rfl qF9 ?_
    refine AL.step rfl rfl rfl qA16 ?_
    first | refine AL.gstep rfl rfl rfl rfl rfl rfl rfl qF10 ?_ | refine AL.gskip rfl rfl rfl rfl rfl rfl rfl ?_ | refine AL.gnone rfl rfl rfl rfl rfl ?_ | refine AL.gmay rfl rfl rfl rfl rfl rfl qF11 ?_ | refine AL.gmay2 rfl rfl rfl rfl rfl rfl qF12 ?_
    first | refine AL.gstep rfl rfl rfl rfl rfl rfl rfl qB2 ?_ | refine AL.gskip rfl rfl rfl rfl rfl rfl rfl ?_ | refine AL.gnone rfl rfl rfl rfl rfl ?_ | refine AL.gmay rfl rfl rfl rfl rfl rfl (fun hb => by (try (apply AStepD.uncond 21 rfl (gpf hb))); exact qB2) ?_ | refine AL.gmay2 rfl rfl rfl rfl rfl rfl (fun _ hb => by (try (apply AStepD.uncond 21 rfl (gpf hb))); exact qB2) ?_
    first | refine AL.gstep rfl rfl rfl rfl rfl rfl rfl qF2 ?_ | refine AL.gskip rfl rfl rfl rfl rfl rfl rfl ?_ | refine AL.gnone rfl rfl rfl rfl rfl ?_ | refine AL.gmay rfl rfl rfl rfl rfl rfl (fun hb => by (try (apply AStepD.uncond 22 rfl (gpf hb))); exact qF2) ?_ | refine AL.gmay2 rfl rfl rfl rfl rfl rfl (fun _ hb => by (try (apply AStepD.uncond 22 rfl (gpf hb))); exact qF2) ?_
    refine AL.step rfl rfl rfl qF9 ?_
    refine AL.step rfl rfl rfl qA16 ?_
    first | refine AL.gstep rfl rfl rfl rfl rfl rfl rfl qF10 ?_ | refine AL.gskip rfl rfl rfl rfl rfl rfl rfl ?_ | refine AL.gnone rfl rfl rfl rfl rfl ?_ | refine AL.gmay rfl rfl rfl rfl rfl rfl qF11 ?_ | refine AL.gmay2 rfl rfl rfl rfl rfl rfl qF12 ?_
    first | refine AL.gstep rfl rfl rfl rfl rfl rfl rfl qB2 ?_ | refine AL.gskip rfl rfl rfl rfl rfl rfl rfl ?_ | refine AL.gnone rfl rfl rfl rfl rfl ?_ | refine AL.gmay rfl rfl rfl rfl rfl rfl (fun hb => by (try (apply AStepD.uncond 26 rfl (gpf hb))); exact qB2) ?_ | refine AL.gmay2 rfl rfl rfl rfl rfl rfl (fun _ hb => by (try (apply AStepD.uncond 26 rfl (gpf hb))); exact qB2) ?_
    first | refine AL.gstep rfl rfl rfl rfl rfl rfl rfl qF3 ?_ | refine AL.gskip rfl rfl rfl rfl rfl rfl rfl ?_ | refine AL.gnone rfl rfl rfl rfl rfl ?_ | refine AL.gmay rfl rfl rfl rfl rfl rfl (fun hb => by (try (apply AStepD.uncond 27 rfl (gpf hb))); exact qF3) ?_ | refine AL.gmay2 rfl rfl rfl rfl rfl rfl (fun _ hb => by (try (apply AStepD.uncond 27 rfl (gpf hb))); exact qF3) ?_
    refine AL.step rfl rfl rfl qF9 ?_
    refine AL.nil_then (hK _ _ ?_); clear hK K
    refine AW.cond _ rfl (fun hc => ?_) (fun hc => ?_)
    · (try simp only [Bool.or_eq_true, Bool.and_eq_true, Bool.or_eq_false_iff, Bool.and_eq_false_iff, Bool.not_eq_true', Bool.not_eq_false', decide_eq_true_eq, decide_eq_false_iff_not, Int.not_lt, Int.not_le] at hc)
      have hno : okR l[i] = false := by simp only [okR, Bool.and_eq_false_iff, decide_eq_false_iff_not]; omega
      refine AW.seq_region (fun K hK => ?_)
      refine AL.step rfl rfl rfl qA13 ?_
      refine AL.nil_then (hK _ _ ?_); clear hK K
      refine AW.ret (RetQ.mk (.inr rfl) (retA_tmp rfl qA1 retA_nil) ⟨?_, qF6⟩)
      rw [rightB, not_all hil hno]; rfl
    · (try simp only [Bool.or_eq_true, Bool.and_eq_true, Bool.or_eq_false_iff, Bool.and_eq_false_iff, Bool.not_eq_true', Bool.not_eq_false', decide_eq_true_eq, decide_eq_false_iff_not, Int.not_lt, Int.not_le] at hc)
      have hyes : okR l[i] = true := by simp only [okR, Bool.and_eq_true, decide_eq_true_eq]; omega
      refine AW.skip ?_
      refine hK4 _ _ ?_; try clear hK4 K4
      refine AW.seq_region (fun K hK => ?_)
      refine AL.step rfl rfl rfl qA16 ?_
      refine AL.step rfl rfl rfl qA16 ?_
      refine AL.step rfl rfl rfl qF7 ?_
      refine AL.step rfl rfl rfl (by first | exact AStepD.val (AStepD.makeFunc rfl) (congrArg (AV.func _) (amap_cons qA1 amap_nil)) | exact AStepD.makeFunc rfl) ?_
      refine AL.step rfl rfl rfl (by exact AStepD.callf rfl en23 rfl (contains_calls _ (l.take i) 24 _ (fun o => decide (o.id = l[i].id)) en24 (by rw [List.length_take]; omega) fun a _ => same_calls _ a l[i] _ qA14)) ?_
      refine AL.nil_then (hK _ _ ?_); clear hK K
      refine AW.cond _ rfl (fun hc => ?_) (fun hc => ?_)
      · (try simp only [Bool.or_eq_true, Bool.and_eq_true, Bool.or_eq_false_iff, Bool.and_eq_false_iff, Bool.not_eq_true', Bool.not_eq_false', decide_eq_true_eq, decide_eq_false_iff_not, Int.not_lt, Int.not_le] at hc)
        refine AW.seq_region (fun K hK => ?_)
        refine AL.step rfl rfl rfl qA13 ?_
        refine AL.nil_then (hK _ _ ?_); clear hK K
        refine AW.ret (RetQ.mk (.inr rfl) (retA_tmp rfl qA1 retA_nil) ⟨?_, qF6⟩)
        rw [rightB, not_dist hil hc, Bool.and_false]; rfl
      · (try simp only [Bool.or_eq_true, Bool.and_eq_true, Bool.or_eq_false_iff, Bool.and_eq_false_iff, Bool.not_eq_true', Bool.not_eq_false', decide_eq_true_eq, decide_eq_false_iff_not, Int.not_lt, Int.not_le] at hc)
        refine AW.skip ?_
        refine hK3 _ _ ?_; try clear hK3 K3
        refine AW.region ?_
        refine AL.step rfl rfl rfl (by first | exact AStepD.add rfl rfl rfl (by first | exact IntWalk.i64_in _ (by omega) | exact IntWalk.i64_in _ (by simp only [Bool.or_eq_true, Bool.and_eq_true, Bool.or_eq_false_iff, Bool.and_eq_false_iff, Bool.not_eq_true', Bool.not_eq_false', decide_eq_true_eq, decide_eq_false_iff_not, Int.not_lt, Int.not_le, beq_iff_eq] at *; omega) | exact rfl) | exact AStepD.str_add rfl rfl rfl (by omega)) ?_
        refine AL.step rfl rfl rfl qA16 ?_
        refine AL.nil ?_
        refine ⟨i + 1, by omega, qA17, hil, qF6, ?_, ?_⟩
        · rw [all_next l i hil, hok, hyes]; rfl
        · rw [distB_next l i hil, hdi, hc]; rfl
  · (try simp only [Bool.or_eq_true, Bool.and_eq_true, Bool.or_eq_false_iff, Bool.and_eq_false_iff, Bool.not_eq_true', Bool.not_eq_false', decide_eq_true_eq, decide_eq_false_iff_not, Int.not_lt, Int.not_le] at hc)
    have hil : i = l.length := by omega
    rw [hil, List.take_length] at hok hdi
    refine AW.exit ?_
    refine hK1 _ _ ?_; try clear hK1 K1
    refine AW.seq_region (fun K hK => ?_)
    refine AL.step rfl rfl rfl qA16 ?_
    refine AL.step rfl rfl rfl qF8 ?_
    refine AL.step rfl rfl rfl (by exact AStepD.leq rfl rfl rfl) ?_
    refine AL.step rfl rfl rfl qA13 ?_
    refine AL.nil_then (hK _ _ ?_); clear hK K
    refine AW.ret (RetQ.mk (.inr rfl) (retA_tmp rfl qA1 retA_nil) ⟨?_, hk⟩)
    rw [rightB, hok, hdi]
    show AV.v (.bool (decide ((l.length : Int) ≤ 16))) = _
    congr 2
    simp only [Bool.true_and, decide_eq_decide]
    omega
end Go.Proofs.Ytmjookofajlcoaa
