/- The walk of the statement on rounds, by the program. -/
import Derived.Test.YtjiifddmcmbbnaaRO
namespace Go.Proofs.Ytjiifddmcmbbnaa
open Go.Ax
set_option linter.unusedSimpArgs false
set_option linter.unusedVariables false

theorem flat_id' (ms : List Mem) (k : Nat) (h : k < ms.length) : ((flat ms).drop (k * 5)).take 5 = ms[k].cells := flat_at ms k h

theorem AW.abs' {P : Program} {c : Code} {Q : APost} {T : Fr} {H : AHeap} {n : Nat} (C : Fr → AHeap → Prop) (h : C T H) (k : ∀ T' H', C T' H' → AW P c Q T' H' n) : AW P c Q T H n := k T H h
set_option maxHeartbeats 1000000 in
theorem rounds_law (ids : List Int) (nn rd : Int) : ACalls Try.prog 4 [.vec ids.length (intsA ids), .v (.int .i64 nn), .v (.int .i64 rd)] AHeap.empty (fun v _ => v = .v (.bool true)) := by
  have hil := intsA_length ids
  refine ACalls.of_body tok Try.func4 rfl Try.ntmps4 (Nat.le_of_ble_eq_true rfl) ?_
  refine AW.seq_region (fun K hK => ?_)
  refine AL.step rfl rfl rfl (by exact AStepD.assign' rfl (by (conv => lhs; whnf); all_goals exact rfl)) ?_
  refine AL.nil_then (hK _ _ ?_); clear hK K
  refine AW.seq_k (fun K hK => ?_)
  refine AW.seq_region (fun K hK => ?_)
  refine AL.step rfl rfl rfl (by exact AStepD.callf rfl en10 rfl (anchor_calls _)) ?_
  refine AL.step rfl rfl rfl (by first | exact AStepD.not rfl rfl | exact AStepD.neg rfl rfl (by first | exact IntWalk.i64_in _ (by omega) | exact rfl)) ?_
  refine AL.nil_then (hK _ _ ?_); clear hK K
  refine AW.cond_false rfl rfl (AW.skip (hK _ _ ?_)); clear hK K
  refine AW.seq_region (fun K hK => ?_)
  refine AL.call rfl rfl rfl (AStep.callf' rfl en11 rfl (new_ok _ 1 rfl)) ?_; rintro _ H1 ⟨rfl, hR1, hk1, hx1⟩
  refine AL.step rfl rfl rfl (by exact AStepD.move' rfl (by (conv => lhs; whnf); all_goals exact rfl)) ?_
  refine AL.step rfl rfl rfl (by exact AStepD.extract rfl rfl rfl) ?_
  refine AL.step rfl rfl rfl (by exact AStepD.extract rfl rfl rfl) ?_
  refine AL.step rfl rfl rfl (by exact AStepD.assign' rfl (by (conv => lhs; whnf); all_goals exact rfl)) ?_
  refine AL.step rfl rfl rfl (by exact AStepD.assign' rfl (by (conv => lhs; whnf); all_goals exact rfl)) ?_
  refine AL.nil_then (hK _ _ ?_); clear hK K
  refine AW.seq_k (fun K hK => ?_)
  refine AW.seq_region (fun K hK => ?_)
  refine AL.step rfl rfl rfl (by exact AStepD.move' rfl (by (conv => lhs; whnf); all_goals exact rfl)) ?_
  refine AL.step rfl rfl rfl (by first | exact AStepD.neq rfl rfl rfl | exact AStepD.str_neq rfl rfl rfl | exact (AStepD.ptr_nil tok (.inl ⟨_, _, rfl⟩) rfl rfl rfl).2 rfl | exact (AStepD.nil_nil tok rfl rfl rfl rfl).2 rfl | exact (AStepD.bool_eq tok rfl rfl rfl rfl).2 rfl | exact (AStepD.iface_nil tok rfl rfl rfl rfl).2 rfl | exact (AStepD.nilIface_nil tok rfl rfl rfl rfl).2 rfl) ?_
  refine AL.step rfl rfl rfl (by exact AStepD.move' rfl (by (conv => lhs; whnf); all_goals exact rfl)) ?_
  first | refine AL.gstep rfl rfl rfl rfl rfl rfl rfl (by exact AStepD.move' rfl (by (conv => lhs; whnf); all_goals exact rfl)) ?_ | refine AL.gskip rfl rfl rfl rfl rfl rfl rfl ?_ | refine AL.gnone rfl rfl rfl rfl rfl ?_ | refine AL.gmay rfl rfl rfl rfl rfl rfl (fun hb => by (try (apply AStepD.uncond 0 rfl (by first | (rw [hb]; done) | (rw [hb]; rfl) | (simp [hb]; done) | (simp_all; done) | exact guard_true hb))); (exact AStepD.move' rfl (by (conv => lhs; whnf); all_goals exact rfl))) ?_ | refine AL.gmay2 rfl rfl rfl rfl rfl rfl (fun hb1 hb => by (try (apply AStepD.uncond 0 rfl (by first | (rw [hb]; done) | (rw [hb]; rfl) | (simp [hb]; done) | (simp_all; done) | exact guard_true hb))); (exact AStepD.move' rfl (by (conv => lhs; whnf); all_goals exact rfl))) ?_
  first | refine AL.gstep rfl rfl rfl rfl rfl rfl rfl (by first | exact AStepD.len_str tok rfl rfl rfl rfl | exact AStepD.len_sl tok rfl (by (conv => lhs; whnf); all_goals exact rfl) (by first | exact IsSl.vec | exact IsSl.sl | exact IsSl.slc | exact IsSl.nil | with_reducible assumption) rfl rfl | exact AStepD.len_arr tok rfl rfl rfl) ?_ | refine AL.gskip rfl rfl rfl rfl rfl rfl rfl ?_ | refine AL.gnone rfl rfl rfl rfl rfl ?_ | refine AL.gmay rfl rfl rfl rfl rfl rfl (fun hb => by (try (apply AStepD.uncond 29 rfl (by first | (rw [hb]; done) | (rw [hb]; rfl) | (simp [hb]; done) | (simp_all; done) | exact guard_true hb))); (first | exact AStepD.len_str tok rfl rfl rfl rfl | exact AStepD.len_sl tok rfl (by (conv => lhs; whnf); all_goals exact rfl) (by first | exact IsSl.vec | exact IsSl.sl | exact IsSl.slc | exact IsSl.nil | with_reducible assumption) rfl rfl | exact AStepD.len_arr tok rfl rfl rfl)) ?_ | refine AL.gmay2 rfl rfl rfl rfl rfl rfl (fun hb1 hb => by (try (apply AStepD.uncond 29 rfl (by first | (rw [hb]; done) | (rw [hb]; rfl) | (simp [hb]; done) | (simp_all; done) | exact guard_true hb))); (first | exact AStepD.len_str tok rfl rfl rfl rfl | exact AStepD.len_sl tok rfl (by (conv => lhs; whnf); all_goals exact rfl) (by first | exact IsSl.vec | exact IsSl.sl | exact IsSl.slc | exact IsSl.nil | with_reducible assumption) rfl rfl | exact AStepD.len_arr tok rfl rfl rfl)) ?_
  first | refine AL.gstep rfl rfl rfl rfl rfl rfl rfl (by exact AStepD.gtr rfl rfl rfl) ?_ | refine AL.gskip rfl rfl rfl rfl rfl rfl rfl ?_ | refine AL.gnone rfl rfl rfl rfl rfl ?_ | refine AL.gmay rfl rfl rfl rfl rfl rfl (fun hb => by (try (apply AStepD.uncond 30 rfl (by first | (rw [hb]; done) | (rw [hb]; rfl) | (simp [hb]; done) | (simp_all; done) | exact guard_true hb))); (exact AStepD.gtr rfl rfl rfl)) ?_ | refine AL.gmay2 rfl rfl rfl rfl rfl rfl (fun hb1 hb => by (try (apply AStepD.uncond 30 rfl (by first | (rw [hb]; done) | (rw [hb]; rfl) | (simp [hb]; done) | (simp_all; done) | exact guard_true hb))); (exact AStepD.gtr rfl rfl rfl)) ?_
  refine AL.step rfl rfl rfl (by first | exact AStepD.pick_true' rfl rfl (by (conv => lhs; whnf); all_goals exact rfl) | exact AStepD.pick_false' rfl rfl (by (conv => lhs; whnf); all_goals exact rfl) | exact AStepD.and rfl _ _ _ rfl rfl (by intro h; first | (rw [h]; done) | (rw [h]; rfl) | (simp [h]; done) | (simp_all; done) | exact guard_true h) rfl | exact AStepD.and' rfl _ _ rfl rfl rfl | exact AStepD.or rfl _ _ _ rfl rfl rfl (by intro h; first | (rw [h]; done) | (rw [h]; rfl) | (simp [h]; done) | (simp_all; done) | exact guard_true h) | exact AStepD.or' rfl _ _ rfl rfl rfl) ?_
  refine AL.step rfl rfl rfl (by exact AStepD.move' rfl (by (conv => lhs; whnf); all_goals exact rfl)) ?_
  first | refine AL.gstep rfl rfl rfl rfl rfl rfl rfl (by exact AStepD.move' rfl (by (conv => lhs; whnf); all_goals exact rfl)) ?_ | refine AL.gskip rfl rfl rfl rfl rfl rfl rfl ?_ | refine AL.gnone rfl rfl rfl rfl rfl ?_ | refine AL.gmay rfl rfl rfl rfl rfl rfl (fun hb => by (try (apply AStepD.uncond 1 rfl (by first | (rw [hb]; done) | (rw [hb]; rfl) | (simp [hb]; done) | (simp_all; done) | exact guard_true hb))); (exact AStepD.move' rfl (by (conv => lhs; whnf); all_goals exact rfl))) ?_ | refine AL.gmay2 rfl rfl rfl rfl rfl rfl (fun hb1 hb => by (try (apply AStepD.uncond 1 rfl (by first | (rw [hb]; done) | (rw [hb]; rfl) | (simp [hb]; done) | (simp_all; done) | exact guard_true hb))); (exact AStepD.move' rfl (by (conv => lhs; whnf); all_goals exact rfl))) ?_
  first | refine AL.gstep rfl rfl rfl rfl rfl rfl rfl (by exact AStepD.lss rfl rfl rfl) ?_ | refine AL.gskip rfl rfl rfl rfl rfl rfl rfl ?_ | refine AL.gnone rfl rfl rfl rfl rfl ?_ | refine AL.gmay rfl rfl rfl rfl rfl rfl (fun hb => by (try (apply AStepD.uncond 34 rfl (by first | (rw [hb]; done) | (rw [hb]; rfl) | (simp [hb]; done) | (simp_all; done) | exact guard_true hb))); (exact AStepD.lss rfl rfl rfl)) ?_ | refine AL.gmay2 rfl rfl rfl rfl rfl rfl (fun hb1 hb => by (try (apply AStepD.uncond 34 rfl (by first | (rw [hb]; done) | (rw [hb]; rfl) | (simp [hb]; done) | (simp_all; done) | exact guard_true hb))); (exact AStepD.lss rfl rfl rfl)) ?_
  refine AL.step rfl rfl rfl (by first | exact AStepD.pick_true' rfl rfl (by (conv => lhs; whnf); all_goals exact rfl) | exact AStepD.pick_false' rfl rfl (by (conv => lhs; whnf); all_goals exact rfl) | exact AStepD.and rfl _ _ _ rfl rfl (by intro h; first | (rw [h]; done) | (rw [h]; rfl) | (simp [h]; done) | (simp_all; done) | exact guard_true h) rfl | exact AStepD.and' rfl _ _ rfl rfl rfl | exact AStepD.or rfl _ _ _ rfl rfl rfl (by intro h; first | (rw [h]; done) | (rw [h]; rfl) | (simp [h]; done) | (simp_all; done) | exact guard_true h) | exact AStepD.or' rfl _ _ rfl rfl rfl) ?_
  refine AL.step rfl rfl rfl (by exact AStepD.move' rfl (by (conv => lhs; whnf); all_goals exact rfl)) ?_
  first | refine AL.gstep rfl rfl rfl rfl rfl rfl rfl (by exact AStepD.move' rfl (by (conv => lhs; whnf); all_goals exact rfl)) ?_ | refine AL.gskip rfl rfl rfl rfl rfl rfl rfl ?_ | refine AL.gnone rfl rfl rfl rfl rfl ?_ | refine AL.gmay rfl rfl rfl rfl rfl rfl (fun hb => by (try (apply AStepD.uncond 1 rfl (by first | (rw [hb]; done) | (rw [hb]; rfl) | (simp [hb]; done) | (simp_all; done) | exact guard_true hb))); (exact AStepD.move' rfl (by (conv => lhs; whnf); all_goals exact rfl))) ?_ | refine AL.gmay2 rfl rfl rfl rfl rfl rfl (fun hb1 hb => by (try (apply AStepD.uncond 1 rfl (by first | (rw [hb]; done) | (rw [hb]; rfl) | (simp [hb]; done) | (simp_all; done) | exact guard_true hb))); (exact AStepD.move' rfl (by (conv => lhs; whnf); all_goals exact rfl))) ?_
  first | refine AL.gstep rfl rfl rfl rfl rfl rfl rfl (by exact AStepD.gtr rfl rfl rfl) ?_ | refine AL.gskip rfl rfl rfl rfl rfl rfl rfl ?_ | refine AL.gnone rfl rfl rfl rfl rfl ?_ | refine AL.gmay rfl rfl rfl rfl rfl rfl (fun hb => by (try (apply AStepD.uncond 38 rfl (by first | (rw [hb]; done) | (rw [hb]; rfl) | (simp [hb]; done) | (simp_all; done) | exact guard_true hb))); (exact AStepD.gtr rfl rfl rfl)) ?_ | refine AL.gmay2 rfl rfl rfl rfl rfl rfl (fun hb1 hb => by (try (apply AStepD.uncond 38 rfl (by first | (rw [hb]; done) | (rw [hb]; rfl) | (simp [hb]; done) | (simp_all; done) | exact guard_true hb))); (exact AStepD.gtr rfl rfl rfl)) ?_
  refine AL.step rfl rfl rfl (by first | exact AStepD.pick_true' rfl rfl (by (conv => lhs; whnf); all_goals exact rfl) | exact AStepD.pick_false' rfl rfl (by (conv => lhs; whnf); all_goals exact rfl) | exact AStepD.and rfl _ _ _ rfl rfl (by intro h; first | (rw [h]; done) | (rw [h]; rfl) | (simp [h]; done) | (simp_all; done) | exact guard_true h) rfl | exact AStepD.and' rfl _ _ rfl rfl rfl | exact AStepD.or rfl _ _ _ rfl rfl rfl (by intro h; first | (rw [h]; done) | (rw [h]; rfl) | (simp [h]; done) | (simp_all; done) | exact guard_true h) | exact AStepD.or' rfl _ _ rfl rfl rfl) ?_
  refine AL.step rfl rfl rfl (by exact AStepD.move' rfl (by (conv => lhs; whnf); all_goals exact rfl)) ?_
  first | refine AL.gstep rfl rfl rfl rfl rfl rfl rfl (by exact AStepD.move' rfl (by (conv => lhs; whnf); all_goals exact rfl)) ?_ | refine AL.gskip rfl rfl rfl rfl rfl rfl rfl ?_ | refine AL.gnone rfl rfl rfl rfl rfl ?_ | refine AL.gmay rfl rfl rfl rfl rfl rfl (fun hb => by (try (apply AStepD.uncond 2 rfl (by first | (rw [hb]; done) | (rw [hb]; rfl) | (simp [hb]; done) | (simp_all; done) | exact guard_true hb))); (exact AStepD.move' rfl (by (conv => lhs; whnf); all_goals exact rfl))) ?_ | refine AL.gmay2 rfl rfl rfl rfl rfl rfl (fun hb1 hb => by (try (apply AStepD.uncond 2 rfl (by first | (rw [hb]; done) | (rw [hb]; rfl) | (simp [hb]; done) | (simp_all; done) | exact guard_true hb))); (exact AStepD.move' rfl (by (conv => lhs; whnf); all_goals exact rfl))) ?_
  first | refine AL.gstep rfl rfl rfl rfl rfl rfl rfl (by exact AStepD.lss rfl rfl rfl) ?_ | refine AL.gskip rfl rfl rfl rfl rfl rfl rfl ?_ | refine AL.gnone rfl rfl rfl rfl rfl ?_ | refine AL.gmay rfl rfl rfl rfl rfl rfl (fun hb => by (try (apply AStepD.uncond 42 rfl (by first | (rw [hb]; done) | (rw [hb]; rfl) | (simp [hb]; done) | (simp_all; done) | exact guard_true hb))); (exact AStepD.lss rfl rfl rfl)) ?_ | refine AL.gmay2 rfl rfl rfl rfl rfl rfl (fun hb1 hb => by (try (apply AStepD.uncond 42 rfl (by first | (rw [hb]; done) | (rw [hb]; rfl) | (simp [hb]; done) | (simp_all; done) | exact guard_true hb))); (exact AStepD.lss rfl rfl rfl)) ?_
  refine AL.step rfl rfl rfl (by first | exact AStepD.pick_true' rfl rfl (by (conv => lhs; whnf); all_goals exact rfl) | exact AStepD.pick_false' rfl rfl (by (conv => lhs; whnf); all_goals exact rfl) | exact AStepD.and rfl _ _ _ rfl rfl (by intro h; first | (rw [h]; done) | (rw [h]; rfl) | (simp [h]; done) | (simp_all; done) | exact guard_true h) rfl | exact AStepD.and' rfl _ _ rfl rfl rfl | exact AStepD.or rfl _ _ _ rfl rfl rfl (by intro h; first | (rw [h]; done) | (rw [h]; rfl) | (simp [h]; done) | (simp_all; done) | exact guard_true h) | exact AStepD.or' rfl _ _ rfl rfl rfl) ?_
  refine AL.step rfl rfl rfl (by exact AStepD.move' rfl (by (conv => lhs; whnf); all_goals exact rfl)) ?_
  first | refine AL.gstep rfl rfl rfl rfl rfl rfl rfl (by exact AStepD.move' rfl (by (conv => lhs; whnf); all_goals exact rfl)) ?_ | refine AL.gskip rfl rfl rfl rfl rfl rfl rfl ?_ | refine AL.gnone rfl rfl rfl rfl rfl ?_ | refine AL.gmay rfl rfl rfl rfl rfl rfl (fun hb => by (try (apply AStepD.uncond 2 rfl (by first | (rw [hb]; done) | (rw [hb]; rfl) | (simp [hb]; done) | (simp_all; done) | exact guard_true hb))); (exact AStepD.move' rfl (by (conv => lhs; whnf); all_goals exact rfl))) ?_ | refine AL.gmay2 rfl rfl rfl rfl rfl rfl (fun hb1 hb => by (try (apply AStepD.uncond 2 rfl (by first | (rw [hb]; done) | (rw [hb]; rfl) | (simp [hb]; done) | (simp_all; done) | exact guard_true hb))); (exact AStepD.move' rfl (by (conv => lhs; whnf); all_goals exact rfl))) ?_
  first | refine AL.gstep rfl rfl rfl rfl rfl rfl rfl (by exact AStepD.gtr rfl rfl rfl) ?_ | refine AL.gskip rfl rfl rfl rfl rfl rfl rfl ?_ | refine AL.gnone rfl rfl rfl rfl rfl ?_ | refine AL.gmay rfl rfl rfl rfl rfl rfl (fun hb => by (try (apply AStepD.uncond 46 rfl (by first | (rw [hb]; done) | (rw [hb]; rfl) | (simp [hb]; done) | (simp_all; done) | exact guard_true hb))); (exact AStepD.gtr rfl rfl rfl)) ?_ | refine AL.gmay2 rfl rfl rfl rfl rfl rfl (fun hb1 hb => by (try (apply AStepD.uncond 46 rfl (by first | (rw [hb]; done) | (rw [hb]; rfl) | (simp [hb]; done) | (simp_all; done) | exact guard_true hb))); (exact AStepD.gtr rfl rfl rfl)) ?_
  refine AL.step rfl rfl rfl (by first | exact AStepD.pick_true' rfl rfl (by (conv => lhs; whnf); all_goals exact rfl) | exact AStepD.pick_false' rfl rfl (by (conv => lhs; whnf); all_goals exact rfl) | exact AStepD.and rfl _ _ _ rfl rfl (by intro h; first | (rw [h]; done) | (rw [h]; rfl) | (simp [h]; done) | (simp_all; done) | exact guard_true h) rfl | exact AStepD.and' rfl _ _ rfl rfl rfl | exact AStepD.or rfl _ _ _ rfl rfl rfl (by intro h; first | (rw [h]; done) | (rw [h]; rfl) | (simp [h]; done) | (simp_all; done) | exact guard_true h) | exact AStepD.or' rfl _ _ rfl rfl rfl) ?_
  refine AL.nil_then (hK _ _ ?_); clear hK K
  refine AW.cond _ rfl (fun hc => ?_) (fun hc => ?_)
  · refine AW.seq_region (fun K hK => ?_)
    refine AL.step rfl rfl rfl (by exact AStepD.move' rfl (by (conv => lhs; whnf); all_goals exact rfl)) ?_
    refine AL.step rfl rfl rfl (by first | exact AStepD.eql rfl rfl rfl | exact AStepD.str_eql rfl rfl rfl | exact (AStepD.ptr_nil tok (.inl ⟨_, _, rfl⟩) rfl rfl rfl).1 rfl | exact (AStepD.nil_nil tok rfl rfl rfl rfl).1 rfl | exact (AStepD.bool_eq tok rfl rfl rfl rfl).1 rfl | exact (AStepD.iface_nil tok rfl rfl rfl rfl).1 rfl | exact (AStepD.nilIface_nil tok rfl rfl rfl rfl).1 rfl) ?_
    refine AL.step rfl rfl rfl (by exact AStepD.assign' rfl (by (conv => lhs; whnf); all_goals exact rfl)) ?_
    refine AL.nil_then (hK _ _ ?_); clear hK K
    exact AW.ret (RetQ.mk (.inr rfl) (retA_tmp rfl (by (conv => lhs; whnf); all_goals exact rfl) retA_nil) rfl)
  refine AW.skip (hK _ _ ?_); clear hK K
  have hb : ids.length ≤ 60 ∧ 1 ≤ nn ∧ nn ≤ 20 ∧ 0 ≤ rd ∧ rd ≤ 60 := by
    simp only [Bool.or_eq_false_iff, decide_eq_false_iff_not] at hc
    omega
  clear hc
  obtain ⟨hll, hn1, hn2, hrd1, hrd2⟩ := hb
  refine AW.sub (T' := [(7, .ptr (AHeap.empty.next + 1) 0), (0, .vec ids.length (intsA ids)), (1, .v (.int .i64 nn)), (2, .v (.int .i64 rd))]) (by repeat' (first | exact SubT.nil _ | refine SubT.cons_eq (by (conv => lhs; whnf); all_goals first | exact rfl | (simp; done) | (simp; omega)) ?_)) ?_
  have hn1l : AHeap.empty.next + 1 < H1.next := by omega
  clear hk1 hx1
  generalize AHeap.empty.next + 1 = n at hR1 hn1l ⊢
  generalize AHeap.empty.next = B at hR1 ⊢
  refine AW.seq_k (fun K hK => ?_)
  refine AW.seq_region (fun K hK => ?_)
  refine AL.step rfl rfl rfl (by exact AStepD.move' rfl (by (conv => lhs; whnf); all_goals exact rfl)) ?_
  refine AL.step rfl rfl rfl (by first | exact AStepD.len_str tok rfl rfl rfl rfl | exact AStepD.len_sl tok rfl (by (conv => lhs; whnf); all_goals exact rfl) (by first | exact IsSl.vec | exact IsSl.sl | exact IsSl.slc | exact IsSl.nil | with_reducible assumption) rfl rfl | exact AStepD.len_arr tok rfl rfl rfl) ?_
  refine AL.step rfl rfl rfl (by exact AStepD.move' rfl (by (conv => lhs; whnf); all_goals exact rfl)) ?_
  refine AL.nil_then (hK _ _ ?_); clear hK K
  refine AW.block ?_
  refine AW.loop_at (ι := Nat × Nat × Ros) (fun x => [(53, .v (.int .i64 x.1)), (52, .v (.int .i64 ids.length)), (51, .vec ids.length (intsA ids)), (7, .ptr n 0), (1, .v (.int .i64 nn)), (2, .v (.int .i64 rd))])
    (fun x H' => x.1 ≤ ids.length ∧ Inv x.2.2 ∧ MemOK x.2.2 ∧ x.2.2.cur = 0 ∧ RosAt H' n x.2.1 B x.2.2 ∧ x.2.1 < H'.next) (fun x => ids.length - x.1) (0, n, ⟨1, [], [], 0⟩) (by repeat' (first | exact SubT.nil _ | refine SubT.cons_eq (by (conv => lhs; whnf); all_goals first | exact rfl | (simp; done) | (simp; omega)) ?_)) ⟨Nat.zero_le _, Inv.new 1, MemOK.new 1, rfl, hR1, hn1l⟩ ?_
  rintro ⟨i, L, r⟩ H2 ⟨hi, hI, hO, hcu, hR, hLl⟩
  dsimp only at hi hI hO hcu hR hLl ⊢
  refine AW.seq_region (fun K hK => ?_)
  refine AL.step rfl rfl rfl (by exact AStepD.lss rfl rfl rfl) ?_
  refine AL.nil_then (hK _ _ ?_); clear hK K
  refine AW.seq_k (fun K1 hK1 => ?_)
  refine AW.cond _ rfl (fun hc => ?_) (fun hc => ?_)
  · refine AW.skip (hK1 _ _ ?_); clear hK1 K1
    have hil2 : i < ids.length := by have := of_decide_eq_true hc; omega
    have hat : ((intsA ids).drop (i * 1))[0]? = some (.v (.int .i64 ids[i])) := by rw [Nat.mul_one, List.getElem?_drop, Nat.add_zero]; exact intsA_at ids i hil2
    refine AW.seq_k (fun K1 hK1 => ?_)
    refine AW.block ?_
    refine AW.seq_region (fun K hK => ?_)
    refine AL.step rfl rfl rfl (by first | exact AStepD.indexAddr_vec' tok rfl rfl rfl rfl rfl rfl (show _ = 1 from rfl) (by first | exact rfl | exact (Int.toNat_of_nonneg (by omega)).symm) (by first | omega | (simp; done) | (simp; omega) | (simp only [over, List.length_append, List.length_take, List.length_drop, *]; omega) | (simp_all; done) | (simp_all; omega)) | exact AStepD.indexAddr_sl' tok rfl rfl rfl rfl rfl rfl (show _ = 1 from rfl) (by first | exact rfl | exact (Int.toNat_of_nonneg (by omega)).symm) (by first | omega | (simp; done) | (simp; omega) | (simp only [over, List.length_append, List.length_take, List.length_drop, *]; omega) | (simp_all; done) | (simp_all; omega)) (by first | (simp only [Nat.zero_add, Nat.zero_mul, Nat.sub_zero, Nat.add_zero]; exact rfl) | exact rfl) | exact AStepD.indexAddr_arr' tok rfl rfl rfl rfl rfl rfl (show _ = 1 from rfl) (by first | exact rfl | exact (Int.toNat_of_nonneg (by omega)).symm) (by first | omega | (simp; done) | (simp; omega) | (simp only [over, List.length_append, List.length_take, List.length_drop, *]; omega) | (simp_all; done) | (simp_all; omega)) (by first | (simp only [Nat.zero_add, Nat.zero_mul, Nat.sub_zero, Nat.add_zero]; exact rfl) | exact rfl)) ?_
    refine AL.step rfl rfl rfl (by first | exact AStepD.load_one tok rfl rfl rfl rfl (by first | with_reducible assumption | (simp (disch := (first | omega | (refine id ?_; simp only [za, zb, zc]; done) | (simp only [za, zb, zc]; omega))) only [z1, z2, z3, z4, z5, z6, z7, z8, ne_eq, *]; done) | (simp (disch := (first | omega | (refine id ?_; simp only [za, zb, zc]; done) | (simp only [za, zb, zc]; omega))) only [z1, z2, z3, z4, z5, z6, z7, z8, ne_eq, *]; exact rfl)) rfl (by first | with_reducible assumption | exact rfl) | exact AStepD.load_one_ip tok rfl rfl rfl rfl rfl (by first | with_reducible assumption | exact rfl)) ?_
    refine AL.step rfl rfl rfl (by exact AStepD.assign' rfl (by (conv => lhs; whnf); all_goals exact rfl)) ?_
    refine AL.nil_then (hK _ _ ?_); clear hK K
    refine AW.region ?_
    refine AL.step rfl rfl rfl (by exact AStepD.move' rfl (by (conv => lhs; whnf); all_goals exact rfl)) ?_
    refine AL.step rfl rfl rfl (by exact AStepD.move' rfl (by (conv => lhs; whnf); all_goals exact rfl)) ?_
    refine AL.call rfl rfl rfl (AStep.callf' rfl en13 rfl (add_calls _ n L B r ids[i] 0 hR hI.1 hI.2)) ?_; rintro _ H3 ⟨L3, rfl, hR3, hO3⟩
    refine AL.nil ?_
    refine hK1 _ _ ?_; clear hK1 K1
    refine AW.region ?_
    refine AL.step rfl rfl rfl (by first | exact AStepD.add rfl rfl rfl (by first | exact IntWalk.i64_in _ (by omega) | exact rfl) | exact AStepD.str_add rfl rfl rfl (by omega)) ?_
    refine AL.step rfl rfl rfl (by exact AStepD.move' rfl (by (conv => lhs; whnf); all_goals exact rfl)) ?_
    refine AL.nil ?_
    refine ⟨(i + 1, L3, if addE r ids[i] 0 = 0 then addR r ids[i] else r), ?_, (by repeat' (first | exact SubT.nil _ | refine SubT.cons_eq (by (conv => lhs; whnf); all_goals first | exact rfl | (simp; done) | (simp; omega)) ?_)), hil2, ?_, ?_, ?_, hR3, by obtain ⟨o1, _, o3⟩ := hO3; show L3 < H3.next; omega⟩
    · show ids.length - (i + 1) < ids.length - i
      omega
    · show Inv (if _ then _ else _)
      split
      · rename_i he; exact hI.add he
      · exact hI
    · show MemOK (if _ then _ else _)
      split
      · rename_i he; exact hO.add he
      · exact hO
    · show Ros.cur (if _ then _ else _) = 0
      split
      · exact hcu
      · exact hcu
  · refine AW.exit ?_
    refine hK _ _ ?_; clear hK1 K1 hK K
    have h15 := hI.2
    have hsrt := hI.1
    have hall := allBut_zero hO
    obtain ⟨N, hN⟩ : ∃ N, r.ms.length = N := ⟨_, rfl⟩
    have hlc := list_calls H2 n L B r hR (by omega)
    obtain ⟨c, hcd⟩ : ∃ c, many nn (allBut r.ms 0).length = c := ⟨_, rfl⟩
    have halN : (allBut r.ms 0).length = N := by rw [hall, List.length_map, hN]
    have hcN : c ≤ N := by rw [← hcd, halN]; exact many_le _ _
    have hcm : (if (N : Int) < nn then (N : Int) else nn) = (c : Int) := by
      rw [← hcd, halN]
      unfold many
      split <;> omega
    rw [hN] at hlc
    refine AW.seq_region (fun K hK => ?_)
    refine AL.step rfl rfl rfl (by exact AStepD.move' rfl (by (conv => lhs; whnf); all_goals exact rfl)) ?_
    refine AL.step rfl rfl rfl (by exact AStepD.callf rfl en12 rfl hlc) ?_
    refine AL.step rfl rfl rfl (by exact AStepD.assign' rfl (by (conv => lhs; whnf); all_goals exact rfl)) ?_
    refine AL.nil_then (hK _ _ ?_); clear hK K
    refine AW.lts fun hlt2 => ?_
    refine AW.seq_region (fun K hK => ?_)
    refine AL.step rfl rfl rfl (by exact AStepD.move' rfl (by (conv => lhs; whnf); all_goals exact rfl)) ?_
    refine AL.step rfl rfl rfl (by first | exact AStepD.len_str tok rfl rfl rfl rfl | exact AStepD.len_sl tok rfl (by (conv => lhs; whnf); all_goals exact rfl) (by first | exact IsSl.vec | exact IsSl.sl | exact IsSl.slc | exact IsSl.nil | with_reducible assumption) rfl rfl | exact AStepD.len_arr tok rfl rfl rfl) ?_
    refine AL.step rfl rfl rfl (by exact AStepD.makeSlice (n := N) tok rfl rfl rfl rfl rfl rfl rfl rfl (show _ = 1 from rfl) (show 8 * N ≤ _ by omega) (by omega)) ?_
    refine AL.step rfl rfl rfl (by exact AStepD.assign' rfl (by (conv => lhs; whnf); all_goals exact rfl)) ?_
    refine AL.nil_then (hK _ _ ?_); clear hK K
    have hz0 : zerosA (tt 3).zero N = intsA (cnts 0 N 0) := by
      have : cnts 0 N 0 = List.replicate N 0 := by
        refine List.ext_getElem (by simp [cnts]) fun i h1 h2 => ?_
        rw [cnts_at, cnt_zero]
        simp
      rw [this]
      refine List.ext_getElem? fun i => ?_
      by_cases hi : i < N
      · simp [zerosA, intsA, hi, tt, ttl, ty3, Value.cells, Nat.mod_one]
      · rw [List.getElem?_eq_none (by simp [zerosA, tt, ttl, ty3, Value.cells]; omega), List.getElem?_eq_none (by simp [intsA]; omega)]
    refine AW.abs (fun T' H' => ∃ D : Nat, SubT T' [(12, .sl D 0 N 1), (11, .vec N (flat r.ms)), (7, .ptr n 0), (1, .v (.int .i64 nn)), (2, .v (.int .i64 rd))] ∧ RosAt H' n L B r ∧ H'.get D = some (.cells 3 (intsA (cnts 0 N 0))) ∧ D ≠ n ∧ D ≠ L ∧ D ≠ B ∧ L < H'.next) ?_ ?_
    · have hnl : n < H2.next := by obtain ⟨x0, h, _⟩ := hR; exact hlt2 _ _ h
      have hBl : B < H2.next := by obtain ⟨x0, _, _, h⟩ := hR; exact hlt2 _ _ h
      refine ⟨H2.next, (by repeat' (first | exact SubT.nil _ | refine SubT.cons_eq (by (conv => lhs; whnf); all_goals first | exact rfl | (simp; done) | (simp; omega)) ?_)), hR.keep hlt2 (by repeat' (first | exact Keep.refl _ | apply Keep.new | apply Keep.set | apply Keep.del | (first | omega | (simp only [za, zb, zc]; omega)))), by rw [← hz0]; exact (by first | with_reducible assumption | (simp (disch := (first | omega | (refine id ?_; simp only [za, zb, zc]; done) | (simp only [za, zb, zc]; omega))) only [z1, z2, z3, z4, z5, z6, z7, z8, ne_eq, *]; done) | (simp (disch := (first | omega | (refine id ?_; simp only [za, zb, zc]; done) | (simp only [za, zb, zc]; omega))) only [z1, z2, z3, z4, z5, z6, z7, z8, ne_eq, *]; exact rfl)), by omega, by omega, by omega, (by (try simp only [za, zb, zc, ne_eq]); omega)⟩
    rintro T3 H3 ⟨D, hs3, hR3, hD3, hDn, hDL, hDB, hL3⟩
    refine AW.sub hs3 ?_
    clear hs3
    obtain ⟨R, hRd⟩ : ∃ R : Nat, rd = (R : Int) := ⟨rd.toNat, by omega⟩
    have hR60 : R ≤ 60 := by omega
    have hRc : ∀ k, k ≤ R → k * c ≤ 900 := fun k hk => Nat.le_trans (Nat.mul_le_mul hk (show c ≤ 15 by omega)) (by omega)
    have hfl := flat_length r.ms
    subst hRd
    refine AW.seq_k (fun K hK => ?_)
    refine AW.seq_region (fun K hK => ?_)
    refine AL.step rfl rfl rfl (by exact AStepD.move' rfl (by (conv => lhs; whnf); all_goals exact rfl)) ?_
    refine AL.step rfl rfl rfl (by exact AStepD.move' rfl (by (conv => lhs; whnf); all_goals exact rfl)) ?_
    refine AL.nil_then (hK _ _ ?_); clear hK K
    refine AW.block ?_
    refine AW.loop_at (ι := Nat) (fun k => [(67, .v (.int .i64 k)), (66, .v (.int .i64 R)), (12, .sl D 0 N 1), (11, .vec N (flat r.ms)), (7, .ptr n 0), (1, .v (.int .i64 nn)), (2, .v (.int .i64 R))])
      (fun k H' => k ≤ R ∧ RosAt H' n L B { r with cur := k * c } ∧ H'.get D = some (.cells 3 (intsA (cnts (k * c) N 0))) ∧ L < H'.next) (fun k => R - k) 0 (by repeat' (first | exact SubT.nil _ | refine SubT.cons_eq (by (conv => lhs; whnf); all_goals first | exact rfl | (simp; done) | (simp; omega)) ?_)) ⟨Nat.zero_le _, ?_, ?_, hL3⟩ ?_
    · rw [Nat.zero_mul, ← hcu]; exact hR3
    · rw [Nat.zero_mul]; exact hD3
    rintro k H4 ⟨hk, hR4, hD4, hL4⟩
    have hkc := hRc k hk
    refine AW.seq_region (fun K hK => ?_)
    refine AL.step rfl rfl rfl (by exact AStepD.lss rfl rfl rfl) ?_
    refine AL.nil_then (hK _ _ ?_); clear hK K
    refine AW.seq_k (fun K1 hK1 => ?_)
    refine AW.cond _ rfl (fun hc1 => ?_) (fun hc1 => ?_)
    · refine AW.skip (hK1 _ _ ?_); clear hK1 K1
      have hkR : k < R := by have := of_decide_eq_true hc1; omega
      refine AW.lts fun hlt4 => ?_
      have hDl4 := hlt4 _ _ hD4
      generalize hl : turn (allBut r.ms 0) (k * c) c = l
      have hll2 : l.length = c := by rw [← hl, turn_length]
      have hlat : ∀ (j : Nat) (h : j < l.length), ∃ h2 : (k * c + j) % N < r.ms.length, l[j] = (r.ms[(k * c + j) % N]).i := by
        intro j h
        have hN0 : 0 < N := by omega
        have hx : (k * c + j) % N < N := Nat.mod_lt _ hN0
        refine ⟨by omega, ?_⟩
        subst hl
        simp only [turn, List.getElem_map, List.getElem_range]
        rw [halN]
        simp only [hall, List.getD_eq_getElem?_getD]
        rw [List.getElem?_eq_getElem (by rw [List.length_map]; omega)]
        simp
      have hia := intsA_length l
      have hnk := next_ok H4 n L B { r with cur := k * c } nn 0 c l hR4 hI (show k * c ≤ _ by omega) hcd hl
      rw [hll2] at hnk
      refine AW.seq_k (fun K1 hK1 => ?_)
      refine AW.block ?_
      refine AW.seq_region (fun K hK => ?_)
      refine AL.step rfl rfl rfl (by exact AStepD.move' rfl (by (conv => lhs; whnf); all_goals exact rfl)) ?_
      refine AL.step rfl rfl rfl (by exact AStepD.move' rfl (by (conv => lhs; whnf); all_goals exact rfl)) ?_
      refine AL.call rfl rfl rfl (AStep.callf' rfl en14 rfl hnk) ?_; rintro _ H5 ⟨rfl, hR5, hO5⟩
      refine AL.step rfl rfl rfl (by exact AStepD.assign' rfl (by (conv => lhs; whnf); all_goals exact rfl)) ?_
      refine AL.nil_then (hK _ _ ?_); clear hK K
      have hD5 := (hO5.2.1 D hDl4 hDn hDL hDB).trans hD4
      have hL5 : L < H5.next := Nat.lt_of_lt_of_le hL4 hO5.1
      refine AW.seq_k (fun K2 hK2 => ?_)
      refine AW.seq_region (fun K hK => ?_)
      refine AL.step rfl rfl rfl (by exact AStepD.move' rfl (by (conv => lhs; whnf); all_goals exact rfl)) ?_
      refine AL.step rfl rfl rfl (by first | exact AStepD.len_str tok rfl rfl rfl rfl | exact AStepD.len_sl tok rfl (by (conv => lhs; whnf); all_goals exact rfl) (by first | exact IsSl.vec | exact IsSl.sl | exact IsSl.slc | exact IsSl.nil | with_reducible assumption) rfl rfl | exact AStepD.len_arr tok rfl rfl rfl) ?_
      refine AL.step rfl rfl rfl (by exact AStepD.move' rfl (by (conv => lhs; whnf); all_goals exact rfl)) ?_
      refine AL.step rfl rfl rfl (by exact AStepD.move' rfl (by (conv => lhs; whnf); all_goals exact rfl)) ?_
      refine AL.step rfl rfl rfl (by first | exact AStepD.len_str tok rfl rfl rfl rfl | exact AStepD.len_sl tok rfl (by (conv => lhs; whnf); all_goals exact rfl) (by first | exact IsSl.vec | exact IsSl.sl | exact IsSl.slc | exact IsSl.nil | with_reducible assumption) rfl rfl | exact AStepD.len_arr tok rfl rfl rfl) ?_
      refine AL.step rfl rfl rfl (by exact AStepD.val (AStepD.min2 rfl rfl rfl rfl) (show _ = AV.v (.int .i64 (c : Int)) from congrArg (fun q => AV.v (.int .i64 q)) hcm)) ?_
      refine AL.step rfl rfl rfl (by exact AStepD.bool (AStepD.neq rfl rfl rfl) (c := false) (by simp)) ?_
      refine AL.nil_then (hK _ _ ?_); clear hK K
      refine AW.cond_false rfl rfl (AW.skip (hK2 _ _ ?_)); clear hK2 K2
      refine AW.seq_region (fun K hK => ?_)
      refine AL.step rfl rfl rfl (by exact AStepD.move' rfl (by (conv => lhs; whnf); all_goals exact rfl)) ?_
      refine AL.step rfl rfl rfl (by first | exact AStepD.len_str tok rfl rfl rfl rfl | exact AStepD.len_sl tok rfl (by (conv => lhs; whnf); all_goals exact rfl) (by first | exact IsSl.vec | exact IsSl.sl | exact IsSl.slc | exact IsSl.nil | with_reducible assumption) rfl rfl | exact AStepD.len_arr tok rfl rfl rfl) ?_
      refine AL.step rfl rfl rfl (by exact AStepD.move' rfl (by (conv => lhs; whnf); all_goals exact rfl)) ?_
      refine AL.nil_then (hK _ _ ?_); clear hK K
      refine AW.block ?_
      refine AW.loop_at (ι := Nat) (fun j => [(81, .v (.int .i64 j)), (80, .v (.int .i64 c)), (79, .vec c (intsA l)), (67, .v (.int .i64 k)), (66, .v (.int .i64 R)), (12, .sl D 0 N 1), (11, .vec N (flat r.ms)), (7, .ptr n 0), (1, .v (.int .i64 nn)), (2, .v (.int .i64 R))])
        (fun j H' => j ≤ c ∧ RosAt H' n L B { r with cur := k * c + c } ∧ H'.get D = some (.cells 3 (intsA (cnts (k * c + j) N 0))) ∧ L < H'.next) (fun j => c - j) 0 (by repeat' (first | exact SubT.nil _ | refine SubT.cons_eq (by (conv => lhs; whnf); all_goals first | exact rfl | (simp; done) | (simp; omega)) ?_)) ⟨Nat.zero_le _, hR5, hD5, hL5⟩ ?_
      rintro j H6 ⟨hj, hR6, hD6, hL6⟩
      refine AW.seq_region (fun K hK => ?_)
      refine AL.step rfl rfl rfl (by exact AStepD.lss rfl rfl rfl) ?_
      refine AL.nil_then (hK _ _ ?_); clear hK K
      refine AW.seq_k (fun K2 hK2 => ?_)
      refine AW.cond _ rfl (fun hc2 => ?_) (fun hc2 => ?_)
      · refine AW.skip (hK2 _ _ ?_); clear hK2 K2
        have hjc : j < c := by have := of_decide_eq_true hc2; omega
        have hjl : j < l.length := by omega
        obtain ⟨hpN, hid⟩ := hlat j hjl
        have hat : ((intsA l).drop (j * 1))[0]? = some (.v (.int .i64 l[j])) := by rw [Nat.mul_one, List.getElem?_drop, Nat.add_zero]; exact intsA_at l j hjl
        refine AW.seq_k (fun K2 hK2 => ?_)
        refine AW.block ?_
        refine AW.seq_region (fun K hK => ?_)
        refine AL.step rfl rfl rfl (by first | exact AStepD.indexAddr_vec' tok rfl rfl rfl rfl rfl rfl (show _ = 1 from rfl) (by first | exact rfl | exact (Int.toNat_of_nonneg (by omega)).symm) (by first | omega | (simp; done) | (simp; omega) | (simp only [over, List.length_append, List.length_take, List.length_drop, *]; omega) | (simp_all; done) | (simp_all; omega)) | exact AStepD.indexAddr_sl' tok rfl rfl rfl rfl rfl rfl (show _ = 1 from rfl) (by first | exact rfl | exact (Int.toNat_of_nonneg (by omega)).symm) (by first | omega | (simp; done) | (simp; omega) | (simp only [over, List.length_append, List.length_take, List.length_drop, *]; omega) | (simp_all; done) | (simp_all; omega)) (by first | (simp only [Nat.zero_add, Nat.zero_mul, Nat.sub_zero, Nat.add_zero]; exact rfl) | exact rfl) | exact AStepD.indexAddr_arr' tok rfl rfl rfl rfl rfl rfl (show _ = 1 from rfl) (by first | exact rfl | exact (Int.toNat_of_nonneg (by omega)).symm) (by first | omega | (simp; done) | (simp; omega) | (simp only [over, List.length_append, List.length_take, List.length_drop, *]; omega) | (simp_all; done) | (simp_all; omega)) (by first | (simp only [Nat.zero_add, Nat.zero_mul, Nat.sub_zero, Nat.add_zero]; exact rfl) | exact rfl)) ?_
        refine AL.step rfl rfl rfl (by first | exact AStepD.load_one tok rfl rfl rfl rfl (by first | with_reducible assumption | (simp (disch := (first | omega | (refine id ?_; simp only [za, zb, zc]; done) | (simp only [za, zb, zc]; omega))) only [z1, z2, z3, z4, z5, z6, z7, z8, ne_eq, *]; done) | (simp (disch := (first | omega | (refine id ?_; simp only [za, zb, zc]; done) | (simp only [za, zb, zc]; omega))) only [z1, z2, z3, z4, z5, z6, z7, z8, ne_eq, *]; exact rfl)) rfl (by first | with_reducible assumption | exact rfl) | exact AStepD.load_one_ip tok rfl rfl rfl rfl rfl (by first | with_reducible assumption | exact rfl)) ?_
        refine AL.step rfl rfl rfl (by exact AStepD.assign' rfl (by (conv => lhs; whnf); all_goals exact rfl)) ?_
        refine AL.nil_then (hK _ _ ?_); clear hK K
        refine AW.seq_region (fun K hK => ?_)
        refine AL.step rfl rfl rfl (by exact AStepD.move' rfl (by (conv => lhs; whnf); all_goals exact rfl)) ?_
        refine AL.step rfl rfl rfl (by first | exact AStepD.len_str tok rfl rfl rfl rfl | exact AStepD.len_sl tok rfl (by (conv => lhs; whnf); all_goals exact rfl) (by first | exact IsSl.vec | exact IsSl.sl | exact IsSl.slc | exact IsSl.nil | with_reducible assumption) rfl rfl | exact AStepD.len_arr tok rfl rfl rfl) ?_
        refine AL.step rfl rfl rfl (by exact AStepD.move' rfl (by (conv => lhs; whnf); all_goals exact rfl)) ?_
        refine AL.nil_then (hK _ _ ?_); clear hK K
        refine AW.block ?_
        refine AW.loop_at (ι := Nat) (fun u => [(87, .v (.int .i64 u)), (86, .v (.int .i64 N)), (85, .vec N (flat r.ms)), (15, .v (.int .i64 l[j])), (81, .v (.int .i64 j)), (80, .v (.int .i64 c)), (79, .vec c (intsA l)), (67, .v (.int .i64 k)), (66, .v (.int .i64 R)), (12, .sl D 0 N 1), (11, .vec N (flat r.ms)), (7, .ptr n 0), (1, .v (.int .i64 nn)), (2, .v (.int .i64 R))])
          (fun u H' => u ≤ N ∧ RosAt H' n L B { r with cur := k * c + c } ∧ H'.get D = some (.cells 3 (intsA (cnts (k * c + j) N u))) ∧ L < H'.next) (fun u => N - u) 0 (by repeat' (first | exact SubT.nil _ | refine SubT.cons_eq (by (conv => lhs; whnf); all_goals first | exact rfl | (simp; done) | (simp; omega)) ?_)) ⟨Nat.zero_le _, hR6, hD6, hL6⟩ ?_
        rintro u H7 ⟨hu, hR7, hD7, hL7⟩
        refine AW.seq_region (fun K hK => ?_)
        refine AL.step rfl rfl rfl (by exact AStepD.lss rfl rfl rfl) ?_
        refine AL.nil_then (hK _ _ ?_); clear hK K
        refine AW.seq_k (fun K3 hK3 => ?_)
        refine AW.cond _ rfl (fun hc3 => ?_) (fun hc3 => ?_)
        · refine AW.skip (hK3 _ _ ?_); clear hK3 K3
          have huN : u < N := by have := of_decide_eq_true hc3; omega
          have hum : u < r.ms.length := by omega
          have hfa := flat_at r.ms u hum
          have hone := (r.ms[u]).one
          have hcl := cnts_length (k * c + j) N u
          have hcv : (intsA (cnts (k * c + j) N u))[u * 1]? = some (.v (.int .i64 (cnt (k * c + j) N u : Int))) := by
            rw [Nat.mul_one, intsA_at _ u (by omega), cnts_at, if_neg (by omega)]
            rfl
          have hcb := cnt_le (k * c + j) N u
          have hil3 := intsA_length (cnts (k * c + j) N u)
          refine AW.lts fun hlt7 => ?_
          have hDl7 := hlt7 _ _ hD7
          have hnl7 : n < H7.next := by obtain ⟨x0, h, _⟩ := hR7; exact hlt7 _ _ h
          have hBl7 : B < H7.next := by obtain ⟨x0, _, _, h⟩ := hR7; exact hlt7 _ _ h
          refine AW.seq_k (fun K3 hK3 => ?_)
          refine AW.block ?_
          refine AW.seq_region (fun K hK => ?_)
          refine AL.step rfl rfl rfl (by exact AStepD.move' rfl (by (conv => lhs; whnf); all_goals exact rfl)) ?_
          refine AL.step rfl rfl rfl (by first | exact AStepD.indexAddr_vec' tok rfl rfl rfl rfl rfl rfl (show _ = 5 from rfl) (by first | exact rfl | exact (Int.toNat_of_nonneg (by omega)).symm) (by first | omega | (simp; done) | (simp; omega) | (simp only [over, List.length_append, List.length_take, List.length_drop, *]; omega) | (simp_all; done) | (simp_all; omega)) | exact AStepD.indexAddr_sl' tok rfl rfl rfl rfl rfl rfl (show _ = 5 from rfl) (by first | exact rfl | exact (Int.toNat_of_nonneg (by omega)).symm) (by first | omega | (simp; done) | (simp; omega) | (simp only [over, List.length_append, List.length_take, List.length_drop, *]; omega) | (simp_all; done) | (simp_all; omega)) (by first | (simp only [Nat.zero_add, Nat.zero_mul, Nat.sub_zero, Nat.add_zero]; exact rfl) | exact rfl) | exact AStepD.indexAddr_arr' tok rfl rfl rfl rfl rfl rfl (show _ = 5 from rfl) (by first | exact rfl | exact (Int.toNat_of_nonneg (by omega)).symm) (by first | omega | (simp; done) | (simp; omega) | (simp only [over, List.length_append, List.length_take, List.length_drop, *]; omega) | (simp_all; done) | (simp_all; omega)) (by first | (simp only [Nat.zero_add, Nat.zero_mul, Nat.sub_zero, Nat.add_zero]; exact rfl) | exact rfl)) ?_
          refine AL.step rfl rfl rfl (by first | exact AStepD.load_agg tok rfl rfl rfl (by first | with_reducible assumption | (simp (disch := (first | omega | (refine id ?_; simp only [za, zb, zc]; done) | (simp only [za, zb, zc]; omega))) only [z1, z2, z3, z4, z5, z6, z7, z8, ne_eq, *]; done) | (simp (disch := (first | omega | (refine id ?_; simp only [za, zb, zc]; done) | (simp only [za, zb, zc]; omega))) only [z1, z2, z3, z4, z5, z6, z7, z8, ne_eq, *]; exact rfl)) rfl (show _ = 5 from rfl) (by first | exact Nat.le_of_ble_eq_true rfl | (simp; done) | (simp; omega) | (simp_all; omega)) (by first | with_reducible assumption | (simp only [List.take_succ_cons, List.take_zero, List.drop_succ_cons, List.drop_zero]; exact rfl) | exact rfl) | exact AStepD.load_agg_ip tok rfl rfl rfl rfl (show _ = 5 from rfl) (by first | exact Nat.le_of_ble_eq_true rfl | (simp; done) | (simp; omega) | (simp_all; omega)) (by first | with_reducible assumption | (simp only [List.take_succ_cons, List.take_zero, List.drop_succ_cons, List.drop_zero]; exact rfl) | exact rfl)) ?_
          refine AL.step rfl rfl rfl (by exact AStepD.alloc tok rfl rfl) ?_
          refine AL.step rfl rfl rfl (by exact AStepD.assign' rfl (by (conv => lhs; whnf); all_goals exact rfl)) ?_
          refine AL.step0 rfl rfl (by exact AStepD.store' tok rfl rfl (by first | with_reducible assumption | (simp (disch := (first | omega | (refine id ?_; simp only [za, zb, zc]; done) | (simp only [za, zb, zc]; omega))) only [z1, z2, z3, z4, z5, z6, z7, z8, ne_eq, *]; done) | (simp (disch := (first | omega | (refine id ?_; simp only [za, zb, zc]; done) | (simp only [za, zb, zc]; omega))) only [z1, z2, z3, z4, z5, z6, z7, z8, ne_eq, *]; exact rfl)) (by (conv => lhs; whnf); all_goals exact rfl) (by first | exact one_cells (by with_reducible assumption) | exact (by (conv => lhs; whnf); all_goals exact rfl)) (by first | with_reducible assumption | exact ones_nil | (simp only [List.forall_mem_cons, List.not_mem_nil, false_implies, implies_true, and_true, one_v, one_ptr, one_ip, one_sl, one_slc, one_vec, one_map, one_func, one_iface, Value.oneCell', *]; done) | (simp [AV.one, Value.oneCell', *]; done)) rfl (by (conv => lhs; whnf); all_goals exact rfl) rfl (by first | exact Nat.le_of_ble_eq_true rfl | (simp; done) | (simp; omega) | (simp_all; omega)) (by first | ((with_reducible refine over_all ?_); exact rfl) | (simp only [over, List.take_succ_cons, List.take_zero, List.drop_succ_cons, List.drop_zero, List.length_cons, List.length_nil, List.nil_append, List.cons_append, Nat.reduceAdd, Nat.zero_add, List.drop_nil, List.append_nil]; exact rfl) | conv => lhs; whnf)) ?_
          refine AL.nil_then (hK _ _ ?_); clear hK K
          refine AW.seq_region (fun K hK => ?_)
          refine AL.step rfl rfl rfl (by first | exact AStepD.fieldAddr' tok rfl rfl rfl rfl rfl rfl rfl (by first | exact Nat.zero_add 0 | exact (show _ + 0 = _ from (by simp only [Nat.reduceAdd]; exact rfl)) | exact (show _ + 0 = _ + 0 from rfl) | exact rfl) | exact AStepD.fieldAddr_ip' tok rfl rfl rfl rfl rfl rfl rfl (by (conv => lhs; whnf); all_goals exact rfl)) ?_
          refine AL.step rfl rfl rfl (by first | exact AStepD.load_one tok rfl rfl rfl rfl (by first | with_reducible assumption | (simp (disch := (first | omega | (refine id ?_; simp only [za, zb, zc]; done) | (simp only [za, zb, zc]; omega))) only [z1, z2, z3, z4, z5, z6, z7, z8, ne_eq, *]; done) | (simp (disch := (first | omega | (refine id ?_; simp only [za, zb, zc]; done) | (simp only [za, zb, zc]; omega))) only [z1, z2, z3, z4, z5, z6, z7, z8, ne_eq, *]; exact rfl)) rfl (by first | with_reducible assumption | exact rfl) | exact AStepD.load_one_ip tok rfl rfl rfl rfl rfl (by first | with_reducible assumption | exact rfl)) ?_
          refine AL.step rfl rfl rfl (by exact AStepD.move' rfl (by (conv => lhs; whnf); all_goals exact rfl)) ?_
          refine AL.step rfl rfl rfl (by first | exact AStepD.eql rfl rfl rfl | exact AStepD.str_eql rfl rfl rfl | exact (AStepD.ptr_nil tok (.inl ⟨_, _, rfl⟩) rfl rfl rfl).1 rfl | exact (AStepD.nil_nil tok rfl rfl rfl rfl).1 rfl | exact (AStepD.bool_eq tok rfl rfl rfl rfl).1 rfl | exact (AStepD.iface_nil tok rfl rfl rfl rfl).1 rfl | exact (AStepD.nilIface_nil tok rfl rfl rfl rfl).1 rfl) ?_
          refine AL.nil_then (hK _ _ ?_); clear hK K
          refine AW.cond _ rfl (fun hd => ?_) (fun hd => ?_)
          · have hpu : (k * c + j) % N = u := by
              have hd := of_decide_eq_true hd
              rw [hid] at hd
              rcases Nat.lt_trichotomy u ((k * c + j) % N) with h | h | h
              · have := hsrt.lt hpN h; omega
              · exact h.symm
              · have := hsrt.lt hum h; omega
            clear hd hid
            refine AW.region ?_
            refine AL.step rfl rfl rfl (by exact AStepD.move' rfl (by (conv => lhs; whnf); all_goals exact rfl)) ?_
            refine AL.step rfl rfl rfl (by exact AStepD.move' rfl (by (conv => lhs; whnf); all_goals exact rfl)) ?_
            refine AL.step rfl rfl rfl (by first | exact AStepD.indexAddr_vec' tok rfl rfl rfl rfl rfl rfl (show _ = 1 from rfl) (by first | exact rfl | exact (Int.toNat_of_nonneg (by omega)).symm) (by first | omega | (simp; done) | (simp; omega) | (simp only [over, List.length_append, List.length_take, List.length_drop, *]; omega) | (simp_all; done) | (simp_all; omega)) | exact AStepD.indexAddr_sl' tok rfl rfl rfl rfl rfl rfl (show _ = 1 from rfl) (by first | exact rfl | exact (Int.toNat_of_nonneg (by omega)).symm) (by first | omega | (simp; done) | (simp; omega) | (simp only [over, List.length_append, List.length_take, List.length_drop, *]; omega) | (simp_all; done) | (simp_all; omega)) (by first | (simp only [Nat.zero_add, Nat.zero_mul, Nat.sub_zero, Nat.add_zero]; exact rfl) | exact rfl) | exact AStepD.indexAddr_arr' tok rfl rfl rfl rfl rfl rfl (show _ = 1 from rfl) (by first | exact rfl | exact (Int.toNat_of_nonneg (by omega)).symm) (by first | omega | (simp; done) | (simp; omega) | (simp only [over, List.length_append, List.length_take, List.length_drop, *]; omega) | (simp_all; done) | (simp_all; omega)) (by first | (simp only [Nat.zero_add, Nat.zero_mul, Nat.sub_zero, Nat.add_zero]; exact rfl) | exact rfl)) ?_
            refine AL.step rfl rfl rfl (by first | exact AStepD.load_one tok rfl rfl rfl rfl (by first | with_reducible assumption | (simp (disch := (first | omega | (refine id ?_; simp only [za, zb, zc]; done) | (simp only [za, zb, zc]; omega))) only [z1, z2, z3, z4, z5, z6, z7, z8, ne_eq, *]; done) | (simp (disch := (first | omega | (refine id ?_; simp only [za, zb, zc]; done) | (simp only [za, zb, zc]; omega))) only [z1, z2, z3, z4, z5, z6, z7, z8, ne_eq, *]; exact rfl)) rfl (by first | with_reducible assumption | exact rfl) | exact AStepD.load_one_ip tok rfl rfl rfl rfl rfl (by first | with_reducible assumption | exact rfl)) ?_
            refine AL.step rfl rfl rfl (by first | exact AStepD.add rfl rfl rfl (by first | exact IntWalk.i64_in _ (by omega) | exact rfl) | exact AStepD.str_add rfl rfl rfl (by omega)) ?_
            refine AL.step rfl rfl rfl (by first | exact AStepD.indexAddr_vec' tok rfl rfl rfl rfl rfl rfl (show _ = 1 from rfl) (by first | exact rfl | exact (Int.toNat_of_nonneg (by omega)).symm) (by first | omega | (simp; done) | (simp; omega) | (simp only [over, List.length_append, List.length_take, List.length_drop, *]; omega) | (simp_all; done) | (simp_all; omega)) | exact AStepD.indexAddr_sl' tok rfl rfl rfl rfl rfl rfl (show _ = 1 from rfl) (by first | exact rfl | exact (Int.toNat_of_nonneg (by omega)).symm) (by first | omega | (simp; done) | (simp; omega) | (simp only [over, List.length_append, List.length_take, List.length_drop, *]; omega) | (simp_all; done) | (simp_all; omega)) (by first | (simp only [Nat.zero_add, Nat.zero_mul, Nat.sub_zero, Nat.add_zero]; exact rfl) | exact rfl) | exact AStepD.indexAddr_arr' tok rfl rfl rfl rfl rfl rfl (show _ = 1 from rfl) (by first | exact rfl | exact (Int.toNat_of_nonneg (by omega)).symm) (by first | omega | (simp; done) | (simp; omega) | (simp only [over, List.length_append, List.length_take, List.length_drop, *]; omega) | (simp_all; done) | (simp_all; omega)) (by first | (simp only [Nat.zero_add, Nat.zero_mul, Nat.sub_zero, Nat.add_zero]; exact rfl) | exact rfl)) ?_
            refine AL.step0 rfl rfl (by exact AStepD.store' tok rfl rfl (by first | with_reducible assumption | (simp (disch := (first | omega | (refine id ?_; simp only [za, zb, zc]; done) | (simp only [za, zb, zc]; omega))) only [z1, z2, z3, z4, z5, z6, z7, z8, ne_eq, *]; done) | (simp (disch := (first | omega | (refine id ?_; simp only [za, zb, zc]; done) | (simp only [za, zb, zc]; omega))) only [z1, z2, z3, z4, z5, z6, z7, z8, ne_eq, *]; exact rfl)) (by (conv => lhs; whnf); all_goals exact rfl) (by first | exact one_cells (by with_reducible assumption) | exact (by (conv => lhs; whnf); all_goals exact rfl)) (by first | with_reducible assumption | exact ones_nil | (simp only [List.forall_mem_cons, List.not_mem_nil, false_implies, implies_true, and_true, one_v, one_ptr, one_ip, one_sl, one_slc, one_vec, one_map, one_func, one_iface, Value.oneCell', *]; done) | (simp [AV.one, Value.oneCell', *]; done)) rfl (by (conv => lhs; whnf); all_goals exact rfl) rfl (by first | exact Nat.le_of_ble_eq_true rfl | (simp; done) | (simp; omega) | (simp_all; omega)) (by first | ((with_reducible refine over_all ?_); exact rfl) | (simp only [over, List.take_succ_cons, List.take_zero, List.drop_succ_cons, List.drop_zero, List.length_cons, List.length_nil, List.nil_append, List.cons_append, Nat.reduceAdd, Nat.zero_add, List.drop_nil, List.append_nil]; exact rfl) | conv => lhs; whnf)) ?_
            refine AL.nil ?_
            refine hK3 _ _ ?_; clear hK3 K3
            refine AW.region ?_
            refine AL.step rfl rfl rfl (by first | exact AStepD.add rfl rfl rfl (by first | exact IntWalk.i64_in _ (by omega) | exact rfl) | exact AStepD.str_add rfl rfl rfl (by omega)) ?_
            refine AL.step rfl rfl rfl (by exact AStepD.move' rfl (by (conv => lhs; whnf); all_goals exact rfl)) ?_
            refine AL.nil ?_
            refine ⟨u + 1, ?_, (by repeat' (first | exact SubT.nil _ | refine SubT.cons_eq (by (conv => lhs; whnf); all_goals first | exact rfl | (simp; done) | (simp; omega)) ?_)), huN, hR7.same (by simp (disch := (first | omega | (refine id ?_; simp only [za, zb, zc]; done) | (simp only [za, zb, zc]; omega))) only [z1, z2, z3, z4, z5, z6, z7, z8, ne_eq]) (by simp (disch := (first | omega | (refine id ?_; simp only [za, zb, zc]; done) | (simp only [za, zb, zc]; omega))) only [z1, z2, z3, z4, z5, z6, z7, z8, ne_eq]) (by simp (disch := (first | omega | (refine id ?_; simp only [za, zb, zc]; done) | (simp only [za, zb, zc]; omega))) only [z1, z2, z3, z4, z5, z6, z7, z8, ne_eq]), ?_, (by (try simp only [za, zb, zc, ne_eq]); omega)⟩
            · show N - (u + 1) < N - u
              omega
            · rw [cnts_step _ _ _ huN hpu, ← intsA_set _ _ _ (by omega)]
              exact (by first | with_reducible assumption | (simp (disch := (first | omega | (refine id ?_; simp only [za, zb, zc]; done) | (simp only [za, zb, zc]; omega))) only [z1, z2, z3, z4, z5, z6, z7, z8, ne_eq, *]; done) | (simp (disch := (first | omega | (refine id ?_; simp only [za, zb, zc]; done) | (simp only [za, zb, zc]; omega))) only [z1, z2, z3, z4, z5, z6, z7, z8, ne_eq, *]; exact rfl))
          · have hpu : (k * c + j) % N ≠ u := by
              have hd := of_decide_eq_false hd
              rintro h
              subst h
              exact hd hid.symm
            refine AW.skip ?_
            refine hK3 _ _ ?_; clear hK3 K3
            refine AW.region ?_
            refine AL.step rfl rfl rfl (by first | exact AStepD.add rfl rfl rfl (by first | exact IntWalk.i64_in _ (by omega) | exact rfl) | exact AStepD.str_add rfl rfl rfl (by omega)) ?_
            refine AL.step rfl rfl rfl (by exact AStepD.move' rfl (by (conv => lhs; whnf); all_goals exact rfl)) ?_
            refine AL.nil ?_
            refine ⟨u + 1, ?_, (by repeat' (first | exact SubT.nil _ | refine SubT.cons_eq (by (conv => lhs; whnf); all_goals first | exact rfl | (simp; done) | (simp; omega)) ?_)), huN, hR7.keep hlt7 (by repeat' (first | exact Keep.refl _ | apply Keep.new | apply Keep.set | apply Keep.del | (first | omega | (simp only [za, zb, zc]; omega)))), ?_, (by (try simp only [za, zb, zc, ne_eq]); omega)⟩
            · show N - (u + 1) < N - u
              omega
            · rw [cnts_skip _ _ _ hpu]
              exact (by first | with_reducible assumption | (simp (disch := (first | omega | (refine id ?_; simp only [za, zb, zc]; done) | (simp only [za, zb, zc]; omega))) only [z1, z2, z3, z4, z5, z6, z7, z8, ne_eq, *]; done) | (simp (disch := (first | omega | (refine id ?_; simp only [za, zb, zc]; done) | (simp only [za, zb, zc]; omega))) only [z1, z2, z3, z4, z5, z6, z7, z8, ne_eq, *]; exact rfl))
        · refine AW.exit ?_
          refine hK2 _ _ ?_; clear hK3 K3 hK2 K2
          have huN : u = N := by have := of_decide_eq_false hc3; omega
          subst huN
          refine AW.region ?_
          refine AL.step rfl rfl rfl (by first | exact AStepD.add rfl rfl rfl (by first | exact IntWalk.i64_in _ (by omega) | exact rfl) | exact AStepD.str_add rfl rfl rfl (by omega)) ?_
          refine AL.step rfl rfl rfl (by exact AStepD.move' rfl (by (conv => lhs; whnf); all_goals exact rfl)) ?_
          refine AL.nil ?_
          refine ⟨j + 1, ?_, (by repeat' (first | exact SubT.nil _ | refine SubT.cons_eq (by (conv => lhs; whnf); all_goals first | exact rfl | (simp; done) | (simp; omega)) ?_)), hjc, hR7, ?_, hL7⟩
          · show c - (j + 1) < c - j
            omega
          · rw [hD7, cnts_next]; rfl
      · refine AW.exit ?_
        refine hK1 _ _ ?_; clear hK2 K2 hK1 K1
        have hjc : j = c := by have := of_decide_eq_false hc2; omega
        subst hjc
        have hkk : (k + 1) * j = k * j + j := Nat.succ_mul k j
        refine AW.region ?_
        refine AL.step rfl rfl rfl (by first | exact AStepD.add rfl rfl rfl (by first | exact IntWalk.i64_in _ (by omega) | exact rfl) | exact AStepD.str_add rfl rfl rfl (by omega)) ?_
        refine AL.step rfl rfl rfl (by exact AStepD.move' rfl (by (conv => lhs; whnf); all_goals exact rfl)) ?_
        refine AL.nil ?_
        refine ⟨k + 1, ?_, (by repeat' (first | exact SubT.nil _ | refine SubT.cons_eq (by (conv => lhs; whnf); all_goals first | exact rfl | (simp; done) | (simp; omega)) ?_)), hkR, by rw [hkk]; exact hR6, by rw [hkk]; exact hD6, hL6⟩
        show R - (k + 1) < R - k
        omega
    · refine AW.exit ?_
      refine hK _ _ ?_; clear hK1 K1 hK K
      have hkR : k = R := by have := of_decide_eq_false hc1; omega
      subst hkR
      generalize hT : k * c = T at hD4 hkc
      have hTi : (k : Int) * (c : Int) = (T : Int) := by rw [← hT, Int.natCast_mul]
      refine AW.seq_k (fun K hK => ?_)
      refine AW.seq_region (fun K hK => ?_)
      refine AL.step rfl rfl rfl (by exact AStepD.move' rfl (by (conv => lhs; whnf); all_goals exact rfl)) ?_
      refine AL.step rfl rfl rfl (by first | exact AStepD.len_str tok rfl rfl rfl rfl | exact AStepD.len_sl tok rfl (by (conv => lhs; whnf); all_goals exact rfl) (by first | exact IsSl.vec | exact IsSl.sl | exact IsSl.slc | exact IsSl.nil | with_reducible assumption) rfl rfl | exact AStepD.len_arr tok rfl rfl rfl) ?_
      refine AL.step rfl rfl rfl (by exact AStepD.move' rfl (by (conv => lhs; whnf); all_goals exact rfl)) ?_
      refine AL.nil_then (hK _ _ ?_); clear hK K
      refine AW.block ?_
      refine AW.loop_at (ι := Nat) (fun x => [(107, .v (.int .i64 x)), (106, .v (.int .i64 N)), (12, .sl D 0 N 1), (11, .vec N (flat r.ms)), (7, .ptr n 0), (1, .v (.int .i64 nn)), (2, .v (.int .i64 k))])
        (fun x H' => x ≤ N ∧ H'.get D = some (.cells 3 (intsA (cnts T N 0)))) (fun x => N - x) 0 (by repeat' (first | exact SubT.nil _ | refine SubT.cons_eq (by (conv => lhs; whnf); all_goals first | exact rfl | (simp; done) | (simp; omega)) ?_)) ⟨Nat.zero_le _, hD4⟩ ?_
      rintro x H8 ⟨hx, hD8⟩
      refine AW.seq_region (fun K hK => ?_)
      refine AL.step rfl rfl rfl (by exact AStepD.lss rfl rfl rfl) ?_
      refine AL.nil_then (hK _ _ ?_); clear hK K
      refine AW.seq_k (fun K1 hK1 => ?_)
      refine AW.cond _ rfl (fun hc2 => ?_) (fun hc2 => ?_)
      · refine AW.skip (hK1 _ _ ?_); clear hK1 K1
        have hxN : x < N := by have := of_decide_eq_true hc2; omega
        have hcl := cnts_length T N 0
        have hil3 := intsA_length (cnts T N 0)
        have hvx : (intsA (cnts T N 0))[x * 1]? = some (.v (.int .i64 (cnt T N x : Int))) := by
          rw [Nat.mul_one, intsA_at _ x (by omega), cnts_at, if_neg (by omega)]
          rfl
        have hv0 : (intsA (cnts T N 0))[0]? = some (.v (.int .i64 (cnt T N 0 : Int))) := by
          rw [intsA_at _ 0 (by omega), cnts_at, if_neg (by omega)]
          rfl
        have hv0' : (intsA (cnts T N 0))[0 * 1]? = some (.v (.int .i64 (cnt T N 0 : Int))) := hv0
        have hq : (cnt T N x = T / N ∨ cnt T N x = T / N + 1) ∧ cnt T N x ≤ cnt T N 0 ∧ cnt T N 0 ≤ cnt T N x + 1 ∧ T / N ≤ T := by
          have := Nat.div_le_self T N
          unfold cnt
          repeat' split
          all_goals omega
        have hqw : IntKind.i64.wrap ((T : Int).tdiv (N : Int)) = ((T / N : Nat) : Int) := by
          rw [show (T : Int).tdiv (N : Int) = ((T / N : Nat) : Int) from (Int.ofNat_tdiv T N).symm, IntKind.wrap_i64]
          omega
        generalize cnt T N x = a at hvx hq
        generalize cnt T N 0 = b at hv0 hv0' hq
        generalize T / N = q at hqw hq
        refine AW.seq_k (fun K1 hK1 => ?_)
        refine AW.block ?_
        refine AW.seq_region (fun K hK => ?_)
        refine AL.step rfl rfl rfl (by exact AStepD.move' rfl (by (conv => lhs; whnf); all_goals exact rfl)) ?_
        refine AL.step rfl rfl rfl (by exact AStepD.assign' rfl (by (conv => lhs; whnf); all_goals exact rfl)) ?_
        refine AL.nil_then (hK _ _ ?_); clear hK K
        refine AW.seq_k (fun K hK => ?_)
        apply AW.draw mixed [_, _, _, _, _, _, _, _, _] [] [_] [(0, 0), (1, 0), (2, 0), (3, 0), (4, 0), (5, 0), (6, 0), (7, 0), (8, 0)] rfl rfl rfl (by simp only [List.getD_cons_zero, List.getD_cons_succ]; all_goals apply Eq.refl)
        · refine ⟨?_, ?_, ?_, ?_, ?_, ?_, ?_, ?_, ?_⟩
          · refine Ob.mk _ [12] 0 rfl rfl (restr_cons (by (conv => lhs; whnf); all_goals exact rfl) restr_nil) rfl ?_
            simp only [List.getD_cons_zero, List.getD_cons_succ]
            exact GStep.plain rfl (by exact AStepD.move' rfl (by (conv => lhs; whnf); all_goals exact rfl))
          · refine Ob.mk _ [18] 0 rfl rfl (restr_cons (by (conv => lhs; whnf); all_goals exact rfl) restr_nil) rfl ?_
            simp only [List.getD_cons_zero, List.getD_cons_succ]
            exact GStep.plain rfl (by exact AStepD.move' rfl (by (conv => lhs; whnf); all_goals exact rfl))
          · refine Ob.mk _ [110, 111] 0 rfl rfl (restr_cons (by (conv => lhs; whnf); all_goals exact rfl) (restr_cons (by (conv => lhs; whnf); all_goals exact rfl) restr_nil)) rfl ?_
            simp only [List.getD_cons_zero, List.getD_cons_succ]
            exact GStep.plain rfl (by exact AStepD.indexAddr_sl' (i := x) tok rfl rfl rfl rfl rfl rfl (show _ = 1 from rfl) rfl hxN (Nat.zero_add _))
          · refine Ob.mk _ [112] 0 rfl rfl (restr_cons (by (conv => lhs; whnf); all_goals exact rfl) restr_nil) rfl ?_
            simp only [List.getD_cons_zero, List.getD_cons_succ]
            exact GStep.plain rfl (by first | exact AStepD.load_one tok rfl rfl rfl rfl (by first | with_reducible assumption | (simp (disch := (first | omega | (refine id ?_; simp only [za, zb, zc]; done) | (simp only [za, zb, zc]; omega))) only [z1, z2, z3, z4, z5, z6, z7, z8, ne_eq, *]; done) | (simp (disch := (first | omega | (refine id ?_; simp only [za, zb, zc]; done) | (simp only [za, zb, zc]; omega))) only [z1, z2, z3, z4, z5, z6, z7, z8, ne_eq, *]; exact rfl)) rfl (by first | with_reducible assumption | exact rfl) | exact AStepD.load_one_ip tok rfl rfl rfl rfl rfl (by first | with_reducible assumption | exact rfl))
          · refine Ob.mk _ [12] 0 rfl rfl (restr_cons (by (conv => lhs; whnf); all_goals exact rfl) restr_nil) rfl ?_
            simp only [List.getD_cons_zero, List.getD_cons_succ]
            exact GStep.plain rfl (by exact AStepD.move' rfl (by (conv => lhs; whnf); all_goals exact rfl))
          · refine Ob.mk _ [114] 0 rfl rfl (restr_cons (by (conv => lhs; whnf); all_goals exact rfl) restr_nil) rfl ?_
            simp only [List.getD_cons_zero, List.getD_cons_succ]
            exact GStep.plain rfl (by exact AStepD.indexAddr_sl' (i := 0) tok rfl rfl rfl rfl rfl rfl (show _ = 1 from rfl) rfl (by omega) (Nat.zero_add _))
          · refine Ob.mk _ [115] 0 rfl rfl (restr_cons (by (conv => lhs; whnf); all_goals exact rfl) restr_nil) rfl ?_
            simp only [List.getD_cons_zero, List.getD_cons_succ]
            exact GStep.plain rfl (by first | exact AStepD.load_one tok rfl rfl rfl rfl (by first | with_reducible assumption | (simp (disch := (first | omega | (refine id ?_; simp only [za, zb, zc]; done) | (simp only [za, zb, zc]; omega))) only [z1, z2, z3, z4, z5, z6, z7, z8, ne_eq, *]; done) | (simp (disch := (first | omega | (refine id ?_; simp only [za, zb, zc]; done) | (simp only [za, zb, zc]; omega))) only [z1, z2, z3, z4, z5, z6, z7, z8, ne_eq, *]; exact rfl)) rfl (by first | with_reducible assumption | exact rfl) | exact AStepD.load_one_ip tok rfl rfl rfl rfl rfl (by first | with_reducible assumption | exact rfl))
          · refine Ob.mk _ [113, 116] 0 rfl rfl (restr_cons (by (conv => lhs; whnf); all_goals exact rfl) (restr_cons (by (conv => lhs; whnf); all_goals exact rfl) restr_nil)) rfl ?_
            simp only [List.getD_cons_zero, List.getD_cons_succ]
            exact GStep.plain rfl (by exact AStepD.sub rfl rfl rfl (by first | exact IntWalk.i64_in _ (by omega) | exact rfl))
          · refine Ob.mk _ [117] 0 rfl rfl (restr_cons (by (conv => lhs; whnf); all_goals exact rfl) restr_nil) rfl ?_
            simp only [List.getD_cons_zero, List.getD_cons_succ]
            exact GStep.plain rfl (by exact AStepD.assign' rfl (by (conv => lhs; whnf); all_goals exact rfl))
        refine hK _ _ ?_; clear hK K
        refine AW.frame (by simp only [frameAt, putA]; all_goals exact rfl) (by simp only [List.length_cons, List.length_nil, Nat.zero_add, Nat.reduceAdd, List.getD_cons_zero, List.getD_cons_succ]; all_goals apply Eq.refl) ?_
        refine AW.seq_k (fun K hK => ?_)
        apply AW.draw mixed [_, _, _, _, _, _, _, _, _, _, _, _, _, _, _, _, _, _, _, _, _, _, _, _, _, _, _, _, _, _, _, _, _, _, _, _, _, _, _] [] [_] [(0, 0), (1, 0), (2, 0), (3, 0), (4, 0), (5, 0), (6, 0), (7, 0), (8, 0), (9, 0), (10, 0), (11, 0), (12, 0), (13, 0), (14, 0), (15, 0), (16, 0), (17, 0), (18, 0), (19, 0), (20, 0), (21, 0), (22, 0), (23, 0), (24, 0), (25, 0), (26, 0), (27, 0), (28, 0), (29, 0), (30, 0), (31, 0), (32, 0), (33, 0), (34, 0), (35, 0), (36, 0), (37, 0), (38, 0)] rfl rfl rfl (by simp only [List.getD_cons_zero, List.getD_cons_succ]; all_goals apply Eq.refl)
        · refine ⟨?_, ?_, ?_, ?_, ?_, ?_, ?_, ?_, ?_, ?_, ?_, ?_, ?_, ?_, ?_, ?_, ?_, ?_, ?_, ?_, ?_, ?_, ?_, ?_, ?_, ?_, ?_, ?_, ?_, ?_, ?_, ?_, ?_, ?_, ?_, ?_, ?_, ?_, ?_⟩
          · refine Ob.mk _ [19] 0 rfl rfl (restr_cons (by (conv => lhs; whnf); all_goals exact rfl) restr_nil) rfl ?_
            simp only [List.getD_cons_zero, List.getD_cons_succ]
            exact GStep.plain rfl (by exact AStepD.move' rfl (by (conv => lhs; whnf); all_goals exact rfl))
          · refine Ob.mk _ [118] 0 rfl rfl (restr_cons (by (conv => lhs; whnf); all_goals exact rfl) restr_nil) rfl ?_
            simp only [List.getD_cons_zero, List.getD_cons_succ]
            exact GStep.plain rfl (by exact AStepD.bool (AStepD.lss rfl rfl rfl) (c := false) (by simp; omega))
          · refine Ob.mk _ [119] 0 rfl rfl (restr_cons (by (conv => lhs; whnf); all_goals exact rfl) restr_nil) rfl ?_
            simp only [List.getD_cons_zero, List.getD_cons_succ]
            exact GStep.plain rfl (by exact AStepD.move' rfl (by (conv => lhs; whnf); all_goals exact rfl))
          · refine Ob.mk _ [19, 120] 0 rfl rfl (restr_cons (by (conv => lhs; whnf); all_goals exact rfl) (restr_cons (by (conv => lhs; whnf); all_goals exact rfl) restr_nil)) rfl ?_
            simp only [List.getD_cons_zero, List.getD_cons_succ]
            first | exact GStep.yes rfl rfl rfl rfl rfl (by exact AStepD.move' rfl (by (conv => lhs; whnf); all_goals exact rfl)) | exact GStep.no rfl rfl rfl rfl rfl | exact GStep.none rfl rfl rfl | exact GStep.may rfl rfl rfl rfl (fun hb => by (try (apply AStepD.uncond 19 rfl (by first | (rw [hb]; done) | (rw [hb]; rfl) | (simp [hb]; done) | (simp_all; done) | exact guard_true hb))); (exact AStepD.move' rfl (by (conv => lhs; whnf); all_goals exact rfl))) | exact GStep.may2 rfl rfl rfl rfl (fun hb1 hb => by (try (apply AStepD.uncond 19 rfl (by first | (rw [hb]; done) | (rw [hb]; rfl) | (simp [hb]; done) | (simp_all; done) | exact guard_true hb))); (exact AStepD.move' rfl (by (conv => lhs; whnf); all_goals exact rfl)))
          · refine Ob.mk _ [121, 120] 0 rfl rfl (restr_cons (by (conv => lhs; whnf); all_goals exact rfl) (restr_cons (by (conv => lhs; whnf); all_goals exact rfl) restr_nil)) rfl ?_
            simp only [List.getD_cons_zero, List.getD_cons_succ]
            first | exact GStep.yes rfl rfl rfl rfl rfl (by exact AStepD.bool (AStepD.gtr rfl rfl rfl) (c := false) (by simp; omega)) | exact GStep.no rfl rfl rfl rfl rfl | exact GStep.none rfl rfl rfl | exact GStep.may rfl rfl rfl rfl (fun hb => by (try (apply AStepD.uncond 121 rfl (by first | (rw [hb]; done) | (rw [hb]; rfl) | (simp [hb]; done) | (simp_all; done) | exact guard_true hb))); (exact AStepD.bool (AStepD.gtr rfl rfl rfl) (c := false) (by simp; omega))) | exact GStep.may2 rfl rfl rfl rfl (fun hb1 hb => by (try (apply AStepD.uncond 121 rfl (by first | (rw [hb]; done) | (rw [hb]; rfl) | (simp [hb]; done) | (simp_all; done) | exact guard_true hb))); (exact AStepD.bool (AStepD.gtr rfl rfl rfl) (c := false) (by simp; omega)))
          · refine Ob.mk _ [120, 122] 0 rfl rfl (restr_cons (by (conv => lhs; whnf); all_goals exact rfl) (restr_cons (by (conv => lhs; whnf); all_goals exact rfl) restr_nil)) rfl ?_
            simp only [List.getD_cons_zero, List.getD_cons_succ]
            exact GStep.plain rfl (by first | exact AStepD.pick_true' rfl rfl (by (conv => lhs; whnf); all_goals exact rfl) | exact AStepD.pick_false' rfl rfl (by (conv => lhs; whnf); all_goals exact rfl) | exact AStepD.and rfl _ _ _ rfl rfl (by intro h; first | (rw [h]; done) | (rw [h]; rfl) | (simp [h]; done) | (simp_all; done) | exact guard_true h) rfl | exact AStepD.and' rfl _ _ rfl rfl rfl | exact AStepD.or rfl _ _ _ rfl rfl rfl (by intro h; first | (rw [h]; done) | (rw [h]; rfl) | (simp [h]; done) | (simp_all; done) | exact guard_true h) | exact AStepD.or' rfl _ _ rfl rfl rfl)
          · refine Ob.mk _ [123] 0 rfl rfl (restr_cons (by (conv => lhs; whnf); all_goals exact rfl) restr_nil) rfl ?_
            simp only [List.getD_cons_zero, List.getD_cons_succ]
            exact GStep.plain rfl (by exact AStepD.move' rfl (by (conv => lhs; whnf); all_goals exact rfl))
          · refine Ob.mk _ [12, 124] 0 rfl rfl (restr_cons (by (conv => lhs; whnf); all_goals exact rfl) (restr_cons (by (conv => lhs; whnf); all_goals exact rfl) restr_nil)) rfl ?_
            simp only [List.getD_cons_zero, List.getD_cons_succ]
            first | exact GStep.yes rfl rfl rfl rfl rfl (by exact AStepD.move' rfl (by (conv => lhs; whnf); all_goals exact rfl)) | exact GStep.no rfl rfl rfl rfl rfl | exact GStep.none rfl rfl rfl | exact GStep.may rfl rfl rfl rfl (fun hb => by (try (apply AStepD.uncond 12 rfl (by first | (rw [hb]; done) | (rw [hb]; rfl) | (simp [hb]; done) | (simp_all; done) | exact guard_true hb))); (exact AStepD.move' rfl (by (conv => lhs; whnf); all_goals exact rfl))) | exact GStep.may2 rfl rfl rfl rfl (fun hb1 hb => by (try (apply AStepD.uncond 12 rfl (by first | (rw [hb]; done) | (rw [hb]; rfl) | (simp [hb]; done) | (simp_all; done) | exact guard_true hb))); (exact AStepD.move' rfl (by (conv => lhs; whnf); all_goals exact rfl)))
          · refine Ob.mk _ [18, 124] 0 rfl rfl (restr_cons (by (conv => lhs; whnf); all_goals exact rfl) (restr_cons (by (conv => lhs; whnf); all_goals exact rfl) restr_nil)) rfl ?_
            simp only [List.getD_cons_zero, List.getD_cons_succ]
            first | exact GStep.yes rfl rfl rfl rfl rfl (by exact AStepD.move' rfl (by (conv => lhs; whnf); all_goals exact rfl)) | exact GStep.no rfl rfl rfl rfl rfl | exact GStep.none rfl rfl rfl | exact GStep.may rfl rfl rfl rfl (fun hb => by (try (apply AStepD.uncond 18 rfl (by first | (rw [hb]; done) | (rw [hb]; rfl) | (simp [hb]; done) | (simp_all; done) | exact guard_true hb))); (exact AStepD.move' rfl (by (conv => lhs; whnf); all_goals exact rfl))) | exact GStep.may2 rfl rfl rfl rfl (fun hb1 hb => by (try (apply AStepD.uncond 18 rfl (by first | (rw [hb]; done) | (rw [hb]; rfl) | (simp [hb]; done) | (simp_all; done) | exact guard_true hb))); (exact AStepD.move' rfl (by (conv => lhs; whnf); all_goals exact rfl)))
          · refine Ob.mk _ [125, 126, 124] 0 rfl rfl (restr_cons (by (conv => lhs; whnf); all_goals exact rfl) (restr_cons (by (conv => lhs; whnf); all_goals exact rfl) (restr_cons (by (conv => lhs; whnf); all_goals exact rfl) restr_nil))) rfl ?_
            simp only [List.getD_cons_zero, List.getD_cons_succ]
            first | exact GStep.yes rfl rfl rfl rfl rfl (by exact AStepD.indexAddr_sl' (i := x) tok rfl rfl rfl rfl rfl rfl (show _ = 1 from rfl) rfl hxN (Nat.zero_add _)) | exact GStep.no rfl rfl rfl rfl rfl | exact GStep.none rfl rfl rfl | exact GStep.may rfl rfl rfl rfl (fun hb => by (try (apply AStepD.uncond 125 rfl (by first | (rw [hb]; done) | (rw [hb]; rfl) | (simp [hb]; done) | (simp_all; done) | exact guard_true hb))); (try (apply AStepD.uncond 126 rfl (by first | (rw [hb]; done) | (rw [hb]; rfl) | (simp [hb]; done) | (simp_all; done) | exact guard_true hb))); (exact AStepD.indexAddr_sl' (i := x) tok rfl rfl rfl rfl rfl rfl (show _ = 1 from rfl) rfl hxN (Nat.zero_add _))) | exact GStep.may2 rfl rfl rfl rfl (fun hb1 hb => by (try (apply AStepD.uncond 125 rfl (by first | (rw [hb]; done) | (rw [hb]; rfl) | (simp [hb]; done) | (simp_all; done) | exact guard_true hb))); (try (apply AStepD.uncond 126 rfl (by first | (rw [hb]; done) | (rw [hb]; rfl) | (simp [hb]; done) | (simp_all; done) | exact guard_true hb))); (exact AStepD.indexAddr_sl' (i := x) tok rfl rfl rfl rfl rfl rfl (show _ = 1 from rfl) rfl hxN (Nat.zero_add _)))
          · refine Ob.mk _ [127, 124] 0 rfl rfl (restr_cons (by (conv => lhs; whnf); all_goals exact rfl) (restr_cons (by (conv => lhs; whnf); all_goals exact rfl) restr_nil)) rfl ?_
            simp only [List.getD_cons_zero, List.getD_cons_succ]
            first | exact GStep.yes rfl rfl rfl rfl rfl (by first | exact AStepD.load_one tok rfl rfl rfl rfl (by first | with_reducible assumption | (simp (disch := (first | omega | (refine id ?_; simp only [za, zb, zc]; done) | (simp only [za, zb, zc]; omega))) only [z1, z2, z3, z4, z5, z6, z7, z8, ne_eq, *]; done) | (simp (disch := (first | omega | (refine id ?_; simp only [za, zb, zc]; done) | (simp only [za, zb, zc]; omega))) only [z1, z2, z3, z4, z5, z6, z7, z8, ne_eq, *]; exact rfl)) rfl (by first | with_reducible assumption | exact rfl) | exact AStepD.load_one_ip tok rfl rfl rfl rfl rfl (by first | with_reducible assumption | exact rfl)) | exact GStep.no rfl rfl rfl rfl rfl | exact GStep.none rfl rfl rfl | exact GStep.may rfl rfl rfl rfl (fun hb => by (try (apply AStepD.uncond 127 rfl (by first | (rw [hb]; done) | (rw [hb]; rfl) | (simp [hb]; done) | (simp_all; done) | exact guard_true hb))); (first | exact AStepD.load_one tok rfl rfl rfl rfl (by first | with_reducible assumption | (simp (disch := (first | omega | (refine id ?_; simp only [za, zb, zc]; done) | (simp only [za, zb, zc]; omega))) only [z1, z2, z3, z4, z5, z6, z7, z8, ne_eq, *]; done) | (simp (disch := (first | omega | (refine id ?_; simp only [za, zb, zc]; done) | (simp only [za, zb, zc]; omega))) only [z1, z2, z3, z4, z5, z6, z7, z8, ne_eq, *]; exact rfl)) rfl (by first | with_reducible assumption | exact rfl) | exact AStepD.load_one_ip tok rfl rfl rfl rfl rfl (by first | with_reducible assumption | exact rfl))) | exact GStep.may2 rfl rfl rfl rfl (fun hb1 hb => by (try (apply AStepD.uncond 127 rfl (by first | (rw [hb]; done) | (rw [hb]; rfl) | (simp [hb]; done) | (simp_all; done) | exact guard_true hb))); (first | exact AStepD.load_one tok rfl rfl rfl rfl (by first | with_reducible assumption | (simp (disch := (first | omega | (refine id ?_; simp only [za, zb, zc]; done) | (simp only [za, zb, zc]; omega))) only [z1, z2, z3, z4, z5, z6, z7, z8, ne_eq, *]; done) | (simp (disch := (first | omega | (refine id ?_; simp only [za, zb, zc]; done) | (simp only [za, zb, zc]; omega))) only [z1, z2, z3, z4, z5, z6, z7, z8, ne_eq, *]; exact rfl)) rfl (by first | with_reducible assumption | exact rfl) | exact AStepD.load_one_ip tok rfl rfl rfl rfl rfl (by first | with_reducible assumption | exact rfl)))
          · refine Ob.mk _ [2, 124] 0 rfl rfl (restr_cons (by (conv => lhs; whnf); all_goals exact rfl) (restr_cons (by (conv => lhs; whnf); all_goals exact rfl) restr_nil)) rfl ?_
            simp only [List.getD_cons_zero, List.getD_cons_succ]
            first | exact GStep.yes rfl rfl rfl rfl rfl (by exact AStepD.move' rfl (by (conv => lhs; whnf); all_goals exact rfl)) | exact GStep.no rfl rfl rfl rfl rfl | exact GStep.none rfl rfl rfl | exact GStep.may rfl rfl rfl rfl (fun hb => by (try (apply AStepD.uncond 2 rfl (by first | (rw [hb]; done) | (rw [hb]; rfl) | (simp [hb]; done) | (simp_all; done) | exact guard_true hb))); (exact AStepD.move' rfl (by (conv => lhs; whnf); all_goals exact rfl))) | exact GStep.may2 rfl rfl rfl rfl (fun hb1 hb => by (try (apply AStepD.uncond 2 rfl (by first | (rw [hb]; done) | (rw [hb]; rfl) | (simp [hb]; done) | (simp_all; done) | exact guard_true hb))); (exact AStepD.move' rfl (by (conv => lhs; whnf); all_goals exact rfl)))
          · refine Ob.mk _ [1, 124] 0 rfl rfl (restr_cons (by (conv => lhs; whnf); all_goals exact rfl) (restr_cons (by (conv => lhs; whnf); all_goals exact rfl) restr_nil)) rfl ?_
            simp only [List.getD_cons_zero, List.getD_cons_succ]
            first | exact GStep.yes rfl rfl rfl rfl rfl (by exact AStepD.move' rfl (by (conv => lhs; whnf); all_goals exact rfl)) | exact GStep.no rfl rfl rfl rfl rfl | exact GStep.none rfl rfl rfl | exact GStep.may rfl rfl rfl rfl (fun hb => by (try (apply AStepD.uncond 1 rfl (by first | (rw [hb]; done) | (rw [hb]; rfl) | (simp [hb]; done) | (simp_all; done) | exact guard_true hb))); (exact AStepD.move' rfl (by (conv => lhs; whnf); all_goals exact rfl))) | exact GStep.may2 rfl rfl rfl rfl (fun hb1 hb => by (try (apply AStepD.uncond 1 rfl (by first | (rw [hb]; done) | (rw [hb]; rfl) | (simp [hb]; done) | (simp_all; done) | exact guard_true hb))); (exact AStepD.move' rfl (by (conv => lhs; whnf); all_goals exact rfl)))
          · refine Ob.mk _ [11, 124] 0 rfl rfl (restr_cons (by (conv => lhs; whnf); all_goals exact rfl) (restr_cons (by (conv => lhs; whnf); all_goals exact rfl) restr_nil)) rfl ?_
            simp only [List.getD_cons_zero, List.getD_cons_succ]
            first | exact GStep.yes rfl rfl rfl rfl rfl (by exact AStepD.move' rfl (by (conv => lhs; whnf); all_goals exact rfl)) | exact GStep.no rfl rfl rfl rfl rfl | exact GStep.none rfl rfl rfl | exact GStep.may rfl rfl rfl rfl (fun hb => by (try (apply AStepD.uncond 11 rfl (by first | (rw [hb]; done) | (rw [hb]; rfl) | (simp [hb]; done) | (simp_all; done) | exact guard_true hb))); (exact AStepD.move' rfl (by (conv => lhs; whnf); all_goals exact rfl))) | exact GStep.may2 rfl rfl rfl rfl (fun hb1 hb => by (try (apply AStepD.uncond 11 rfl (by first | (rw [hb]; done) | (rw [hb]; rfl) | (simp [hb]; done) | (simp_all; done) | exact guard_true hb))); (exact AStepD.move' rfl (by (conv => lhs; whnf); all_goals exact rfl)))
          · refine Ob.mk _ [131, 124] 0 rfl rfl (restr_cons (by (conv => lhs; whnf); all_goals exact rfl) (restr_cons (by (conv => lhs; whnf); all_goals exact rfl) restr_nil)) rfl ?_
            simp only [List.getD_cons_zero, List.getD_cons_succ]
            first | exact GStep.yes rfl rfl rfl rfl rfl (by first | exact AStepD.len_str tok rfl rfl rfl rfl | exact AStepD.len_sl tok rfl (by (conv => lhs; whnf); all_goals exact rfl) (by first | exact IsSl.vec | exact IsSl.sl | exact IsSl.slc | exact IsSl.nil | with_reducible assumption) rfl rfl | exact AStepD.len_arr tok rfl rfl rfl) | exact GStep.no rfl rfl rfl rfl rfl | exact GStep.none rfl rfl rfl | exact GStep.may rfl rfl rfl rfl (fun hb => by (try (apply AStepD.uncond 131 rfl (by first | (rw [hb]; done) | (rw [hb]; rfl) | (simp [hb]; done) | (simp_all; done) | exact guard_true hb))); (first | exact AStepD.len_str tok rfl rfl rfl rfl | exact AStepD.len_sl tok rfl (by (conv => lhs; whnf); all_goals exact rfl) (by first | exact IsSl.vec | exact IsSl.sl | exact IsSl.slc | exact IsSl.nil | with_reducible assumption) rfl rfl | exact AStepD.len_arr tok rfl rfl rfl)) | exact GStep.may2 rfl rfl rfl rfl (fun hb1 hb => by (try (apply AStepD.uncond 131 rfl (by first | (rw [hb]; done) | (rw [hb]; rfl) | (simp [hb]; done) | (simp_all; done) | exact guard_true hb))); (first | exact AStepD.len_str tok rfl rfl rfl rfl | exact AStepD.len_sl tok rfl (by (conv => lhs; whnf); all_goals exact rfl) (by first | exact IsSl.vec | exact IsSl.sl | exact IsSl.slc | exact IsSl.nil | with_reducible assumption) rfl rfl | exact AStepD.len_arr tok rfl rfl rfl))
          · refine Ob.mk _ [130, 132, 124] 0 rfl rfl (restr_cons (by (conv => lhs; whnf); all_goals exact rfl) (restr_cons (by (conv => lhs; whnf); all_goals exact rfl) (restr_cons (by (conv => lhs; whnf); all_goals exact rfl) restr_nil))) rfl ?_
            simp only [List.getD_cons_zero, List.getD_cons_succ]
            first | exact GStep.yes rfl rfl rfl rfl rfl (by exact AStepD.val (AStepD.min2 rfl rfl rfl rfl) (show _ = AV.v (.int .i64 (c : Int)) from congrArg (fun q => AV.v (.int .i64 q)) hcm)) | exact GStep.no rfl rfl rfl rfl rfl | exact GStep.none rfl rfl rfl | exact GStep.may rfl rfl rfl rfl (fun hb => by (try (apply AStepD.uncond 130 rfl (by first | (rw [hb]; done) | (rw [hb]; rfl) | (simp [hb]; done) | (simp_all; done) | exact guard_true hb))); (try (apply AStepD.uncond 132 rfl (by first | (rw [hb]; done) | (rw [hb]; rfl) | (simp [hb]; done) | (simp_all; done) | exact guard_true hb))); (exact AStepD.val (AStepD.min2 rfl rfl rfl rfl) (show _ = AV.v (.int .i64 (c : Int)) from congrArg (fun q => AV.v (.int .i64 q)) hcm))) | exact GStep.may2 rfl rfl rfl rfl (fun hb1 hb => by (try (apply AStepD.uncond 130 rfl (by first | (rw [hb]; done) | (rw [hb]; rfl) | (simp [hb]; done) | (simp_all; done) | exact guard_true hb))); (try (apply AStepD.uncond 132 rfl (by first | (rw [hb]; done) | (rw [hb]; rfl) | (simp [hb]; done) | (simp_all; done) | exact guard_true hb))); (exact AStepD.val (AStepD.min2 rfl rfl rfl rfl) (show _ = AV.v (.int .i64 (c : Int)) from congrArg (fun q => AV.v (.int .i64 q)) hcm)))
          · refine Ob.mk _ [129, 133, 124] 0 rfl rfl (restr_cons (by (conv => lhs; whnf); all_goals exact rfl) (restr_cons (by (conv => lhs; whnf); all_goals exact rfl) (restr_cons (by (conv => lhs; whnf); all_goals exact rfl) restr_nil))) rfl ?_
            simp only [List.getD_cons_zero, List.getD_cons_succ]
            first | exact GStep.yes rfl rfl rfl rfl rfl (by exact AStepD.mul rfl rfl rfl (show IntKind.i64.wrap ((k : Int) * (c : Int)) = (T : Int) by rw [hTi, IntKind.wrap_i64]; omega)) | exact GStep.no rfl rfl rfl rfl rfl | exact GStep.none rfl rfl rfl | exact GStep.may rfl rfl rfl rfl (fun hb => by (try (apply AStepD.uncond 129 rfl (by first | (rw [hb]; done) | (rw [hb]; rfl) | (simp [hb]; done) | (simp_all; done) | exact guard_true hb))); (try (apply AStepD.uncond 133 rfl (by first | (rw [hb]; done) | (rw [hb]; rfl) | (simp [hb]; done) | (simp_all; done) | exact guard_true hb))); (exact AStepD.mul rfl rfl rfl (show IntKind.i64.wrap ((k : Int) * (c : Int)) = (T : Int) by rw [hTi, IntKind.wrap_i64]; omega))) | exact GStep.may2 rfl rfl rfl rfl (fun hb1 hb => by (try (apply AStepD.uncond 129 rfl (by first | (rw [hb]; done) | (rw [hb]; rfl) | (simp [hb]; done) | (simp_all; done) | exact guard_true hb))); (try (apply AStepD.uncond 133 rfl (by first | (rw [hb]; done) | (rw [hb]; rfl) | (simp [hb]; done) | (simp_all; done) | exact guard_true hb))); (exact AStepD.mul rfl rfl rfl (show IntKind.i64.wrap ((k : Int) * (c : Int)) = (T : Int) by rw [hTi, IntKind.wrap_i64]; omega)))
          · refine Ob.mk _ [11, 124] 0 rfl rfl (restr_cons (by (conv => lhs; whnf); all_goals exact rfl) (restr_cons (by (conv => lhs; whnf); all_goals exact rfl) restr_nil)) rfl ?_
            simp only [List.getD_cons_zero, List.getD_cons_succ]
            first | exact GStep.yes rfl rfl rfl rfl rfl (by exact AStepD.move' rfl (by (conv => lhs; whnf); all_goals exact rfl)) | exact GStep.no rfl rfl rfl rfl rfl | exact GStep.none rfl rfl rfl | exact GStep.may rfl rfl rfl rfl (fun hb => by (try (apply AStepD.uncond 11 rfl (by first | (rw [hb]; done) | (rw [hb]; rfl) | (simp [hb]; done) | (simp_all; done) | exact guard_true hb))); (exact AStepD.move' rfl (by (conv => lhs; whnf); all_goals exact rfl))) | exact GStep.may2 rfl rfl rfl rfl (fun hb1 hb => by (try (apply AStepD.uncond 11 rfl (by first | (rw [hb]; done) | (rw [hb]; rfl) | (simp [hb]; done) | (simp_all; done) | exact guard_true hb))); (exact AStepD.move' rfl (by (conv => lhs; whnf); all_goals exact rfl)))
          · refine Ob.mk _ [135, 124] 0 rfl rfl (restr_cons (by (conv => lhs; whnf); all_goals exact rfl) (restr_cons (by (conv => lhs; whnf); all_goals exact rfl) restr_nil)) rfl ?_
            simp only [List.getD_cons_zero, List.getD_cons_succ]
            first | exact GStep.yes rfl rfl rfl rfl rfl (by first | exact AStepD.len_str tok rfl rfl rfl rfl | exact AStepD.len_sl tok rfl (by (conv => lhs; whnf); all_goals exact rfl) (by first | exact IsSl.vec | exact IsSl.sl | exact IsSl.slc | exact IsSl.nil | with_reducible assumption) rfl rfl | exact AStepD.len_arr tok rfl rfl rfl) | exact GStep.no rfl rfl rfl rfl rfl | exact GStep.none rfl rfl rfl | exact GStep.may rfl rfl rfl rfl (fun hb => by (try (apply AStepD.uncond 135 rfl (by first | (rw [hb]; done) | (rw [hb]; rfl) | (simp [hb]; done) | (simp_all; done) | exact guard_true hb))); (first | exact AStepD.len_str tok rfl rfl rfl rfl | exact AStepD.len_sl tok rfl (by (conv => lhs; whnf); all_goals exact rfl) (by first | exact IsSl.vec | exact IsSl.sl | exact IsSl.slc | exact IsSl.nil | with_reducible assumption) rfl rfl | exact AStepD.len_arr tok rfl rfl rfl)) | exact GStep.may2 rfl rfl rfl rfl (fun hb1 hb => by (try (apply AStepD.uncond 135 rfl (by first | (rw [hb]; done) | (rw [hb]; rfl) | (simp [hb]; done) | (simp_all; done) | exact guard_true hb))); (first | exact AStepD.len_str tok rfl rfl rfl rfl | exact AStepD.len_sl tok rfl (by (conv => lhs; whnf); all_goals exact rfl) (by first | exact IsSl.vec | exact IsSl.sl | exact IsSl.slc | exact IsSl.nil | with_reducible assumption) rfl rfl | exact AStepD.len_arr tok rfl rfl rfl))
          · refine Ob.mk _ [134, 136, 124] 0 rfl rfl (restr_cons (by (conv => lhs; whnf); all_goals exact rfl) (restr_cons (by (conv => lhs; whnf); all_goals exact rfl) (restr_cons (by (conv => lhs; whnf); all_goals exact rfl) restr_nil))) rfl ?_
            simp only [List.getD_cons_zero, List.getD_cons_succ]
            first | exact GStep.yes rfl rfl rfl rfl rfl (by exact AStepD.quo rfl rfl rfl (by omega) hqw) | exact GStep.no rfl rfl rfl rfl rfl | exact GStep.none rfl rfl rfl | exact GStep.may rfl rfl rfl rfl (fun hb => by (try (apply AStepD.uncond 134 rfl (by first | (rw [hb]; done) | (rw [hb]; rfl) | (simp [hb]; done) | (simp_all; done) | exact guard_true hb))); (try (apply AStepD.uncond 136 rfl (by first | (rw [hb]; done) | (rw [hb]; rfl) | (simp [hb]; done) | (simp_all; done) | exact guard_true hb))); (exact AStepD.quo rfl rfl rfl (by omega) hqw)) | exact GStep.may2 rfl rfl rfl rfl (fun hb1 hb => by (try (apply AStepD.uncond 134 rfl (by first | (rw [hb]; done) | (rw [hb]; rfl) | (simp [hb]; done) | (simp_all; done) | exact guard_true hb))); (try (apply AStepD.uncond 136 rfl (by first | (rw [hb]; done) | (rw [hb]; rfl) | (simp [hb]; done) | (simp_all; done) | exact guard_true hb))); (exact AStepD.quo rfl rfl rfl (by omega) hqw))
          · refine Ob.mk _ [128, 137, 124] 0 rfl rfl (restr_cons (by (conv => lhs; whnf); all_goals exact rfl) (restr_cons (by (conv => lhs; whnf); all_goals exact rfl) (restr_cons (by (conv => lhs; whnf); all_goals exact rfl) restr_nil))) rfl ?_
            simp only [List.getD_cons_zero, List.getD_cons_succ]
            first | exact GStep.yes rfl rfl rfl rfl rfl (by first | exact AStepD.neq rfl rfl rfl | exact AStepD.str_neq rfl rfl rfl | exact (AStepD.ptr_nil tok (.inl ⟨_, _, rfl⟩) rfl rfl rfl).2 rfl | exact (AStepD.nil_nil tok rfl rfl rfl rfl).2 rfl | exact (AStepD.bool_eq tok rfl rfl rfl rfl).2 rfl | exact (AStepD.iface_nil tok rfl rfl rfl rfl).2 rfl | exact (AStepD.nilIface_nil tok rfl rfl rfl rfl).2 rfl) | exact GStep.no rfl rfl rfl rfl rfl | exact GStep.none rfl rfl rfl | exact GStep.may rfl rfl rfl rfl (fun hb => by (try (apply AStepD.uncond 128 rfl (by first | (rw [hb]; done) | (rw [hb]; rfl) | (simp [hb]; done) | (simp_all; done) | exact guard_true hb))); (try (apply AStepD.uncond 137 rfl (by first | (rw [hb]; done) | (rw [hb]; rfl) | (simp [hb]; done) | (simp_all; done) | exact guard_true hb))); (first | exact AStepD.neq rfl rfl rfl | exact AStepD.str_neq rfl rfl rfl | exact (AStepD.ptr_nil tok (.inl ⟨_, _, rfl⟩) rfl rfl rfl).2 rfl | exact (AStepD.nil_nil tok rfl rfl rfl rfl).2 rfl | exact (AStepD.bool_eq tok rfl rfl rfl rfl).2 rfl | exact (AStepD.iface_nil tok rfl rfl rfl rfl).2 rfl | exact (AStepD.nilIface_nil tok rfl rfl rfl rfl).2 rfl)) | exact GStep.may2 rfl rfl rfl rfl (fun hb1 hb => by (try (apply AStepD.uncond 128 rfl (by first | (rw [hb]; done) | (rw [hb]; rfl) | (simp [hb]; done) | (simp_all; done) | exact guard_true hb))); (try (apply AStepD.uncond 137 rfl (by first | (rw [hb]; done) | (rw [hb]; rfl) | (simp [hb]; done) | (simp_all; done) | exact guard_true hb))); (first | exact AStepD.neq rfl rfl rfl | exact AStepD.str_neq rfl rfl rfl | exact (AStepD.ptr_nil tok (.inl ⟨_, _, rfl⟩) rfl rfl rfl).2 rfl | exact (AStepD.nil_nil tok rfl rfl rfl rfl).2 rfl | exact (AStepD.bool_eq tok rfl rfl rfl rfl).2 rfl | exact (AStepD.iface_nil tok rfl rfl rfl rfl).2 rfl | exact (AStepD.nilIface_nil tok rfl rfl rfl rfl).2 rfl))
          · refine Ob.mk _ [138, 124] 0 rfl rfl (restr_cons (by (conv => lhs; whnf); all_goals exact rfl) (restr_cons (by (conv => lhs; whnf); all_goals exact rfl) restr_nil)) rfl ?_
            simp only [List.getD_cons_zero, List.getD_cons_succ]
            first | exact GStep.yes rfl rfl rfl rfl rfl (by exact AStepD.move' rfl (by (conv => lhs; whnf); all_goals exact rfl)) | exact GStep.no rfl rfl rfl rfl rfl | exact GStep.none rfl rfl rfl | exact GStep.may rfl rfl rfl rfl (fun hb => by (try (apply AStepD.uncond 138 rfl (by first | (rw [hb]; done) | (rw [hb]; rfl) | (simp [hb]; done) | (simp_all; done) | exact guard_true hb))); (exact AStepD.move' rfl (by (conv => lhs; whnf); all_goals exact rfl))) | exact GStep.may2 rfl rfl rfl rfl (fun hb1 hb => by (try (apply AStepD.uncond 138 rfl (by first | (rw [hb]; done) | (rw [hb]; rfl) | (simp [hb]; done) | (simp_all; done) | exact guard_true hb))); (exact AStepD.move' rfl (by (conv => lhs; whnf); all_goals exact rfl)))
          · refine Ob.mk _ [12, 139] 0 rfl rfl (restr_cons (by (conv => lhs; whnf); all_goals exact rfl) (restr_cons (by (conv => lhs; whnf); all_goals exact rfl) restr_nil)) rfl ?_
            simp only [List.getD_cons_zero, List.getD_cons_succ]
            first | exact GStep.yes rfl rfl rfl rfl rfl (by exact AStepD.move' rfl (by (conv => lhs; whnf); all_goals exact rfl)) | exact GStep.no rfl rfl rfl rfl rfl | exact GStep.none rfl rfl rfl | exact GStep.may rfl rfl rfl rfl (fun hb => by (try (apply AStepD.uncond 12 rfl (by first | (rw [hb]; done) | (rw [hb]; rfl) | (simp [hb]; done) | (simp_all; done) | exact guard_true hb))); (exact AStepD.move' rfl (by (conv => lhs; whnf); all_goals exact rfl))) | exact GStep.may2 rfl rfl rfl rfl (fun hb1 hb => by (try (apply AStepD.uncond 12 rfl (by first | (rw [hb]; done) | (rw [hb]; rfl) | (simp [hb]; done) | (simp_all; done) | exact guard_true hb))); (exact AStepD.move' rfl (by (conv => lhs; whnf); all_goals exact rfl)))
          · refine Ob.mk _ [18, 139] 0 rfl rfl (restr_cons (by (conv => lhs; whnf); all_goals exact rfl) (restr_cons (by (conv => lhs; whnf); all_goals exact rfl) restr_nil)) rfl ?_
            simp only [List.getD_cons_zero, List.getD_cons_succ]
            first | exact GStep.yes rfl rfl rfl rfl rfl (by exact AStepD.move' rfl (by (conv => lhs; whnf); all_goals exact rfl)) | exact GStep.no rfl rfl rfl rfl rfl | exact GStep.none rfl rfl rfl | exact GStep.may rfl rfl rfl rfl (fun hb => by (try (apply AStepD.uncond 18 rfl (by first | (rw [hb]; done) | (rw [hb]; rfl) | (simp [hb]; done) | (simp_all; done) | exact guard_true hb))); (exact AStepD.move' rfl (by (conv => lhs; whnf); all_goals exact rfl))) | exact GStep.may2 rfl rfl rfl rfl (fun hb1 hb => by (try (apply AStepD.uncond 18 rfl (by first | (rw [hb]; done) | (rw [hb]; rfl) | (simp [hb]; done) | (simp_all; done) | exact guard_true hb))); (exact AStepD.move' rfl (by (conv => lhs; whnf); all_goals exact rfl)))
          · refine Ob.mk _ [140, 141, 139] 0 rfl rfl (restr_cons (by (conv => lhs; whnf); all_goals exact rfl) (restr_cons (by (conv => lhs; whnf); all_goals exact rfl) (restr_cons (by (conv => lhs; whnf); all_goals exact rfl) restr_nil))) rfl ?_
            simp only [List.getD_cons_zero, List.getD_cons_succ]
            first | exact GStep.yes rfl rfl rfl rfl rfl (by exact AStepD.indexAddr_sl' (i := x) tok rfl rfl rfl rfl rfl rfl (show _ = 1 from rfl) rfl hxN (Nat.zero_add _)) | exact GStep.no rfl rfl rfl rfl rfl | exact GStep.none rfl rfl rfl | exact GStep.may rfl rfl rfl rfl (fun hb => by (try (apply AStepD.uncond 140 rfl (by first | (rw [hb]; done) | (rw [hb]; rfl) | (simp [hb]; done) | (simp_all; done) | exact guard_true hb))); (try (apply AStepD.uncond 141 rfl (by first | (rw [hb]; done) | (rw [hb]; rfl) | (simp [hb]; done) | (simp_all; done) | exact guard_true hb))); (exact AStepD.indexAddr_sl' (i := x) tok rfl rfl rfl rfl rfl rfl (show _ = 1 from rfl) rfl hxN (Nat.zero_add _))) | exact GStep.may2 rfl rfl rfl rfl (fun hb1 hb => by (try (apply AStepD.uncond 140 rfl (by first | (rw [hb]; done) | (rw [hb]; rfl) | (simp [hb]; done) | (simp_all; done) | exact guard_true hb))); (try (apply AStepD.uncond 141 rfl (by first | (rw [hb]; done) | (rw [hb]; rfl) | (simp [hb]; done) | (simp_all; done) | exact guard_true hb))); (exact AStepD.indexAddr_sl' (i := x) tok rfl rfl rfl rfl rfl rfl (show _ = 1 from rfl) rfl hxN (Nat.zero_add _)))
          · refine Ob.mk _ [142, 139] 0 rfl rfl (restr_cons (by (conv => lhs; whnf); all_goals exact rfl) (restr_cons (by (conv => lhs; whnf); all_goals exact rfl) restr_nil)) rfl ?_
            simp only [List.getD_cons_zero, List.getD_cons_succ]
            first | exact GStep.yes rfl rfl rfl rfl rfl (by first | exact AStepD.load_one tok rfl rfl rfl rfl (by first | with_reducible assumption | (simp (disch := (first | omega | (refine id ?_; simp only [za, zb, zc]; done) | (simp only [za, zb, zc]; omega))) only [z1, z2, z3, z4, z5, z6, z7, z8, ne_eq, *]; done) | (simp (disch := (first | omega | (refine id ?_; simp only [za, zb, zc]; done) | (simp only [za, zb, zc]; omega))) only [z1, z2, z3, z4, z5, z6, z7, z8, ne_eq, *]; exact rfl)) rfl (by first | with_reducible assumption | exact rfl) | exact AStepD.load_one_ip tok rfl rfl rfl rfl rfl (by first | with_reducible assumption | exact rfl)) | exact GStep.no rfl rfl rfl rfl rfl | exact GStep.none rfl rfl rfl | exact GStep.may rfl rfl rfl rfl (fun hb => by (try (apply AStepD.uncond 142 rfl (by first | (rw [hb]; done) | (rw [hb]; rfl) | (simp [hb]; done) | (simp_all; done) | exact guard_true hb))); (first | exact AStepD.load_one tok rfl rfl rfl rfl (by first | with_reducible assumption | (simp (disch := (first | omega | (refine id ?_; simp only [za, zb, zc]; done) | (simp only [za, zb, zc]; omega))) only [z1, z2, z3, z4, z5, z6, z7, z8, ne_eq, *]; done) | (simp (disch := (first | omega | (refine id ?_; simp only [za, zb, zc]; done) | (simp only [za, zb, zc]; omega))) only [z1, z2, z3, z4, z5, z6, z7, z8, ne_eq, *]; exact rfl)) rfl (by first | with_reducible assumption | exact rfl) | exact AStepD.load_one_ip tok rfl rfl rfl rfl rfl (by first | with_reducible assumption | exact rfl))) | exact GStep.may2 rfl rfl rfl rfl (fun hb1 hb => by (try (apply AStepD.uncond 142 rfl (by first | (rw [hb]; done) | (rw [hb]; rfl) | (simp [hb]; done) | (simp_all; done) | exact guard_true hb))); (first | exact AStepD.load_one tok rfl rfl rfl rfl (by first | with_reducible assumption | (simp (disch := (first | omega | (refine id ?_; simp only [za, zb, zc]; done) | (simp only [za, zb, zc]; omega))) only [z1, z2, z3, z4, z5, z6, z7, z8, ne_eq, *]; done) | (simp (disch := (first | omega | (refine id ?_; simp only [za, zb, zc]; done) | (simp only [za, zb, zc]; omega))) only [z1, z2, z3, z4, z5, z6, z7, z8, ne_eq, *]; exact rfl)) rfl (by first | with_reducible assumption | exact rfl) | exact AStepD.load_one_ip tok rfl rfl rfl rfl rfl (by first | with_reducible assumption | exact rfl)))
          · refine Ob.mk _ [2, 139] 0 rfl rfl (restr_cons (by (conv => lhs; whnf); all_goals exact rfl) (restr_cons (by (conv => lhs; whnf); all_goals exact rfl) restr_nil)) rfl ?_
            simp only [List.getD_cons_zero, List.getD_cons_succ]
            first | exact GStep.yes rfl rfl rfl rfl rfl (by exact AStepD.move' rfl (by (conv => lhs; whnf); all_goals exact rfl)) | exact GStep.no rfl rfl rfl rfl rfl | exact GStep.none rfl rfl rfl | exact GStep.may rfl rfl rfl rfl (fun hb => by (try (apply AStepD.uncond 2 rfl (by first | (rw [hb]; done) | (rw [hb]; rfl) | (simp [hb]; done) | (simp_all; done) | exact guard_true hb))); (exact AStepD.move' rfl (by (conv => lhs; whnf); all_goals exact rfl))) | exact GStep.may2 rfl rfl rfl rfl (fun hb1 hb => by (try (apply AStepD.uncond 2 rfl (by first | (rw [hb]; done) | (rw [hb]; rfl) | (simp [hb]; done) | (simp_all; done) | exact guard_true hb))); (exact AStepD.move' rfl (by (conv => lhs; whnf); all_goals exact rfl)))
          · refine Ob.mk _ [1, 139] 0 rfl rfl (restr_cons (by (conv => lhs; whnf); all_goals exact rfl) (restr_cons (by (conv => lhs; whnf); all_goals exact rfl) restr_nil)) rfl ?_
            simp only [List.getD_cons_zero, List.getD_cons_succ]
            first | exact GStep.yes rfl rfl rfl rfl rfl (by exact AStepD.move' rfl (by (conv => lhs; whnf); all_goals exact rfl)) | exact GStep.no rfl rfl rfl rfl rfl | exact GStep.none rfl rfl rfl | exact GStep.may rfl rfl rfl rfl (fun hb => by (try (apply AStepD.uncond 1 rfl (by first | (rw [hb]; done) | (rw [hb]; rfl) | (simp [hb]; done) | (simp_all; done) | exact guard_true hb))); (exact AStepD.move' rfl (by (conv => lhs; whnf); all_goals exact rfl))) | exact GStep.may2 rfl rfl rfl rfl (fun hb1 hb => by (try (apply AStepD.uncond 1 rfl (by first | (rw [hb]; done) | (rw [hb]; rfl) | (simp [hb]; done) | (simp_all; done) | exact guard_true hb))); (exact AStepD.move' rfl (by (conv => lhs; whnf); all_goals exact rfl)))
          · refine Ob.mk _ [11, 139] 0 rfl rfl (restr_cons (by (conv => lhs; whnf); all_goals exact rfl) (restr_cons (by (conv => lhs; whnf); all_goals exact rfl) restr_nil)) rfl ?_
            simp only [List.getD_cons_zero, List.getD_cons_succ]
            first | exact GStep.yes rfl rfl rfl rfl rfl (by exact AStepD.move' rfl (by (conv => lhs; whnf); all_goals exact rfl)) | exact GStep.no rfl rfl rfl rfl rfl | exact GStep.none rfl rfl rfl | exact GStep.may rfl rfl rfl rfl (fun hb => by (try (apply AStepD.uncond 11 rfl (by first | (rw [hb]; done) | (rw [hb]; rfl) | (simp [hb]; done) | (simp_all; done) | exact guard_true hb))); (exact AStepD.move' rfl (by (conv => lhs; whnf); all_goals exact rfl))) | exact GStep.may2 rfl rfl rfl rfl (fun hb1 hb => by (try (apply AStepD.uncond 11 rfl (by first | (rw [hb]; done) | (rw [hb]; rfl) | (simp [hb]; done) | (simp_all; done) | exact guard_true hb))); (exact AStepD.move' rfl (by (conv => lhs; whnf); all_goals exact rfl)))
          · refine Ob.mk _ [146, 139] 0 rfl rfl (restr_cons (by (conv => lhs; whnf); all_goals exact rfl) (restr_cons (by (conv => lhs; whnf); all_goals exact rfl) restr_nil)) rfl ?_
            simp only [List.getD_cons_zero, List.getD_cons_succ]
            first | exact GStep.yes rfl rfl rfl rfl rfl (by first | exact AStepD.len_str tok rfl rfl rfl rfl | exact AStepD.len_sl tok rfl (by (conv => lhs; whnf); all_goals exact rfl) (by first | exact IsSl.vec | exact IsSl.sl | exact IsSl.slc | exact IsSl.nil | with_reducible assumption) rfl rfl | exact AStepD.len_arr tok rfl rfl rfl) | exact GStep.no rfl rfl rfl rfl rfl | exact GStep.none rfl rfl rfl | exact GStep.may rfl rfl rfl rfl (fun hb => by (try (apply AStepD.uncond 146 rfl (by first | (rw [hb]; done) | (rw [hb]; rfl) | (simp [hb]; done) | (simp_all; done) | exact guard_true hb))); (first | exact AStepD.len_str tok rfl rfl rfl rfl | exact AStepD.len_sl tok rfl (by (conv => lhs; whnf); all_goals exact rfl) (by first | exact IsSl.vec | exact IsSl.sl | exact IsSl.slc | exact IsSl.nil | with_reducible assumption) rfl rfl | exact AStepD.len_arr tok rfl rfl rfl)) | exact GStep.may2 rfl rfl rfl rfl (fun hb1 hb => by (try (apply AStepD.uncond 146 rfl (by first | (rw [hb]; done) | (rw [hb]; rfl) | (simp [hb]; done) | (simp_all; done) | exact guard_true hb))); (first | exact AStepD.len_str tok rfl rfl rfl rfl | exact AStepD.len_sl tok rfl (by (conv => lhs; whnf); all_goals exact rfl) (by first | exact IsSl.vec | exact IsSl.sl | exact IsSl.slc | exact IsSl.nil | with_reducible assumption) rfl rfl | exact AStepD.len_arr tok rfl rfl rfl))
          · refine Ob.mk _ [145, 147, 139] 0 rfl rfl (restr_cons (by (conv => lhs; whnf); all_goals exact rfl) (restr_cons (by (conv => lhs; whnf); all_goals exact rfl) (restr_cons (by (conv => lhs; whnf); all_goals exact rfl) restr_nil))) rfl ?_
            simp only [List.getD_cons_zero, List.getD_cons_succ]
            first | exact GStep.yes rfl rfl rfl rfl rfl (by exact AStepD.val (AStepD.min2 rfl rfl rfl rfl) (show _ = AV.v (.int .i64 (c : Int)) from congrArg (fun q => AV.v (.int .i64 q)) hcm)) | exact GStep.no rfl rfl rfl rfl rfl | exact GStep.none rfl rfl rfl | exact GStep.may rfl rfl rfl rfl (fun hb => by (try (apply AStepD.uncond 145 rfl (by first | (rw [hb]; done) | (rw [hb]; rfl) | (simp [hb]; done) | (simp_all; done) | exact guard_true hb))); (try (apply AStepD.uncond 147 rfl (by first | (rw [hb]; done) | (rw [hb]; rfl) | (simp [hb]; done) | (simp_all; done) | exact guard_true hb))); (exact AStepD.val (AStepD.min2 rfl rfl rfl rfl) (show _ = AV.v (.int .i64 (c : Int)) from congrArg (fun q => AV.v (.int .i64 q)) hcm))) | exact GStep.may2 rfl rfl rfl rfl (fun hb1 hb => by (try (apply AStepD.uncond 145 rfl (by first | (rw [hb]; done) | (rw [hb]; rfl) | (simp [hb]; done) | (simp_all; done) | exact guard_true hb))); (try (apply AStepD.uncond 147 rfl (by first | (rw [hb]; done) | (rw [hb]; rfl) | (simp [hb]; done) | (simp_all; done) | exact guard_true hb))); (exact AStepD.val (AStepD.min2 rfl rfl rfl rfl) (show _ = AV.v (.int .i64 (c : Int)) from congrArg (fun q => AV.v (.int .i64 q)) hcm)))
          · refine Ob.mk _ [144, 148, 139] 0 rfl rfl (restr_cons (by (conv => lhs; whnf); all_goals exact rfl) (restr_cons (by (conv => lhs; whnf); all_goals exact rfl) (restr_cons (by (conv => lhs; whnf); all_goals exact rfl) restr_nil))) rfl ?_
            simp only [List.getD_cons_zero, List.getD_cons_succ]
            first | exact GStep.yes rfl rfl rfl rfl rfl (by exact AStepD.mul rfl rfl rfl (show IntKind.i64.wrap ((k : Int) * (c : Int)) = (T : Int) by rw [hTi, IntKind.wrap_i64]; omega)) | exact GStep.no rfl rfl rfl rfl rfl | exact GStep.none rfl rfl rfl | exact GStep.may rfl rfl rfl rfl (fun hb => by (try (apply AStepD.uncond 144 rfl (by first | (rw [hb]; done) | (rw [hb]; rfl) | (simp [hb]; done) | (simp_all; done) | exact guard_true hb))); (try (apply AStepD.uncond 148 rfl (by first | (rw [hb]; done) | (rw [hb]; rfl) | (simp [hb]; done) | (simp_all; done) | exact guard_true hb))); (exact AStepD.mul rfl rfl rfl (show IntKind.i64.wrap ((k : Int) * (c : Int)) = (T : Int) by rw [hTi, IntKind.wrap_i64]; omega))) | exact GStep.may2 rfl rfl rfl rfl (fun hb1 hb => by (try (apply AStepD.uncond 144 rfl (by first | (rw [hb]; done) | (rw [hb]; rfl) | (simp [hb]; done) | (simp_all; done) | exact guard_true hb))); (try (apply AStepD.uncond 148 rfl (by first | (rw [hb]; done) | (rw [hb]; rfl) | (simp [hb]; done) | (simp_all; done) | exact guard_true hb))); (exact AStepD.mul rfl rfl rfl (show IntKind.i64.wrap ((k : Int) * (c : Int)) = (T : Int) by rw [hTi, IntKind.wrap_i64]; omega)))
          · refine Ob.mk _ [11, 139] 0 rfl rfl (restr_cons (by (conv => lhs; whnf); all_goals exact rfl) (restr_cons (by (conv => lhs; whnf); all_goals exact rfl) restr_nil)) rfl ?_
            simp only [List.getD_cons_zero, List.getD_cons_succ]
            first | exact GStep.yes rfl rfl rfl rfl rfl (by exact AStepD.move' rfl (by (conv => lhs; whnf); all_goals exact rfl)) | exact GStep.no rfl rfl rfl rfl rfl | exact GStep.none rfl rfl rfl | exact GStep.may rfl rfl rfl rfl (fun hb => by (try (apply AStepD.uncond 11 rfl (by first | (rw [hb]; done) | (rw [hb]; rfl) | (simp [hb]; done) | (simp_all; done) | exact guard_true hb))); (exact AStepD.move' rfl (by (conv => lhs; whnf); all_goals exact rfl))) | exact GStep.may2 rfl rfl rfl rfl (fun hb1 hb => by (try (apply AStepD.uncond 11 rfl (by first | (rw [hb]; done) | (rw [hb]; rfl) | (simp [hb]; done) | (simp_all; done) | exact guard_true hb))); (exact AStepD.move' rfl (by (conv => lhs; whnf); all_goals exact rfl)))
          · refine Ob.mk _ [150, 139] 0 rfl rfl (restr_cons (by (conv => lhs; whnf); all_goals exact rfl) (restr_cons (by (conv => lhs; whnf); all_goals exact rfl) restr_nil)) rfl ?_
            simp only [List.getD_cons_zero, List.getD_cons_succ]
            first | exact GStep.yes rfl rfl rfl rfl rfl (by first | exact AStepD.len_str tok rfl rfl rfl rfl | exact AStepD.len_sl tok rfl (by (conv => lhs; whnf); all_goals exact rfl) (by first | exact IsSl.vec | exact IsSl.sl | exact IsSl.slc | exact IsSl.nil | with_reducible assumption) rfl rfl | exact AStepD.len_arr tok rfl rfl rfl) | exact GStep.no rfl rfl rfl rfl rfl | exact GStep.none rfl rfl rfl | exact GStep.may rfl rfl rfl rfl (fun hb => by (try (apply AStepD.uncond 150 rfl (by first | (rw [hb]; done) | (rw [hb]; rfl) | (simp [hb]; done) | (simp_all; done) | exact guard_true hb))); (first | exact AStepD.len_str tok rfl rfl rfl rfl | exact AStepD.len_sl tok rfl (by (conv => lhs; whnf); all_goals exact rfl) (by first | exact IsSl.vec | exact IsSl.sl | exact IsSl.slc | exact IsSl.nil | with_reducible assumption) rfl rfl | exact AStepD.len_arr tok rfl rfl rfl)) | exact GStep.may2 rfl rfl rfl rfl (fun hb1 hb => by (try (apply AStepD.uncond 150 rfl (by first | (rw [hb]; done) | (rw [hb]; rfl) | (simp [hb]; done) | (simp_all; done) | exact guard_true hb))); (first | exact AStepD.len_str tok rfl rfl rfl rfl | exact AStepD.len_sl tok rfl (by (conv => lhs; whnf); all_goals exact rfl) (by first | exact IsSl.vec | exact IsSl.sl | exact IsSl.slc | exact IsSl.nil | with_reducible assumption) rfl rfl | exact AStepD.len_arr tok rfl rfl rfl))
          · refine Ob.mk _ [149, 151, 139] 0 rfl rfl (restr_cons (by (conv => lhs; whnf); all_goals exact rfl) (restr_cons (by (conv => lhs; whnf); all_goals exact rfl) (restr_cons (by (conv => lhs; whnf); all_goals exact rfl) restr_nil))) rfl ?_
            simp only [List.getD_cons_zero, List.getD_cons_succ]
            first | exact GStep.yes rfl rfl rfl rfl rfl (by exact AStepD.quo rfl rfl rfl (by omega) hqw) | exact GStep.no rfl rfl rfl rfl rfl | exact GStep.none rfl rfl rfl | exact GStep.may rfl rfl rfl rfl (fun hb => by (try (apply AStepD.uncond 149 rfl (by first | (rw [hb]; done) | (rw [hb]; rfl) | (simp [hb]; done) | (simp_all; done) | exact guard_true hb))); (try (apply AStepD.uncond 151 rfl (by first | (rw [hb]; done) | (rw [hb]; rfl) | (simp [hb]; done) | (simp_all; done) | exact guard_true hb))); (exact AStepD.quo rfl rfl rfl (by omega) hqw)) | exact GStep.may2 rfl rfl rfl rfl (fun hb1 hb => by (try (apply AStepD.uncond 149 rfl (by first | (rw [hb]; done) | (rw [hb]; rfl) | (simp [hb]; done) | (simp_all; done) | exact guard_true hb))); (try (apply AStepD.uncond 151 rfl (by first | (rw [hb]; done) | (rw [hb]; rfl) | (simp [hb]; done) | (simp_all; done) | exact guard_true hb))); (exact AStepD.quo rfl rfl rfl (by omega) hqw))
          · refine Ob.mk _ [152, 139] 0 rfl rfl (restr_cons (by (conv => lhs; whnf); all_goals exact rfl) (restr_cons (by (conv => lhs; whnf); all_goals exact rfl) restr_nil)) rfl ?_
            simp only [List.getD_cons_zero, List.getD_cons_succ]
            first | exact GStep.yes rfl rfl rfl rfl rfl (by first | exact AStepD.add rfl rfl rfl (by first | exact IntWalk.i64_in _ (by omega) | exact rfl) | exact AStepD.str_add rfl rfl rfl (by omega)) | exact GStep.no rfl rfl rfl rfl rfl | exact GStep.none rfl rfl rfl | exact GStep.may rfl rfl rfl rfl (fun hb => by (try (apply AStepD.uncond 152 rfl (by first | (rw [hb]; done) | (rw [hb]; rfl) | (simp [hb]; done) | (simp_all; done) | exact guard_true hb))); (first | exact AStepD.add rfl rfl rfl (by first | exact IntWalk.i64_in _ (by omega) | exact rfl) | exact AStepD.str_add rfl rfl rfl (by omega))) | exact GStep.may2 rfl rfl rfl rfl (fun hb1 hb => by (try (apply AStepD.uncond 152 rfl (by first | (rw [hb]; done) | (rw [hb]; rfl) | (simp [hb]; done) | (simp_all; done) | exact guard_true hb))); (first | exact AStepD.add rfl rfl rfl (by first | exact IntWalk.i64_in _ (by omega) | exact rfl) | exact AStepD.str_add rfl rfl rfl (by omega)))
          · refine Ob.mk _ [143, 153, 139] 0 rfl rfl (restr_cons (by (conv => lhs; whnf); all_goals exact rfl) (restr_cons (by (conv => lhs; whnf); all_goals exact rfl) (restr_cons (by (conv => lhs; whnf); all_goals exact rfl) restr_nil))) rfl ?_
            simp only [List.getD_cons_zero, List.getD_cons_succ]
            first | exact GStep.yes rfl rfl rfl rfl rfl (by first | exact AStepD.neq rfl rfl rfl | exact AStepD.str_neq rfl rfl rfl | exact (AStepD.ptr_nil tok (.inl ⟨_, _, rfl⟩) rfl rfl rfl).2 rfl | exact (AStepD.nil_nil tok rfl rfl rfl rfl).2 rfl | exact (AStepD.bool_eq tok rfl rfl rfl rfl).2 rfl | exact (AStepD.iface_nil tok rfl rfl rfl rfl).2 rfl | exact (AStepD.nilIface_nil tok rfl rfl rfl rfl).2 rfl) | exact GStep.no rfl rfl rfl rfl rfl | exact GStep.none rfl rfl rfl | exact GStep.may rfl rfl rfl rfl (fun hb => by (try (apply AStepD.uncond 143 rfl (by first | (rw [hb]; done) | (rw [hb]; rfl) | (simp [hb]; done) | (simp_all; done) | exact guard_true hb))); (try (apply AStepD.uncond 153 rfl (by first | (rw [hb]; done) | (rw [hb]; rfl) | (simp [hb]; done) | (simp_all; done) | exact guard_true hb))); (first | exact AStepD.neq rfl rfl rfl | exact AStepD.str_neq rfl rfl rfl | exact (AStepD.ptr_nil tok (.inl ⟨_, _, rfl⟩) rfl rfl rfl).2 rfl | exact (AStepD.nil_nil tok rfl rfl rfl rfl).2 rfl | exact (AStepD.bool_eq tok rfl rfl rfl rfl).2 rfl | exact (AStepD.iface_nil tok rfl rfl rfl rfl).2 rfl | exact (AStepD.nilIface_nil tok rfl rfl rfl rfl).2 rfl)) | exact GStep.may2 rfl rfl rfl rfl (fun hb1 hb => by (try (apply AStepD.uncond 143 rfl (by first | (rw [hb]; done) | (rw [hb]; rfl) | (simp [hb]; done) | (simp_all; done) | exact guard_true hb))); (try (apply AStepD.uncond 153 rfl (by first | (rw [hb]; done) | (rw [hb]; rfl) | (simp [hb]; done) | (simp_all; done) | exact guard_true hb))); (first | exact AStepD.neq rfl rfl rfl | exact AStepD.str_neq rfl rfl rfl | exact (AStepD.ptr_nil tok (.inl ⟨_, _, rfl⟩) rfl rfl rfl).2 rfl | exact (AStepD.nil_nil tok rfl rfl rfl rfl).2 rfl | exact (AStepD.bool_eq tok rfl rfl rfl rfl).2 rfl | exact (AStepD.iface_nil tok rfl rfl rfl rfl).2 rfl | exact (AStepD.nilIface_nil tok rfl rfl rfl rfl).2 rfl))
          · refine Ob.mk _ [139, 154, 124] 0 rfl rfl (restr_cons (by (conv => lhs; whnf); all_goals exact rfl) (restr_cons (by (conv => lhs; whnf); all_goals exact rfl) (restr_cons (by (conv => lhs; whnf); all_goals exact rfl) restr_nil))) rfl ?_
            simp only [List.getD_cons_zero, List.getD_cons_succ]
            first | exact GStep.yes rfl rfl rfl rfl rfl (by first | exact AStepD.pick_true' rfl rfl (by (conv => lhs; whnf); all_goals exact rfl) | exact AStepD.pick_false' rfl rfl (by (conv => lhs; whnf); all_goals exact rfl) | exact AStepD.and rfl _ _ _ rfl rfl (by intro h; first | (rw [h]; done) | (rw [h]; rfl) | (simp [h]; done) | (simp_all; done) | exact guard_true h) rfl | exact AStepD.and' rfl _ _ rfl rfl rfl | exact AStepD.or rfl _ _ _ rfl rfl rfl (by intro h; first | (rw [h]; done) | (rw [h]; rfl) | (simp [h]; done) | (simp_all; done) | exact guard_true h) | exact AStepD.or' rfl _ _ rfl rfl rfl) | exact GStep.no rfl rfl rfl rfl rfl | exact GStep.none rfl rfl rfl | exact GStep.may rfl rfl rfl rfl (fun hb => by (try (apply AStepD.uncond 139 rfl (by first | (rw [hb]; done) | (rw [hb]; rfl) | (simp [hb]; done) | (simp_all; done) | exact guard_true hb))); (try (apply AStepD.uncond 154 rfl (by first | (rw [hb]; done) | (rw [hb]; rfl) | (simp [hb]; done) | (simp_all; done) | exact guard_true hb))); (first | exact AStepD.pick_true' rfl rfl (by (conv => lhs; whnf); all_goals exact rfl) | exact AStepD.pick_false' rfl rfl (by (conv => lhs; whnf); all_goals exact rfl) | exact AStepD.and rfl _ _ _ rfl rfl (by intro h; first | (rw [h]; done) | (rw [h]; rfl) | (simp [h]; done) | (simp_all; done) | exact guard_true h) rfl | exact AStepD.and' rfl _ _ rfl rfl rfl | exact AStepD.or rfl _ _ _ rfl rfl rfl (by intro h; first | (rw [h]; done) | (rw [h]; rfl) | (simp [h]; done) | (simp_all; done) | exact guard_true h) | exact AStepD.or' rfl _ _ rfl rfl rfl)) | exact GStep.may2 rfl rfl rfl rfl (fun hb1 hb => by (try (apply AStepD.uncond 139 rfl (by first | (rw [hb]; done) | (rw [hb]; rfl) | (simp [hb]; done) | (simp_all; done) | exact guard_true hb))); (try (apply AStepD.uncond 154 rfl (by first | (rw [hb]; done) | (rw [hb]; rfl) | (simp [hb]; done) | (simp_all; done) | exact guard_true hb))); (first | exact AStepD.pick_true' rfl rfl (by (conv => lhs; whnf); all_goals exact rfl) | exact AStepD.pick_false' rfl rfl (by (conv => lhs; whnf); all_goals exact rfl) | exact AStepD.and rfl _ _ _ rfl rfl (by intro h; first | (rw [h]; done) | (rw [h]; rfl) | (simp [h]; done) | (simp_all; done) | exact guard_true h) rfl | exact AStepD.and' rfl _ _ rfl rfl rfl | exact AStepD.or rfl _ _ _ rfl rfl rfl (by intro h; first | (rw [h]; done) | (rw [h]; rfl) | (simp [h]; done) | (simp_all; done) | exact guard_true h) | exact AStepD.or' rfl _ _ rfl rfl rfl))
          · refine Ob.mk _ [124, 155] 0 rfl rfl (restr_cons (by (conv => lhs; whnf); all_goals exact rfl) (restr_cons (by (conv => lhs; whnf); all_goals exact rfl) restr_nil)) rfl ?_
            simp only [List.getD_cons_zero, List.getD_cons_succ]
            exact GStep.plain rfl (by first | exact AStepD.pick_true' rfl rfl (by (conv => lhs; whnf); all_goals exact rfl) | exact AStepD.pick_false' rfl rfl (by (conv => lhs; whnf); all_goals exact rfl) | exact AStepD.and rfl _ _ _ rfl rfl (by intro h; first | (rw [h]; done) | (rw [h]; rfl) | (simp [h]; done) | (simp_all; done) | exact guard_true h) rfl | exact AStepD.and' rfl _ _ rfl rfl rfl | exact AStepD.or rfl _ _ _ rfl rfl rfl (by intro h; first | (rw [h]; done) | (rw [h]; rfl) | (simp [h]; done) | (simp_all; done) | exact guard_true h) | exact AStepD.or' rfl _ _ rfl rfl rfl)
        refine hK _ _ ?_; clear hK K
        refine AW.frame (by simp only [frameAt, putA]; all_goals exact rfl) (by simp only [List.length_cons, List.length_nil, Nat.zero_add, Nat.reduceAdd, List.getD_cons_zero, List.getD_cons_succ]; all_goals apply Eq.refl) ?_
        refine AW.cond_false rfl ?_ (AW.skip ?_)
        · rw [Bool.and_eq_false_iff, decide_eq_false_iff_not, decide_eq_false_iff_not]
          omega
        · refine hK1 _ _ ?_; clear hK1 K1
          refine AW.region ?_
          refine AL.step rfl rfl rfl (by first | exact AStepD.add rfl rfl rfl (by first | exact IntWalk.i64_in _ (by omega) | exact rfl) | exact AStepD.str_add rfl rfl rfl (by omega)) ?_
          refine AL.step rfl rfl rfl (by exact AStepD.move' rfl (by (conv => lhs; whnf); all_goals exact rfl)) ?_
          refine AL.nil ?_
          refine ⟨x + 1, ?_, (by repeat' (first | exact SubT.nil _ | refine SubT.cons_eq (by (conv => lhs; whnf); all_goals first | exact rfl | (simp; done) | (simp; omega)) ?_)), hxN, hD8⟩
          show N - (x + 1) < N - x
          omega
      · refine AW.exit ?_
        refine hK _ _ ?_; clear hK1 K1 hK K
        refine AW.seq_region (fun K hK => ?_)
        refine AL.step rfl rfl rfl (by exact AStepD.assign' rfl (by (conv => lhs; whnf); all_goals exact rfl)) ?_
        refine AL.nil_then (hK _ _ ?_); clear hK K
        exact AW.ret (RetQ.mk (.inr rfl) (retA_tmp rfl (by (conv => lhs; whnf); all_goals exact rfl) retA_nil) rfl)
end Go.Proofs.Ytjiifddmcmbbnaa
