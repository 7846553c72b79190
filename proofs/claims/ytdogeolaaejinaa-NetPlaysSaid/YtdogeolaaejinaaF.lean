/- The walk of the statement on a full network. -/
import Derived.Test.YtdogeolaaejinaaE
namespace Go.Proofs.Ytdogeolaaejinaa
open Go.Ax
set_option linter.unusedSimpArgs false
set_option linter.unusedVariables false

theorem double_full (H : AHeap) (n L : Nat) (ms : List Msg) (lost : Int) (i : Nat) (hN : NetAt H n L ms lost) (hi : i < ms.length) (hb : ms.length = 4096) :
    ACalls Try.prog 13 [.ptr n 0, .v (.int .i64 i)] H (fun r H' => r = .v (.bool false) ∧ H' = H) := by
  obtain ⟨x0, hH, hL⟩ := hN
  have hsl := hL.isSl
  refine ACalls.of_body tok Try.func13 rfl Try.ntmps13 (Nat.le_of_ble_eq_true rfl) ?_
  refine AW.seq_region (fun K hK => ?_)
  refine AL.step rfl rfl rfl (by exact AStepD.assign' rfl (by (conv => lhs; whnf); all_goals exact rfl)) ?_
  refine AL.nil_then (hK _ _ ?_); clear hK K
  refine AW.seq_k (fun K hK => ?_)
  refine AW.seq_region (fun K hK => ?_)
  refine AL.step rfl rfl rfl (by exact AStepD.move' rfl (by (conv => lhs; whnf); all_goals exact rfl)) ?_
  refine AL.step rfl rfl rfl (by exact AStepD.move' rfl (by (conv => lhs; whnf); all_goals exact rfl)) ?_
  refine AL.step rfl rfl rfl (by exact AStepD.callf rfl en17 rfl (there_calls _ n ms.length _ _ i (by first | with_reducible assumption | (simp (disch := (first | omega | (refine id ?_; simp only [za, zb, zc]; done) | (simp only [za, zb, zc]; omega))) only [z1, z2, z3, z4, z5, z6, z7, z8, ne_eq, *]; done) | (simp (disch := (first | omega | (refine id ?_; simp only [za, zb, zc]; done) | (simp only [za, zb, zc]; omega))) only [z1, z2, z3, z4, z5, z6, z7, z8, ne_eq, *]; exact rfl)) hsl)) ?_
  refine AL.step rfl rfl rfl (by first | exact AStepD.not rfl rfl | exact AStepD.neg rfl rfl (by first | exact IntWalk.i64_in _ (by omega) | exact rfl)) ?_
  refine AL.step rfl rfl rfl (by exact AStepD.move' rfl (by (conv => lhs; whnf); all_goals exact rfl)) ?_
  first | refine AL.gstep rfl rfl rfl rfl rfl rfl rfl (by exact AStepD.move' rfl (by (conv => lhs; whnf); all_goals exact rfl)) ?_ | refine AL.gskip rfl rfl rfl rfl rfl rfl rfl ?_ | refine AL.gnone rfl rfl rfl rfl rfl ?_ | refine AL.gmay rfl rfl rfl rfl rfl rfl (fun hb => by (try (apply AStepD.uncond 0 rfl (by first | exact guard_true hb | (rw [hb]; done) | (rw [hb]; rfl) | simp [hb]))); (exact AStepD.move' rfl (by (conv => lhs; whnf); all_goals exact rfl))) ?_
  first | refine AL.gstep rfl rfl rfl rfl rfl rfl rfl (by first | exact AStepD.nilCheck_ptr rfl rfl | exact AStepD.nilCheck_ip rfl rfl | exact AStepD.nilCheck_func rfl rfl) ?_ | refine AL.gskip rfl rfl rfl rfl rfl rfl rfl ?_ | refine AL.gnone rfl rfl rfl rfl rfl ?_ | refine AL.gmay rfl rfl rfl rfl rfl rfl (fun hb => by (try (apply AStepD.uncond 10 rfl (by first | exact guard_true hb | (rw [hb]; done) | (rw [hb]; rfl) | simp [hb]))); (first | exact AStepD.nilCheck_ptr rfl rfl | exact AStepD.nilCheck_ip rfl rfl | exact AStepD.nilCheck_func rfl rfl)) ?_
  first | refine AL.gstep rfl rfl rfl rfl rfl rfl rfl (by first | exact AStepD.fieldAddr' tok rfl rfl rfl rfl rfl rfl rfl (by first | exact Nat.zero_add 0 | exact (show _ + 0 = _ from (by simp only [Nat.reduceAdd]; exact rfl)) | exact (show _ + 0 = _ + 0 from rfl) | exact rfl) | exact AStepD.fieldAddr_ip' tok rfl rfl rfl rfl rfl rfl rfl (by (conv => lhs; whnf); all_goals exact rfl)) ?_ | refine AL.gskip rfl rfl rfl rfl rfl rfl rfl ?_ | refine AL.gnone rfl rfl rfl rfl rfl ?_ | refine AL.gmay rfl rfl rfl rfl rfl rfl (fun hb => by (try (apply AStepD.uncond 11 rfl (by first | exact guard_true hb | (rw [hb]; done) | (rw [hb]; rfl) | simp [hb]))); (first | exact AStepD.fieldAddr' tok rfl rfl rfl rfl rfl rfl rfl (by first | exact Nat.zero_add 0 | exact (show _ + 0 = _ from (by simp only [Nat.reduceAdd]; exact rfl)) | exact (show _ + 0 = _ + 0 from rfl) | exact rfl) | exact AStepD.fieldAddr_ip' tok rfl rfl rfl rfl rfl rfl rfl (by (conv => lhs; whnf); all_goals exact rfl))) ?_
  first | refine AL.gstep rfl rfl rfl rfl rfl rfl rfl (by first | exact AStepD.load_one tok rfl rfl rfl rfl (by first | with_reducible assumption | (simp (disch := (first | omega | (refine id ?_; simp only [za, zb, zc]; done) | (simp only [za, zb, zc]; omega))) only [z1, z2, z3, z4, z5, z6, z7, z8, ne_eq, *]; done) | (simp (disch := (first | omega | (refine id ?_; simp only [za, zb, zc]; done) | (simp only [za, zb, zc]; omega))) only [z1, z2, z3, z4, z5, z6, z7, z8, ne_eq, *]; exact rfl)) rfl (by first | with_reducible assumption | exact rfl) | exact AStepD.load_one_ip tok rfl rfl rfl rfl rfl (by first | with_reducible assumption | exact rfl)) ?_ | refine AL.gskip rfl rfl rfl rfl rfl rfl rfl ?_ | refine AL.gnone rfl rfl rfl rfl rfl ?_ | refine AL.gmay rfl rfl rfl rfl rfl rfl (fun hb => by (try (apply AStepD.uncond 12 rfl (by first | exact guard_true hb | (rw [hb]; done) | (rw [hb]; rfl) | simp [hb]))); (first | exact AStepD.load_one tok rfl rfl rfl rfl (by first | with_reducible assumption | (simp (disch := (first | omega | (refine id ?_; simp only [za, zb, zc]; done) | (simp only [za, zb, zc]; omega))) only [z1, z2, z3, z4, z5, z6, z7, z8, ne_eq, *]; done) | (simp (disch := (first | omega | (refine id ?_; simp only [za, zb, zc]; done) | (simp only [za, zb, zc]; omega))) only [z1, z2, z3, z4, z5, z6, z7, z8, ne_eq, *]; exact rfl)) rfl (by first | with_reducible assumption | exact rfl) | exact AStepD.load_one_ip tok rfl rfl rfl rfl rfl (by first | with_reducible assumption | exact rfl))) ?_
  first | refine AL.gstep rfl rfl rfl rfl rfl rfl rfl (by first | exact AStepD.len_str tok rfl rfl rfl rfl | exact AStepD.len_sl tok rfl (by (conv => lhs; whnf); all_goals exact rfl) (by first | exact IsSl.vec | exact IsSl.sl | exact IsSl.slc | exact IsSl.nil | with_reducible assumption) rfl rfl | exact AStepD.len_arr tok rfl rfl rfl) ?_ | refine AL.gskip rfl rfl rfl rfl rfl rfl rfl ?_ | refine AL.gnone rfl rfl rfl rfl rfl ?_ | refine AL.gmay rfl rfl rfl rfl rfl rfl (fun hb => by (try (apply AStepD.uncond 13 rfl (by first | exact guard_true hb | (rw [hb]; done) | (rw [hb]; rfl) | simp [hb]))); (first | exact AStepD.len_str tok rfl rfl rfl rfl | exact AStepD.len_sl tok rfl (by (conv => lhs; whnf); all_goals exact rfl) (by first | exact IsSl.vec | exact IsSl.sl | exact IsSl.slc | exact IsSl.nil | with_reducible assumption) rfl rfl | exact AStepD.len_arr tok rfl rfl rfl)) ?_
  first | refine AL.gstep rfl rfl rfl rfl rfl rfl rfl (by first | exact AStepD.eql rfl rfl rfl | exact AStepD.str_eql rfl rfl rfl | exact (AStepD.ptr_nil tok (.inl ⟨_, _, rfl⟩) rfl rfl rfl).1 rfl | exact (AStepD.nil_nil tok rfl rfl rfl rfl).1 rfl | exact (AStepD.bool_eq tok rfl rfl rfl rfl).1 rfl | exact (AStepD.iface_nil tok rfl rfl rfl rfl).1 rfl | exact (AStepD.nilIface_nil tok rfl rfl rfl rfl).1 rfl) ?_ | refine AL.gskip rfl rfl rfl rfl rfl rfl rfl ?_ | refine AL.gnone rfl rfl rfl rfl rfl ?_ | refine AL.gmay rfl rfl rfl rfl rfl rfl (fun hb => by (try (apply AStepD.uncond 14 rfl (by first | exact guard_true hb | (rw [hb]; done) | (rw [hb]; rfl) | simp [hb]))); (first | exact AStepD.eql rfl rfl rfl | exact AStepD.str_eql rfl rfl rfl | exact (AStepD.ptr_nil tok (.inl ⟨_, _, rfl⟩) rfl rfl rfl).1 rfl | exact (AStepD.nil_nil tok rfl rfl rfl rfl).1 rfl | exact (AStepD.bool_eq tok rfl rfl rfl rfl).1 rfl | exact (AStepD.iface_nil tok rfl rfl rfl rfl).1 rfl | exact (AStepD.nilIface_nil tok rfl rfl rfl rfl).1 rfl)) ?_
  refine AL.step rfl rfl rfl (by first | exact AStepD.pick_true' rfl rfl (by (conv => lhs; whnf); all_goals exact rfl) | exact AStepD.pick_false' rfl rfl (by (conv => lhs; whnf); all_goals exact rfl) | exact AStepD.and rfl _ _ _ rfl rfl (by intro h; first | exact guard_true h | (rw [h]; done) | (rw [h]; rfl) | (simp [h]; done) | (simp_all; done)) rfl | exact AStepD.and' rfl _ _ rfl rfl rfl | exact AStepD.or rfl _ _ _ rfl rfl rfl (by intro h; first | exact guard_true h | (rw [h]; done) | (rw [h]; rfl) | (simp [h]; done) | (simp_all; done)) | exact AStepD.or' rfl _ _ rfl rfl rfl) ?_
  refine AL.nil_then (hK _ _ ?_); clear hK K
  refine AW.cond_true rfl (by simp [hb]) ?_
  refine AW.seq_region (fun K hK => ?_)
  refine AL.step rfl rfl rfl (by exact AStepD.assign' rfl (by (conv => lhs; whnf); all_goals exact rfl)) ?_
  refine AL.nil_then (hK _ _ ?_); clear hK K
  refine AW.ret (RetQ.mk (.inr rfl) (retA_tmp rfl (by (conv => lhs; whnf); all_goals exact rfl) retA_nil) ⟨rfl, rfl⟩)

theorem Only.get {H H' : AHeap} {n L L' : Nat} (ho : Only H H' n L L') {k : Nat} {o : AObj} (h : H.get k = some o) (hk : k < H.next) (hn : k ≠ n) (hL : k ≠ L) : H'.get k = some o ∧ k ≠ L' :=
  ⟨(ho.2.1 k hk hn hL).trans h, by rcases ho.2.2 with h | h <;> omega⟩

theorem full_law (m : Msg) (a b : Int) : ACalls Try.prog 4 [.agg m.cells, .v (.int .i64 a), .v (.int .i64 b)] AHeap.empty (fun r _ => r = .v (.bool true)) := by
  have hone := m.one
  refine ACalls.of_body tok Try.func4 rfl Try.ntmps4 (Nat.le_of_ble_eq_true rfl) ?_
  refine AW.seq_region (fun K hK => ?_)
  refine AL.step rfl rfl rfl (by exact AStepD.box rfl (by (conv => lhs; whnf); all_goals exact rfl) (by first | with_reducible assumption | exact ones_nil | (simp only [List.forall_mem_cons, List.not_mem_nil, false_implies, implies_true, and_true, one_v, one_ptr, one_ip, one_sl, one_slc, one_vec, one_map, one_func, one_iface, Value.oneCell', *]; done) | (simp [AV.one, Value.oneCell', *]; done))) ?_
  refine AL.step rfl rfl rfl (by exact AStepD.assign' rfl (by (conv => lhs; whnf); all_goals exact rfl)) ?_
  refine AL.nil_then (hK _ _ ?_); clear hK K
  refine AW.seq_k (fun K hK => ?_)
  refine AW.seq_region (fun K hK => ?_)
  refine AL.step rfl rfl rfl (by exact AStepD.callf rfl en6 rfl (anchor_calls _)) ?_
  refine AL.step rfl rfl rfl (by first | exact AStepD.not rfl rfl | exact AStepD.neg rfl rfl (by first | exact IntWalk.i64_in _ (by omega) | exact rfl)) ?_
  refine AL.nil_then (hK _ _ ?_); clear hK K
  refine AW.cond_false rfl rfl (AW.skip (hK _ _ ?_)); clear hK K
  refine AW.seq_k (fun K hK => ?_)
  refine AW.seq_region (fun K hK => ?_)
  refine AL.step rfl rfl rfl (by first | exact AStepD.fieldAddr' tok rfl rfl rfl rfl rfl rfl rfl (by first | exact Nat.zero_add 2 | exact (show _ + 2 = _ from (by simp only [Nat.reduceAdd]; exact rfl)) | exact (show _ + 2 = _ + 2 from rfl) | exact rfl) | exact AStepD.fieldAddr_ip' tok rfl rfl rfl rfl rfl rfl rfl (by (conv => lhs; whnf); all_goals exact rfl)) ?_
  refine AL.step rfl rfl rfl (by first | exact AStepD.load_one tok rfl rfl rfl rfl (by first | with_reducible assumption | (simp (disch := (first | omega | (refine id ?_; simp only [za, zb, zc]; done) | (simp only [za, zb, zc]; omega))) only [z1, z2, z3, z4, z5, z6, z7, z8, ne_eq, *]; done) | (simp (disch := (first | omega | (refine id ?_; simp only [za, zb, zc]; done) | (simp only [za, zb, zc]; omega))) only [z1, z2, z3, z4, z5, z6, z7, z8, ne_eq, *]; exact rfl)) rfl (by first | with_reducible assumption | exact rfl) | exact AStepD.load_one_ip tok rfl rfl rfl rfl rfl (by first | with_reducible assumption | exact rfl)) ?_
  refine AL.step rfl rfl rfl (by first | exact AStepD.len_str tok rfl rfl rfl rfl | exact AStepD.len_sl tok rfl (by (conv => lhs; whnf); all_goals exact rfl) (by first | exact IsSl.vec | exact IsSl.sl | exact IsSl.slc | exact IsSl.nil | with_reducible assumption) rfl rfl | exact AStepD.len_arr tok rfl rfl rfl) ?_
  refine AL.step rfl rfl rfl (by exact AStepD.gtr rfl rfl rfl) ?_
  refine AL.step rfl rfl rfl (by exact AStepD.move' rfl (by (conv => lhs; whnf); all_goals exact rfl)) ?_
  first | refine AL.gstep rfl rfl rfl rfl rfl rfl rfl (by exact AStepD.move' rfl (by (conv => lhs; whnf); all_goals exact rfl)) ?_ | refine AL.gskip rfl rfl rfl rfl rfl rfl rfl ?_ | refine AL.gnone rfl rfl rfl rfl rfl ?_ | refine AL.gmay rfl rfl rfl rfl rfl rfl (fun hb => by (try (apply AStepD.uncond 1 rfl (by first | exact guard_true hb | (rw [hb]; done) | (rw [hb]; rfl) | simp [hb]))); (exact AStepD.move' rfl (by (conv => lhs; whnf); all_goals exact rfl))) ?_
  first | refine AL.gstep rfl rfl rfl rfl rfl rfl rfl (by exact AStepD.lss rfl rfl rfl) ?_ | refine AL.gskip rfl rfl rfl rfl rfl rfl rfl ?_ | refine AL.gnone rfl rfl rfl rfl rfl ?_ | refine AL.gmay rfl rfl rfl rfl rfl rfl (fun hb => by (try (apply AStepD.uncond 17 rfl (by first | exact guard_true hb | (rw [hb]; done) | (rw [hb]; rfl) | simp [hb]))); (exact AStepD.lss rfl rfl rfl)) ?_
  refine AL.step rfl rfl rfl (by first | exact AStepD.pick_true' rfl rfl (by (conv => lhs; whnf); all_goals exact rfl) | exact AStepD.pick_false' rfl rfl (by (conv => lhs; whnf); all_goals exact rfl) | exact AStepD.and rfl _ _ _ rfl rfl (by intro h; first | exact guard_true h | (rw [h]; done) | (rw [h]; rfl) | (simp [h]; done) | (simp_all; done)) rfl | exact AStepD.and' rfl _ _ rfl rfl rfl | exact AStepD.or rfl _ _ _ rfl rfl rfl (by intro h; first | exact guard_true h | (rw [h]; done) | (rw [h]; rfl) | (simp [h]; done) | (simp_all; done)) | exact AStepD.or' rfl _ _ rfl rfl rfl) ?_
  refine AL.step rfl rfl rfl (by exact AStepD.move' rfl (by (conv => lhs; whnf); all_goals exact rfl)) ?_
  first | refine AL.gstep rfl rfl rfl rfl rfl rfl rfl (by exact AStepD.move' rfl (by (conv => lhs; whnf); all_goals exact rfl)) ?_ | refine AL.gskip rfl rfl rfl rfl rfl rfl rfl ?_ | refine AL.gnone rfl rfl rfl rfl rfl ?_ | refine AL.gmay rfl rfl rfl rfl rfl rfl (fun hb => by (try (apply AStepD.uncond 1 rfl (by first | exact guard_true hb | (rw [hb]; done) | (rw [hb]; rfl) | simp [hb]))); (exact AStepD.move' rfl (by (conv => lhs; whnf); all_goals exact rfl))) ?_
  first | refine AL.gstep rfl rfl rfl rfl rfl rfl rfl (by exact AStepD.gtr rfl rfl rfl) ?_ | refine AL.gskip rfl rfl rfl rfl rfl rfl rfl ?_ | refine AL.gnone rfl rfl rfl rfl rfl ?_ | refine AL.gmay rfl rfl rfl rfl rfl rfl (fun hb => by (try (apply AStepD.uncond 21 rfl (by first | exact guard_true hb | (rw [hb]; done) | (rw [hb]; rfl) | simp [hb]))); (exact AStepD.gtr rfl rfl rfl)) ?_
  refine AL.step rfl rfl rfl (by first | exact AStepD.pick_true' rfl rfl (by (conv => lhs; whnf); all_goals exact rfl) | exact AStepD.pick_false' rfl rfl (by (conv => lhs; whnf); all_goals exact rfl) | exact AStepD.and rfl _ _ _ rfl rfl (by intro h; first | exact guard_true h | (rw [h]; done) | (rw [h]; rfl) | (simp [h]; done) | (simp_all; done)) rfl | exact AStepD.and' rfl _ _ rfl rfl rfl | exact AStepD.or rfl _ _ _ rfl rfl rfl (by intro h; first | exact guard_true h | (rw [h]; done) | (rw [h]; rfl) | (simp [h]; done) | (simp_all; done)) | exact AStepD.or' rfl _ _ rfl rfl rfl) ?_
  refine AL.step rfl rfl rfl (by exact AStepD.move' rfl (by (conv => lhs; whnf); all_goals exact rfl)) ?_
  first | refine AL.gstep rfl rfl rfl rfl rfl rfl rfl (by exact AStepD.move' rfl (by (conv => lhs; whnf); all_goals exact rfl)) ?_ | refine AL.gskip rfl rfl rfl rfl rfl rfl rfl ?_ | refine AL.gnone rfl rfl rfl rfl rfl ?_ | refine AL.gmay rfl rfl rfl rfl rfl rfl (fun hb => by (try (apply AStepD.uncond 2 rfl (by first | exact guard_true hb | (rw [hb]; done) | (rw [hb]; rfl) | simp [hb]))); (exact AStepD.move' rfl (by (conv => lhs; whnf); all_goals exact rfl))) ?_
  first | refine AL.gstep rfl rfl rfl rfl rfl rfl rfl (by exact AStepD.lss rfl rfl rfl) ?_ | refine AL.gskip rfl rfl rfl rfl rfl rfl rfl ?_ | refine AL.gnone rfl rfl rfl rfl rfl ?_ | refine AL.gmay rfl rfl rfl rfl rfl rfl (fun hb => by (try (apply AStepD.uncond 25 rfl (by first | exact guard_true hb | (rw [hb]; done) | (rw [hb]; rfl) | simp [hb]))); (exact AStepD.lss rfl rfl rfl)) ?_
  refine AL.step rfl rfl rfl (by first | exact AStepD.pick_true' rfl rfl (by (conv => lhs; whnf); all_goals exact rfl) | exact AStepD.pick_false' rfl rfl (by (conv => lhs; whnf); all_goals exact rfl) | exact AStepD.and rfl _ _ _ rfl rfl (by intro h; first | exact guard_true h | (rw [h]; done) | (rw [h]; rfl) | (simp [h]; done) | (simp_all; done)) rfl | exact AStepD.and' rfl _ _ rfl rfl rfl | exact AStepD.or rfl _ _ _ rfl rfl rfl (by intro h; first | exact guard_true h | (rw [h]; done) | (rw [h]; rfl) | (simp [h]; done) | (simp_all; done)) | exact AStepD.or' rfl _ _ rfl rfl rfl) ?_
  refine AL.step rfl rfl rfl (by exact AStepD.move' rfl (by (conv => lhs; whnf); all_goals exact rfl)) ?_
  first | refine AL.gstep rfl rfl rfl rfl rfl rfl rfl (by exact AStepD.move' rfl (by (conv => lhs; whnf); all_goals exact rfl)) ?_ | refine AL.gskip rfl rfl rfl rfl rfl rfl rfl ?_ | refine AL.gnone rfl rfl rfl rfl rfl ?_ | refine AL.gmay rfl rfl rfl rfl rfl rfl (fun hb => by (try (apply AStepD.uncond 2 rfl (by first | exact guard_true hb | (rw [hb]; done) | (rw [hb]; rfl) | simp [hb]))); (exact AStepD.move' rfl (by (conv => lhs; whnf); all_goals exact rfl))) ?_
  first | refine AL.gstep rfl rfl rfl rfl rfl rfl rfl (by exact AStepD.geq rfl rfl rfl) ?_ | refine AL.gskip rfl rfl rfl rfl rfl rfl rfl ?_ | refine AL.gnone rfl rfl rfl rfl rfl ?_ | refine AL.gmay rfl rfl rfl rfl rfl rfl (fun hb => by (try (apply AStepD.uncond 29 rfl (by first | exact guard_true hb | (rw [hb]; done) | (rw [hb]; rfl) | simp [hb]))); (exact AStepD.geq rfl rfl rfl)) ?_
  refine AL.step rfl rfl rfl (by first | exact AStepD.pick_true' rfl rfl (by (conv => lhs; whnf); all_goals exact rfl) | exact AStepD.pick_false' rfl rfl (by (conv => lhs; whnf); all_goals exact rfl) | exact AStepD.and rfl _ _ _ rfl rfl (by intro h; first | exact guard_true h | (rw [h]; done) | (rw [h]; rfl) | (simp [h]; done) | (simp_all; done)) rfl | exact AStepD.and' rfl _ _ rfl rfl rfl | exact AStepD.or rfl _ _ _ rfl rfl rfl (by intro h; first | exact guard_true h | (rw [h]; done) | (rw [h]; rfl) | (simp [h]; done) | (simp_all; done)) | exact AStepD.or' rfl _ _ rfl rfl rfl) ?_
  refine AL.nil_then (hK _ _ ?_); clear hK K
  refine AW.cond _ rfl (fun hc => ?_) (fun hc => ?_)
  · refine AW.seq_region (fun K hK => ?_)
    refine AL.step rfl rfl rfl (by exact AStepD.assign' rfl (by (conv => lhs; whnf); all_goals exact rfl)) ?_
    refine AL.nil_then (hK _ _ ?_); clear hK K
    exact AW.ret (RetQ.mk (.inr rfl) (retA_tmp rfl (by (conv => lhs; whnf); all_goals exact rfl) retA_nil) rfl)
  · refine AW.skip (hK _ _ ?_); clear hK K
    have hab : m.d.length ≤ 20 ∧ 0 ≤ a ∧ a ≤ 50 ∧ 0 ≤ b ∧ b < 4096 := by
      simp only [Bool.or_eq_false_iff, decide_eq_false_iff_not] at hc
      omega
    clear hc
    obtain ⟨hd, ha0, ha1, hb0, hb1⟩ := hab
    obtain ⟨a, rfl⟩ := Int.eq_ofNat_of_zero_le ha0
    obtain ⟨b, rfl⟩ := Int.eq_ofNat_of_zero_le hb0
    have ha : a ≤ 50 := by omega
    have hb : b < 4096 := by omega
    clear ha0 ha1 hb0 hb1
    refine AW.seq_region (fun K hK => ?_)
    refine AL.call rfl rfl rfl (AStep.callf' rfl en7 rfl (new_calls _)) ?_; rintro _ H1 ⟨rfl, hN1, hk1, hx1⟩
    refine AL.step rfl rfl rfl (by exact AStepD.assign' rfl (by (conv => lhs; whnf); all_goals exact rfl)) ?_
    refine AL.nil_then (hK _ _ ?_); clear hK K
    have hbox : H1.get AHeap.empty.next = some (.cells 29 m.cells) := hk1.get (AHeap.get_new_same _ _) (by (try simp only [za, zb, zc, ne_eq]); omega)
    have hbn : AHeap.empty.next ≠ (AHeap.empty.new (.cells 29 m.cells)).next := by show (0 : Nat) ≠ 1; decide
    change NetAt H1 (AHeap.empty.new (.cells 29 m.cells)).next (AHeap.empty.new (.cells 29 m.cells)).next [] 0 at hN1
    refine AW.sub (T' := [(7, .ptr (AHeap.empty.new (.cells 29 m.cells)).next 0), (3, .ptr AHeap.empty.next 0), (1, .v (.int .i64 a)), (2, .v (.int .i64 b))]) (by repeat' (first | exact SubT.nil _ | refine SubT.cons_eq (by (conv => lhs; whnf); all_goals first | exact rfl | (simp; done) | (simp; omega)) ?_)) ?_
    clear hk1 hx1
    generalize (AHeap.empty.new (.cells 29 m.cells)).next = n at hN1 hbn ⊢
    generalize AHeap.empty.next = b0 at hbox hbn ⊢
    refine AW.seq_k (fun K hK => ?_)
    refine AW.seq_region (fun K hK => ?_)
    refine AL.step rfl rfl rfl (by exact AStepD.move' rfl (by (conv => lhs; whnf); all_goals exact rfl)) ?_
    refine AL.step rfl rfl rfl (by first | exact AStepD.eql rfl rfl rfl | exact AStepD.str_eql rfl rfl rfl | exact (AStepD.ptr_nil tok (.inl ⟨_, _, rfl⟩) rfl rfl rfl).1 rfl | exact (AStepD.nil_nil tok rfl rfl rfl rfl).1 rfl | exact (AStepD.bool_eq tok rfl rfl rfl rfl).1 rfl | exact (AStepD.iface_nil tok rfl rfl rfl rfl).1 rfl | exact (AStepD.nilIface_nil tok rfl rfl rfl rfl).1 rfl) ?_
    refine AL.nil_then (hK _ _ ?_); clear hK K
    refine AW.cond_false rfl rfl (AW.skip (hK _ _ ?_)); clear hK K
    refine AW.seq_k (fun K hK => ?_)
    refine AW.seq_region (fun K hK => ?_)
    refine AL.step rfl rfl rfl (by exact AStepD.move' rfl (by (conv => lhs; whnf); all_goals exact rfl)) ?_
    refine AL.nil_then (hK _ _ ?_); clear hK K
    refine AW.block ?_
    refine AW.loop_at (ι := Nat × Nat) (fun x => [(35, .v (.int .i64 x.1)), (7, .ptr n 0), (3, .ptr b0 0), (1, .v (.int .i64 a)), (2, .v (.int .i64 b))]) (fun x H' => x.1 ≤ 4096 ∧ H'.get b0 = some (.cells 29 m.cells) ∧ b0 ≠ x.2 ∧ NetAt H' n x.2 (List.replicate x.1 m) 0) (fun x => 4096 - x.1) (0, n) (by repeat' (first | exact SubT.nil _ | refine SubT.cons_eq (by (conv => lhs; whnf); all_goals first | exact rfl | (simp; done) | (simp; omega)) ?_)) ⟨Nat.zero_le _, hbox, hbn, hN1⟩ ?_
    · rintro ⟨i, L⟩ H2 ⟨hi, hbx, hbL, hN2⟩
      dsimp only at hi hbx hbL hN2 ⊢
      refine AW.seq_region (fun K hK => ?_)
      refine AL.step rfl rfl rfl (by exact AStepD.lss rfl rfl rfl) ?_
      refine AL.nil_then (hK _ _ ?_); clear hK K
      refine AW.seq_k (fun K1 hK1 => ?_)
      refine AW.cond _ rfl (fun hc => ?_) (fun hc => ?_)
      · refine AW.skip (hK1 _ _ ?_); clear hK1 K1
        have hil : i < 4096 := by have := of_decide_eq_true hc; omega
        refine AW.lts fun hlt => ?_
        have hb2 := hlt _ _ hbx
        refine AW.seq_k (fun K1 hK1 => ?_)
        refine AW.block ?_
        refine AW.seq_region (fun K hK => ?_)
        refine AL.step rfl rfl rfl (by exact AStepD.move' rfl (by (conv => lhs; whnf); all_goals exact rfl)) ?_
        refine AL.step rfl rfl rfl (by first | exact AStepD.load_agg tok rfl rfl rfl (by first | with_reducible assumption | (simp (disch := (first | omega | (refine id ?_; simp only [za, zb, zc]; done) | (simp only [za, zb, zc]; omega))) only [z1, z2, z3, z4, z5, z6, z7, z8, ne_eq, *]; done) | (simp (disch := (first | omega | (refine id ?_; simp only [za, zb, zc]; done) | (simp only [za, zb, zc]; omega))) only [z1, z2, z3, z4, z5, z6, z7, z8, ne_eq, *]; exact rfl)) rfl (show _ = 3 from rfl) (by first | exact Nat.le_of_ble_eq_true rfl | (simp; done) | (simp; omega) | (simp_all; omega)) (by first | with_reducible assumption | (simp only [List.take_succ_cons, List.take_zero, List.drop_succ_cons, List.drop_zero]; exact rfl) | exact rfl) | exact AStepD.load_agg_ip tok rfl rfl rfl rfl (show _ = 3 from rfl) (by first | exact Nat.le_of_ble_eq_true rfl | (simp; done) | (simp; omega) | (simp_all; omega)) (by first | with_reducible assumption | (simp only [List.take_succ_cons, List.take_zero, List.drop_succ_cons, List.drop_zero]; exact rfl) | exact rfl)) ?_
        refine AL.call rfl rfl rfl (AStep.callf' rfl en8 rfl (put_calls _ n L _ 0 m _ hN2 Src.vec (by simpa using hil) (by omega))) ?_; rintro _ H3 ⟨rfl, L3, hN3, hO3⟩
        refine AL.step rfl rfl rfl (by first | exact AStepD.neq rfl rfl rfl | exact AStepD.str_neq rfl rfl rfl | exact (AStepD.ptr_nil tok (.inl ⟨_, _, rfl⟩) rfl rfl rfl).2 rfl | exact (AStepD.nil_nil tok rfl rfl rfl rfl).2 rfl | exact (AStepD.bool_eq tok rfl rfl rfl rfl).2 rfl | exact (AStepD.iface_nil tok rfl rfl rfl rfl).2 rfl | exact (AStepD.nilIface_nil tok rfl rfl rfl rfl).2 rfl) ?_
        refine AL.nil_then (hK _ _ ?_); clear hK K
        refine AW.cond_false rfl rfl (AW.skip ?_)
        refine hK1 _ _ ?_; clear hK1 K1
        refine AW.region ?_
        refine AL.step rfl rfl rfl (by first | exact AStepD.add rfl rfl rfl (by first | exact IntWalk.i64_in _ (by omega) | exact rfl) | exact AStepD.str_add rfl rfl rfl (by omega)) ?_
        refine AL.step rfl rfl rfl (by exact AStepD.move' rfl (by (conv => lhs; whnf); all_goals exact rfl)) ?_
        refine AL.nil ?_
        obtain ⟨g1, g2⟩ := hO3.get hbx hb2 hbn hbL
        refine ⟨(i + 1, L3), ?_, (by repeat' (first | exact SubT.nil _ | refine SubT.cons_eq (by (conv => lhs; whnf); all_goals first | exact rfl | (simp; done) | (simp; omega)) ?_)), hil, g1, g2, ?_⟩
        · show 4096 - (i + 1) < 4096 - i
          omega
        · show NetAt H3 n L3 (List.replicate (i + 1) m) 0
          rw [List.replicate_succ']
          exact hN3
      · refine AW.exit ?_
        refine hK _ _ ?_; clear hK1 K1 hK K
        obtain ⟨ms, hms⟩ : ∃ ms, ms = List.replicate i m := ⟨_, rfl⟩
        have hml : ms.length = 4096 := by have := of_decide_eq_false hc; rw [hms, List.length_replicate]; omega
        rw [← hms] at hN2
        refine AW.seq_k (fun K hK => ?_)
        refine AW.seq_region (fun K hK => ?_)
        refine AL.step rfl rfl rfl (by exact AStepD.move' rfl (by (conv => lhs; whnf); all_goals exact rfl)) ?_
        refine AL.step rfl rfl rfl (by exact AStepD.move' rfl (by (conv => lhs; whnf); all_goals exact rfl)) ?_
        refine AL.nil_then (hK _ _ ?_); clear hK K
        refine AW.block ?_
        refine AW.loop_at (ι := Nat) (fun x => [(43, .v (.int .i64 x)), (42, .v (.int .i64 a)), (7, .ptr n 0), (3, .ptr b0 0), (1, .v (.int .i64 a)), (2, .v (.int .i64 b))]) (fun x H' => x ≤ a ∧ H'.get b0 = some (.cells 29 m.cells) ∧ NetAt H' n L ms x) (fun x => a - x) 0 (by repeat' (first | exact SubT.nil _ | refine SubT.cons_eq (by (conv => lhs; whnf); all_goals first | exact rfl | (simp; done) | (simp; omega)) ?_)) ⟨Nat.zero_le _, hbx, hN2⟩ ?_
        rintro j H3 ⟨hj, hbx3, hN3⟩
        refine AW.seq_region (fun K hK => ?_)
        refine AL.step rfl rfl rfl (by exact AStepD.lss rfl rfl rfl) ?_
        refine AL.nil_then (hK _ _ ?_); clear hK K
        refine AW.seq_k (fun K1 hK1 => ?_)
        refine AW.cond _ rfl (fun hc3 => ?_) (fun hc3 => ?_)
        · refine AW.skip (hK1 _ _ ?_); clear hK1 K1
          have hjl : j < a := by have := of_decide_eq_true hc3; omega
          refine AW.lts fun hlt => ?_
          have hb2 := hlt _ _ hbx3
          refine AW.seq_k (fun K1 hK1 => ?_)
          refine AW.block ?_
          refine AW.seq_region (fun K hK => ?_)
          refine AL.step rfl rfl rfl (by exact AStepD.move' rfl (by (conv => lhs; whnf); all_goals exact rfl)) ?_
          refine AL.step rfl rfl rfl (by first | exact AStepD.load_agg tok rfl rfl rfl (by first | with_reducible assumption | (simp (disch := (first | omega | (refine id ?_; simp only [za, zb, zc]; done) | (simp only [za, zb, zc]; omega))) only [z1, z2, z3, z4, z5, z6, z7, z8, ne_eq, *]; done) | (simp (disch := (first | omega | (refine id ?_; simp only [za, zb, zc]; done) | (simp only [za, zb, zc]; omega))) only [z1, z2, z3, z4, z5, z6, z7, z8, ne_eq, *]; exact rfl)) rfl (show _ = 3 from rfl) (by first | exact Nat.le_of_ble_eq_true rfl | (simp; done) | (simp; omega) | (simp_all; omega)) (by first | with_reducible assumption | (simp only [List.take_succ_cons, List.take_zero, List.drop_succ_cons, List.drop_zero]; exact rfl) | exact rfl) | exact AStepD.load_agg_ip tok rfl rfl rfl rfl (show _ = 3 from rfl) (by first | exact Nat.le_of_ble_eq_true rfl | (simp; done) | (simp; omega) | (simp_all; omega)) (by first | with_reducible assumption | (simp only [List.take_succ_cons, List.take_zero, List.drop_succ_cons, List.drop_zero]; exact rfl) | exact rfl)) ?_
          refine AL.call rfl rfl rfl (AStep.callf' rfl en8 rfl (put_full _ n L ms j m _ hN3 Src.vec hml (by omega))) ?_; rintro _ H4 ⟨rfl, hN4, hO4⟩
          refine AL.step rfl rfl rfl (by first | exact AStepD.neq rfl rfl rfl | exact AStepD.str_neq rfl rfl rfl | exact (AStepD.ptr_nil tok (.inl ⟨_, _, rfl⟩) rfl rfl rfl).2 rfl | exact (AStepD.nil_nil tok rfl rfl rfl rfl).2 rfl | exact (AStepD.bool_eq tok rfl rfl rfl rfl).2 rfl | exact (AStepD.iface_nil tok rfl rfl rfl rfl).2 rfl | exact (AStepD.nilIface_nil tok rfl rfl rfl rfl).2 rfl) ?_
          refine AL.step rfl rfl rfl (by exact AStepD.move' rfl (by (conv => lhs; whnf); all_goals exact rfl)) ?_
          first | refine AL.gstep rfl rfl rfl rfl rfl rfl rfl (by exact AStepD.move' rfl (by (conv => lhs; whnf); all_goals exact rfl)) ?_ | refine AL.gskip rfl rfl rfl rfl rfl rfl rfl ?_ | refine AL.gnone rfl rfl rfl rfl rfl ?_ | refine AL.gmay rfl rfl rfl rfl rfl rfl (fun hb => by (try (apply AStepD.uncond 7 rfl (by first | exact guard_true hb | (rw [hb]; done) | (rw [hb]; rfl) | simp [hb]))); (exact AStepD.move' rfl (by (conv => lhs; whnf); all_goals exact rfl))) ?_
          first | refine AL.gstep rfl rfl rfl rfl rfl rfl rfl (by exact AStepD.move' rfl (by (conv => lhs; whnf); all_goals exact rfl)) ?_ | refine AL.gskip rfl rfl rfl rfl rfl rfl rfl ?_ | refine AL.gnone rfl rfl rfl rfl rfl ?_ | refine AL.gmay rfl rfl rfl rfl rfl rfl (fun hb => by (try (apply AStepD.uncond 2 rfl (by first | exact guard_true hb | (rw [hb]; done) | (rw [hb]; rfl) | simp [hb]))); (exact AStepD.move' rfl (by (conv => lhs; whnf); all_goals exact rfl))) ?_
          first | refine AL.gstep rfl rfl rfl rfl rfl rfl rfl (by exact AStepD.callf rfl en13 rfl (double_full _ n L ms _ b hN4 (by omega) hml)) ?_ | refine AL.gskip rfl rfl rfl rfl rfl rfl rfl ?_ | refine AL.gnone rfl rfl rfl rfl rfl ?_ | refine AL.gmay rfl rfl rfl rfl rfl rfl (fun hb => by (try (apply AStepD.uncond 50 rfl (by first | exact guard_true hb | (rw [hb]; done) | (rw [hb]; rfl) | simp [hb]))); (try (apply AStepD.uncond 51 rfl (by first | exact guard_true hb | (rw [hb]; done) | (rw [hb]; rfl) | simp [hb]))); (exact AStepD.callf rfl en13 rfl (double_full _ n L ms _ b hN4 (by omega) hml))) ?_
          refine AL.step rfl rfl rfl (by first | exact AStepD.pick_true' rfl rfl (by (conv => lhs; whnf); all_goals exact rfl) | exact AStepD.pick_false' rfl rfl (by (conv => lhs; whnf); all_goals exact rfl) | exact AStepD.and rfl _ _ _ rfl rfl (by intro h; first | exact guard_true h | (rw [h]; done) | (rw [h]; rfl) | (simp [h]; done) | (simp_all; done)) rfl | exact AStepD.and' rfl _ _ rfl rfl rfl | exact AStepD.or rfl _ _ _ rfl rfl rfl (by intro h; first | exact guard_true h | (rw [h]; done) | (rw [h]; rfl) | (simp [h]; done) | (simp_all; done)) | exact AStepD.or' rfl _ _ rfl rfl rfl) ?_
          refine AL.nil_then (hK _ _ ?_); clear hK K
          refine AW.cond_false rfl rfl (AW.skip ?_)
          refine hK1 _ _ ?_; clear hK1 K1
          refine AW.region ?_
          refine AL.step rfl rfl rfl (by first | exact AStepD.add rfl rfl rfl (by first | exact IntWalk.i64_in _ (by omega) | exact rfl) | exact AStepD.str_add rfl rfl rfl (by omega)) ?_
          refine AL.step rfl rfl rfl (by exact AStepD.move' rfl (by (conv => lhs; whnf); all_goals exact rfl)) ?_
          refine AL.nil ?_
          obtain ⟨g1, g2⟩ := hO4.get hbx3 hb2 hbn hbL
          refine ⟨j + 1, ?_, (by repeat' (first | exact SubT.nil _ | refine SubT.cons_eq (by (conv => lhs; whnf); all_goals first | exact rfl | (simp; done) | (simp; omega)) ?_)), hjl, g1, hN4⟩
          omega
        · refine AW.exit ?_
          refine hK _ _ ?_; clear hK1 K1 hK K
          obtain rfl : j = a := by have := of_decide_eq_false hc3
                                   omega
          refine AW.seq_k (fun K hK => ?_)
          refine AW.seq_region (fun K hK => ?_)
          refine AL.step rfl rfl rfl (by exact AStepD.move' rfl (by (conv => lhs; whnf); all_goals exact rfl)) ?_
          refine AL.step rfl rfl rfl (by exact AStepD.callf rfl en14 rfl (lost_calls _ n L ms _ hN3)) ?_
          refine AL.step rfl rfl rfl (by exact AStepD.move' rfl (by (conv => lhs; whnf); all_goals exact rfl)) ?_
          refine AL.step rfl rfl rfl (by first | exact AStepD.neq rfl rfl rfl | exact AStepD.str_neq rfl rfl rfl | exact (AStepD.ptr_nil tok (.inl ⟨_, _, rfl⟩) rfl rfl rfl).2 rfl | exact (AStepD.nil_nil tok rfl rfl rfl rfl).2 rfl | exact (AStepD.bool_eq tok rfl rfl rfl rfl).2 rfl | exact (AStepD.iface_nil tok rfl rfl rfl rfl).2 rfl | exact (AStepD.nilIface_nil tok rfl rfl rfl rfl).2 rfl) ?_
          refine AL.step rfl rfl rfl (by exact AStepD.move' rfl (by (conv => lhs; whnf); all_goals exact rfl)) ?_
          first | refine AL.gstep rfl rfl rfl rfl rfl rfl rfl (by exact AStepD.move' rfl (by (conv => lhs; whnf); all_goals exact rfl)) ?_ | refine AL.gskip rfl rfl rfl rfl rfl rfl rfl ?_ | refine AL.gnone rfl rfl rfl rfl rfl ?_ | refine AL.gmay rfl rfl rfl rfl rfl rfl (fun hb => by (try (apply AStepD.uncond 7 rfl (by first | exact guard_true hb | (rw [hb]; done) | (rw [hb]; rfl) | simp [hb]))); (exact AStepD.move' rfl (by (conv => lhs; whnf); all_goals exact rfl))) ?_
          first | refine AL.gstep rfl rfl rfl rfl rfl rfl rfl (by exact AStepD.callf rfl en11 rfl (len_calls _ n L ms _ hN3)) ?_ | refine AL.gskip rfl rfl rfl rfl rfl rfl rfl ?_ | refine AL.gnone rfl rfl rfl rfl rfl ?_ | refine AL.gmay rfl rfl rfl rfl rfl rfl (fun hb => by (try (apply AStepD.uncond 60 rfl (by first | exact guard_true hb | (rw [hb]; done) | (rw [hb]; rfl) | simp [hb]))); (exact AStepD.callf rfl en11 rfl (len_calls _ n L ms _ hN3))) ?_
          first | refine AL.gstep rfl rfl rfl rfl rfl rfl rfl (by first | exact AStepD.neq rfl rfl rfl | exact AStepD.str_neq rfl rfl rfl | exact (AStepD.ptr_nil tok (.inl ⟨_, _, rfl⟩) rfl rfl rfl).2 rfl | exact (AStepD.nil_nil tok rfl rfl rfl rfl).2 rfl | exact (AStepD.bool_eq tok rfl rfl rfl rfl).2 rfl | exact (AStepD.iface_nil tok rfl rfl rfl rfl).2 rfl | exact (AStepD.nilIface_nil tok rfl rfl rfl rfl).2 rfl) ?_ | refine AL.gskip rfl rfl rfl rfl rfl rfl rfl ?_ | refine AL.gnone rfl rfl rfl rfl rfl ?_ | refine AL.gmay rfl rfl rfl rfl rfl rfl (fun hb => by (try (apply AStepD.uncond 61 rfl (by first | exact guard_true hb | (rw [hb]; done) | (rw [hb]; rfl) | simp [hb]))); (first | exact AStepD.neq rfl rfl rfl | exact AStepD.str_neq rfl rfl rfl | exact (AStepD.ptr_nil tok (.inl ⟨_, _, rfl⟩) rfl rfl rfl).2 rfl | exact (AStepD.nil_nil tok rfl rfl rfl rfl).2 rfl | exact (AStepD.bool_eq tok rfl rfl rfl rfl).2 rfl | exact (AStepD.iface_nil tok rfl rfl rfl rfl).2 rfl | exact (AStepD.nilIface_nil tok rfl rfl rfl rfl).2 rfl)) ?_
          refine AL.step rfl rfl rfl (by first | exact AStepD.pick_true' rfl rfl (by (conv => lhs; whnf); all_goals exact rfl) | exact AStepD.pick_false' rfl rfl (by (conv => lhs; whnf); all_goals exact rfl) | exact AStepD.and rfl _ _ _ rfl rfl (by intro h; first | exact guard_true h | (rw [h]; done) | (rw [h]; rfl) | (simp [h]; done) | (simp_all; done)) rfl | exact AStepD.and' rfl _ _ rfl rfl rfl | exact AStepD.or rfl _ _ _ rfl rfl rfl (by intro h; first | exact guard_true h | (rw [h]; done) | (rw [h]; rfl) | (simp [h]; done) | (simp_all; done)) | exact AStepD.or' rfl _ _ rfl rfl rfl) ?_
          refine AL.nil_then (hK _ _ ?_); clear hK K
          refine AW.cond_false rfl (by simp [hml]) (AW.skip (hK _ _ ?_)); clear hK K
          have hall : ∀ x ∈ ms, x = m := by rw [hms]; exact fun x hx => List.eq_of_mem_replicate hx
          have hbl : b < ms.length := by omega
          have hmb : ms[b] = m := hall _ (List.getElem_mem hbl)
          obtain ⟨ns, hns⟩ : ∃ ns, ns = ms.take b ++ ms.drop (b + 1) := ⟨_, rfl⟩
          have hnl : ns.length = 4095 := by rw [hns, List.length_append, List.length_take, List.length_drop]; omega
          have hn0 : 0 < ns.length := by omega
          have hmem : ∀ x ∈ ns, x ∈ ms := by
            rw [hns]
            intro x h
            rcases List.mem_append.1 h with h | h
            · exact List.mem_of_mem_take h
            · exact List.mem_of_mem_drop h
          have hnm : ns[0] = m := hall _ (hmem _ (List.getElem_mem hn0))
          refine AW.lts fun hlt => ?_
          have hb2 := hlt _ _ hbx3
          refine AW.seq_region (fun K hK => ?_)
          refine AL.step rfl rfl rfl (by exact AStepD.move' rfl (by (conv => lhs; whnf); all_goals exact rfl)) ?_
          refine AL.step rfl rfl rfl (by exact AStepD.move' rfl (by (conv => lhs; whnf); all_goals exact rfl)) ?_
          refine AL.call rfl rfl rfl (AStep.callf' rfl en9 rfl (take_calls _ n L ms j b hN3 hbl (by omega))) ?_; rintro _ H4 ⟨rfl, hN4, hO4⟩; rw [← hns] at hN4; rw [hmb]; obtain ⟨g4, _⟩ := hO4.get hbx3 hb2 hbn hbL; refine AL.lts fun hlt4 => ?_; have hb4 := hlt4 _ _ g4
          refine AL.step rfl rfl rfl (by exact AStepD.move' rfl (by (conv => lhs; whnf); all_goals exact rfl)) ?_
          refine AL.step rfl rfl rfl (by exact AStepD.extract rfl rfl rfl) ?_
          refine AL.step rfl rfl rfl (by exact AStepD.extract rfl rfl rfl) ?_
          refine AL.step rfl rfl rfl (by exact AStepD.alloc tok rfl rfl) ?_
          refine AL.step0 rfl rfl (by exact AStepD.store' tok rfl rfl (by first | with_reducible assumption | (simp (disch := (first | omega | (refine id ?_; simp only [za, zb, zc]; done) | (simp only [za, zb, zc]; omega))) only [z1, z2, z3, z4, z5, z6, z7, z8, ne_eq, *]; done) | (simp (disch := (first | omega | (refine id ?_; simp only [za, zb, zc]; done) | (simp only [za, zb, zc]; omega))) only [z1, z2, z3, z4, z5, z6, z7, z8, ne_eq, *]; exact rfl)) (by (conv => lhs; whnf); all_goals exact rfl) (by first | exact one_cells (by with_reducible assumption) | exact (by (conv => lhs; whnf); all_goals exact rfl)) (by first | with_reducible assumption | exact ones_nil | (simp only [List.forall_mem_cons, List.not_mem_nil, false_implies, implies_true, and_true, one_v, one_ptr, one_ip, one_sl, one_slc, one_vec, one_map, one_func, one_iface, Value.oneCell', *]; done) | (simp [AV.one, Value.oneCell', *]; done)) rfl (by (conv => lhs; whnf); all_goals exact rfl) rfl (by first | exact Nat.le_of_ble_eq_true rfl | (simp; done) | (simp; omega) | (simp_all; omega)) (by first | ((with_reducible refine over_all ?_); exact rfl) | (simp only [over, List.take_succ_cons, List.take_zero, List.drop_succ_cons, List.drop_zero, List.length_cons, List.length_nil, List.nil_append, List.cons_append, Nat.reduceAdd, Nat.zero_add, List.drop_nil, List.append_nil]; exact rfl) | conv => lhs; whnf)) ?_
          refine AL.step rfl rfl rfl (by exact AStepD.assign' rfl (by (conv => lhs; whnf); all_goals exact rfl)) ?_
          refine AL.nil_then (hK _ _ ?_); clear hK K
          refine AW.seq_region (fun K hK => ?_)
          refine AL.step rfl rfl rfl (by exact AStepD.move' rfl (by (conv => lhs; whnf); all_goals exact rfl)) ?_
          refine AL.step rfl rfl rfl (by exact AStepD.move' rfl (by (conv => lhs; whnf); all_goals exact rfl)) ?_
          first | refine AL.gstep rfl rfl rfl rfl rfl rfl rfl (by exact AStepD.move' rfl (by (conv => lhs; whnf); all_goals exact rfl)) ?_ | refine AL.gskip rfl rfl rfl rfl rfl rfl rfl ?_ | refine AL.gnone rfl rfl rfl rfl rfl ?_ | refine AL.gmay rfl rfl rfl rfl rfl rfl (fun hb => by (try (apply AStepD.uncond 7 rfl (by first | exact guard_true hb | (rw [hb]; done) | (rw [hb]; rfl) | simp [hb]))); (exact AStepD.move' rfl (by (conv => lhs; whnf); all_goals exact rfl))) ?_
          refine AL.gcall rfl rfl rfl rfl rfl rfl rfl (AStep.callf' rfl en13 rfl (double_calls _ n L ns j 0 (hN4.keep hlt4 (by repeat' (first | exact Keep.refl _ | apply Keep.new | apply Keep.set | apply Keep.del | (first | omega | (simp only [za, zb, zc]; omega))))) hn0 (by omega) (by rw [hnm]; omega))) ?_; rintro _ H5 ⟨rfl, L5, hN5, hO5⟩ ; rw [hnm] at hN5; obtain ⟨g5, _⟩ := hO5.get (k := b0) (o := .cells 29 m.cells) (by first | with_reducible assumption | (simp (disch := (first | omega | (refine id ?_; simp only [za, zb, zc]; done) | (simp only [za, zb, zc]; omega))) only [z1, z2, z3, z4, z5, z6, z7, z8, ne_eq, *]; done) | (simp (disch := (first | omega | (refine id ?_; simp only [za, zb, zc]; done) | (simp only [za, zb, zc]; omega))) only [z1, z2, z3, z4, z5, z6, z7, z8, ne_eq, *]; exact rfl)) (by (try simp only [za, zb, zc, ne_eq]); omega) hbn hbL; have hlc : ACalls Try.prog 11 [.ptr n 0] H5 (fun r H' => r = .v (.int .i64 4096) ∧ H' = H5) := (by have := len_calls _ n L5 _ _ hN5; rwa [show (((ns ++ [m]).length : Nat) : Int) = 4096 by simp [hnl]] at this)
          refine AL.step rfl rfl rfl (by first | exact AStepD.pick_true' rfl rfl (by (conv => lhs; whnf); all_goals exact rfl) | exact AStepD.pick_false' rfl rfl (by (conv => lhs; whnf); all_goals exact rfl) | exact AStepD.and rfl _ _ _ rfl rfl (by intro h; first | exact guard_true h | (rw [h]; done) | (rw [h]; rfl) | (simp [h]; done) | (simp_all; done)) rfl | exact AStepD.and' rfl _ _ rfl rfl rfl | exact AStepD.or rfl _ _ _ rfl rfl rfl (by intro h; first | exact guard_true h | (rw [h]; done) | (rw [h]; rfl) | (simp [h]; done) | (simp_all; done)) | exact AStepD.or' rfl _ _ rfl rfl rfl) ?_
          refine AL.step rfl rfl rfl (by exact AStepD.move' rfl (by (conv => lhs; whnf); all_goals exact rfl)) ?_
          first | refine AL.gstep rfl rfl rfl rfl rfl rfl rfl (by exact AStepD.move' rfl (by (conv => lhs; whnf); all_goals exact rfl)) ?_ | refine AL.gskip rfl rfl rfl rfl rfl rfl rfl ?_ | refine AL.gnone rfl rfl rfl rfl rfl ?_ | refine AL.gmay rfl rfl rfl rfl rfl rfl (fun hb => by (try (apply AStepD.uncond 7 rfl (by first | exact guard_true hb | (rw [hb]; done) | (rw [hb]; rfl) | simp [hb]))); (exact AStepD.move' rfl (by (conv => lhs; whnf); all_goals exact rfl))) ?_
          first | refine AL.gstep rfl rfl rfl rfl rfl rfl rfl (by exact AStepD.callf rfl en11 rfl hlc) ?_ | refine AL.gskip rfl rfl rfl rfl rfl rfl rfl ?_ | refine AL.gnone rfl rfl rfl rfl rfl ?_ | refine AL.gmay rfl rfl rfl rfl rfl rfl (fun hb => by (try (apply AStepD.uncond 76 rfl (by first | exact guard_true hb | (rw [hb]; done) | (rw [hb]; rfl) | simp [hb]))); (exact AStepD.callf rfl en11 rfl hlc)) ?_
          first | refine AL.gstep rfl rfl rfl rfl rfl rfl rfl (by first | exact AStepD.eql rfl rfl rfl | exact AStepD.str_eql rfl rfl rfl | exact (AStepD.ptr_nil tok (.inl ⟨_, _, rfl⟩) rfl rfl rfl).1 rfl | exact (AStepD.nil_nil tok rfl rfl rfl rfl).1 rfl | exact (AStepD.bool_eq tok rfl rfl rfl rfl).1 rfl | exact (AStepD.iface_nil tok rfl rfl rfl rfl).1 rfl | exact (AStepD.nilIface_nil tok rfl rfl rfl rfl).1 rfl) ?_ | refine AL.gskip rfl rfl rfl rfl rfl rfl rfl ?_ | refine AL.gnone rfl rfl rfl rfl rfl ?_ | refine AL.gmay rfl rfl rfl rfl rfl rfl (fun hb => by (try (apply AStepD.uncond 77 rfl (by first | exact guard_true hb | (rw [hb]; done) | (rw [hb]; rfl) | simp [hb]))); (first | exact AStepD.eql rfl rfl rfl | exact AStepD.str_eql rfl rfl rfl | exact (AStepD.ptr_nil tok (.inl ⟨_, _, rfl⟩) rfl rfl rfl).1 rfl | exact (AStepD.nil_nil tok rfl rfl rfl rfl).1 rfl | exact (AStepD.bool_eq tok rfl rfl rfl rfl).1 rfl | exact (AStepD.iface_nil tok rfl rfl rfl rfl).1 rfl | exact (AStepD.nilIface_nil tok rfl rfl rfl rfl).1 rfl)) ?_
          refine AL.step rfl rfl rfl (by first | exact AStepD.pick_true' rfl rfl (by (conv => lhs; whnf); all_goals exact rfl) | exact AStepD.pick_false' rfl rfl (by (conv => lhs; whnf); all_goals exact rfl) | exact AStepD.and rfl _ _ _ rfl rfl (by intro h; first | exact guard_true h | (rw [h]; done) | (rw [h]; rfl) | (simp [h]; done) | (simp_all; done)) rfl | exact AStepD.and' rfl _ _ rfl rfl rfl | exact AStepD.or rfl _ _ _ rfl rfl rfl (by intro h; first | exact guard_true h | (rw [h]; done) | (rw [h]; rfl) | (simp [h]; done) | (simp_all; done)) | exact AStepD.or' rfl _ _ rfl rfl rfl) ?_
          refine AL.step rfl rfl rfl (by exact AStepD.move' rfl (by (conv => lhs; whnf); all_goals exact rfl)) ?_
          first | refine AL.gstep rfl rfl rfl rfl rfl rfl rfl (by exact AStepD.move' rfl (by (conv => lhs; whnf); all_goals exact rfl)) ?_ | refine AL.gskip rfl rfl rfl rfl rfl rfl rfl ?_ | refine AL.gnone rfl rfl rfl rfl rfl ?_ | refine AL.gmay rfl rfl rfl rfl rfl rfl (fun hb => by (try (apply AStepD.uncond 7 rfl (by first | exact guard_true hb | (rw [hb]; done) | (rw [hb]; rfl) | simp [hb]))); (exact AStepD.move' rfl (by (conv => lhs; whnf); all_goals exact rfl))) ?_
          first | refine AL.gstep rfl rfl rfl rfl rfl rfl rfl (by first | exact AStepD.load_agg tok rfl rfl rfl (by first | with_reducible assumption | (simp (disch := (first | omega | (refine id ?_; simp only [za, zb, zc]; done) | (simp only [za, zb, zc]; omega))) only [z1, z2, z3, z4, z5, z6, z7, z8, ne_eq, *]; done) | (simp (disch := (first | omega | (refine id ?_; simp only [za, zb, zc]; done) | (simp only [za, zb, zc]; omega))) only [z1, z2, z3, z4, z5, z6, z7, z8, ne_eq, *]; exact rfl)) rfl (show _ = 3 from rfl) (by first | exact Nat.le_of_ble_eq_true rfl | (simp; done) | (simp; omega) | (simp_all; omega)) (by first | with_reducible assumption | (simp only [List.take_succ_cons, List.take_zero, List.drop_succ_cons, List.drop_zero]; exact rfl) | exact rfl) | exact AStepD.load_agg_ip tok rfl rfl rfl rfl (show _ = 3 from rfl) (by first | exact Nat.le_of_ble_eq_true rfl | (simp; done) | (simp; omega) | (simp_all; omega)) (by first | with_reducible assumption | (simp only [List.take_succ_cons, List.take_zero, List.drop_succ_cons, List.drop_zero]; exact rfl) | exact rfl)) ?_ | refine AL.gskip rfl rfl rfl rfl rfl rfl rfl ?_ | refine AL.gnone rfl rfl rfl rfl rfl ?_ | refine AL.gmay rfl rfl rfl rfl rfl rfl (fun hb => by (try (apply AStepD.uncond 3 rfl (by first | exact guard_true hb | (rw [hb]; done) | (rw [hb]; rfl) | simp [hb]))); (first | exact AStepD.load_agg tok rfl rfl rfl (by first | with_reducible assumption | (simp (disch := (first | omega | (refine id ?_; simp only [za, zb, zc]; done) | (simp only [za, zb, zc]; omega))) only [z1, z2, z3, z4, z5, z6, z7, z8, ne_eq, *]; done) | (simp (disch := (first | omega | (refine id ?_; simp only [za, zb, zc]; done) | (simp only [za, zb, zc]; omega))) only [z1, z2, z3, z4, z5, z6, z7, z8, ne_eq, *]; exact rfl)) rfl (show _ = 3 from rfl) (by first | exact Nat.le_of_ble_eq_true rfl | (simp; done) | (simp; omega) | (simp_all; omega)) (by first | with_reducible assumption | (simp only [List.take_succ_cons, List.take_zero, List.drop_succ_cons, List.drop_zero]; exact rfl) | exact rfl) | exact AStepD.load_agg_ip tok rfl rfl rfl rfl (show _ = 3 from rfl) (by first | exact Nat.le_of_ble_eq_true rfl | (simp; done) | (simp; omega) | (simp_all; omega)) (by first | with_reducible assumption | (simp only [List.take_succ_cons, List.take_zero, List.drop_succ_cons, List.drop_zero]; exact rfl) | exact rfl))) ?_
          refine AL.gcall rfl rfl rfl rfl rfl rfl rfl (AStep.callf' rfl en8 rfl (put_full _ n L5 (ns ++ [m]) j m _ hN5 Src.vec (by simp [hnl]) (by omega))) ?_; rintro _ H6 ⟨rfl, hN6, hO6⟩
          first | refine AL.gstep rfl rfl rfl rfl rfl rfl rfl (by first | exact AStepD.eql rfl rfl rfl | exact AStepD.str_eql rfl rfl rfl | exact (AStepD.ptr_nil tok (.inl ⟨_, _, rfl⟩) rfl rfl rfl).1 rfl | exact (AStepD.nil_nil tok rfl rfl rfl rfl).1 rfl | exact (AStepD.bool_eq tok rfl rfl rfl rfl).1 rfl | exact (AStepD.iface_nil tok rfl rfl rfl rfl).1 rfl | exact (AStepD.nilIface_nil tok rfl rfl rfl rfl).1 rfl) ?_ | refine AL.gskip rfl rfl rfl rfl rfl rfl rfl ?_ | refine AL.gnone rfl rfl rfl rfl rfl ?_ | refine AL.gmay rfl rfl rfl rfl rfl rfl (fun hb => by (try (apply AStepD.uncond 83 rfl (by first | exact guard_true hb | (rw [hb]; done) | (rw [hb]; rfl) | simp [hb]))); (first | exact AStepD.eql rfl rfl rfl | exact AStepD.str_eql rfl rfl rfl | exact (AStepD.ptr_nil tok (.inl ⟨_, _, rfl⟩) rfl rfl rfl).1 rfl | exact (AStepD.nil_nil tok rfl rfl rfl rfl).1 rfl | exact (AStepD.bool_eq tok rfl rfl rfl rfl).1 rfl | exact (AStepD.iface_nil tok rfl rfl rfl rfl).1 rfl | exact (AStepD.nilIface_nil tok rfl rfl rfl rfl).1 rfl)) ?_
          refine AL.step rfl rfl rfl (by first | exact AStepD.pick_true' rfl rfl (by (conv => lhs; whnf); all_goals exact rfl) | exact AStepD.pick_false' rfl rfl (by (conv => lhs; whnf); all_goals exact rfl) | exact AStepD.and rfl _ _ _ rfl rfl (by intro h; first | exact guard_true h | (rw [h]; done) | (rw [h]; rfl) | (simp [h]; done) | (simp_all; done)) rfl | exact AStepD.and' rfl _ _ rfl rfl rfl | exact AStepD.or rfl _ _ _ rfl rfl rfl (by intro h; first | exact guard_true h | (rw [h]; done) | (rw [h]; rfl) | (simp [h]; done) | (simp_all; done)) | exact AStepD.or' rfl _ _ rfl rfl rfl) ?_
          refine AL.step rfl rfl rfl (by exact AStepD.assign' rfl (by (conv => lhs; whnf); all_goals exact rfl)) ?_
          refine AL.nil_then (hK _ _ ?_); clear hK K
          exact AW.ret (RetQ.mk (.inr rfl) (retA_tmp rfl (by (conv => lhs; whnf); all_goals exact rfl) retA_nil) rfl)
end Go.Proofs.Ytdogeolaaejinaa
