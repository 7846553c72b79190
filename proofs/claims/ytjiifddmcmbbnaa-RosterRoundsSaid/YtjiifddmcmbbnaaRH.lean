/- The walks of the roster's Get and Forget. -/
import Derived.Test.YtjiifddmcmbbnaaRF
namespace Go.Proofs.Ytjiifddmcmbbnaa
open Go.Ax
set_option linter.unusedSimpArgs false
set_option linter.unusedVariables false

/-- What is told of a member. -/
def getM (ms : List Mem) (w : Int) : Mem := if h : has ms w = true ∧ pos ms w < ms.length then ms[pos ms w] else ⟨0, 0, 0, 0, 0⟩

theorem get_calls (H : AHeap) (n L B : Nat) (r : Ros) (w : Int) (hR : RosAt H n L B r) (hI : Inv r) :
    ACalls Try.prog 16 [.ptr n 0, .v (.int .i64 w)] H (fun v H' => v = .tup [.agg (getM r.ms w).cells, .v (.bool (has r.ms w))] ∧ H' = H) := by
  refine ACalls.quiet_keep ?_ (.tup (by simp only [List.forall_mem_cons]; exact ⟨.agg (Mem.plain _), .v _, fun _ h => absurd h List.not_mem_nil⟩))
  have hR0 := hR
  have h15 := hI.2
  obtain ⟨x0, hn, hM, hB⟩ := hR
  have hx1 := hM.one
  refine ACalls.lts fun hlt => ?_
  have hnl := hlt _ _ hn
  refine ACalls.of_body tok Try.func16 rfl Try.ntmps16 (Nat.le_of_ble_eq_true rfl) ?_
  refine AW.seq_region (fun K hK => ?_)
  refine AL.step rfl rfl rfl (by exact AStepD.alloc tok rfl rfl) ?_
  refine AL.step rfl rfl rfl (by exact AStepD.assign' rfl (by (conv => lhs; whnf); all_goals exact rfl)) ?_
  refine AL.nil_then (hK _ _ ?_); clear hK K
  refine AW.seq_k (fun K hK => ?_)
  refine AW.seq_region (fun K hK => ?_)
  refine AL.step rfl rfl rfl (by exact AStepD.move' rfl (by (conv => lhs; whnf); all_goals exact rfl)) ?_
  refine AL.step rfl rfl rfl (by exact AStepD.move' rfl (by (conv => lhs; whnf); all_goals exact rfl)) ?_
  refine AL.step rfl rfl rfl (by exact AStepD.callf rfl en29 rfl (find_calls _ n L B r w (hR0.keep hlt (by repeat' (first | exact Keep.refl _ | apply Keep.new | apply Keep.set | apply Keep.del | (first | omega | (simp only [za, zb, zc]; omega))))) hI.1 (by omega))) ?_
  refine AL.step rfl rfl rfl (by exact AStepD.move' rfl (by (conv => lhs; whnf); all_goals exact rfl)) ?_
  refine AL.step rfl rfl rfl (by exact AStepD.extract rfl rfl rfl) ?_
  refine AL.step rfl rfl rfl (by exact AStepD.extract rfl rfl rfl) ?_
  refine AL.step rfl rfl rfl (by exact AStepD.assign' rfl (by (conv => lhs; whnf); all_goals exact rfl)) ?_
  refine AL.step rfl rfl rfl (by exact AStepD.assign' rfl (by (conv => lhs; whnf); all_goals exact rfl)) ?_
  refine AL.nil_then (hK _ _ ?_); clear hK K
  refine AW.seq_region (fun K hK => ?_)
  refine AL.step rfl rfl rfl (by exact AStepD.move' rfl (by (conv => lhs; whnf); all_goals exact rfl)) ?_
  refine AL.nil_then (hK _ _ ?_); clear hK K
  refine AW.cond _ rfl (fun hc => ?_) (fun hc => ?_)
  · obtain ⟨hp, -⟩ := (has_at hI.1 w).1 hc
    obtain ⟨hxe, hH⟩ := hM.at hp
    have hLl := hlt _ _ hH
    have hfl := flat_length r.ms
    have hfa := flat_at r.ms _ hp
    have hone := (r.ms[pos r.ms w]).one
    have hg : getM r.ms w = r.ms[pos r.ms w] := by rw [getM, dif_pos ⟨hc, hp⟩]
    subst hxe
    generalize hpp : pos r.ms w = p at hp hfa hone hg
    refine AW.seq_region (fun K hK => ?_)
    refine AL.step rfl rfl rfl (by exact AStepD.move' rfl (by (conv => lhs; whnf); all_goals exact rfl)) ?_
    refine AL.step rfl rfl rfl (by first | exact AStepD.nilCheck_ptr rfl rfl | exact AStepD.nilCheck_ip rfl rfl | exact AStepD.nilCheck_func rfl rfl) ?_
    refine AL.step rfl rfl rfl (by first | exact AStepD.fieldAddr' tok rfl rfl rfl rfl rfl rfl rfl (by first | exact Nat.zero_add 1 | exact (show _ + 1 = _ from (by simp only [Nat.reduceAdd]; exact rfl)) | exact (show _ + 1 = _ + 1 from rfl) | exact rfl) | exact AStepD.fieldAddr_ip' tok rfl rfl rfl rfl rfl rfl rfl (by (conv => lhs; whnf); all_goals exact rfl)) ?_
    refine AL.step rfl rfl rfl (by first | exact AStepD.load_one tok rfl rfl rfl rfl (by first | with_reducible assumption | (simp (disch := (first | omega | (refine id ?_; simp only [za, zb, zc]; done) | (simp only [za, zb, zc]; omega))) only [z1, z2, z3, z4, z5, z6, z7, z8, ne_eq, *]; done) | (simp (disch := (first | omega | (refine id ?_; simp only [za, zb, zc]; done) | (simp only [za, zb, zc]; omega))) only [z1, z2, z3, z4, z5, z6, z7, z8, ne_eq, *]; exact rfl)) rfl (by first | with_reducible assumption | exact rfl) | exact AStepD.load_one_ip tok rfl rfl rfl rfl rfl (by first | with_reducible assumption | exact rfl)) ?_
    refine AL.step rfl rfl rfl (by exact AStepD.move' rfl (by (conv => lhs; whnf); all_goals exact rfl)) ?_
    refine AL.step rfl rfl rfl (by first | exact AStepD.indexAddr_vec' tok rfl rfl rfl rfl rfl rfl (show _ = 5 from rfl) (by first | exact rfl | exact (Int.toNat_of_nonneg (by omega)).symm) (by first | omega | (simp; done) | (simp; omega) | (simp only [over, List.length_append, List.length_take, List.length_drop, *]; omega) | (simp_all; done) | (simp_all; omega)) | exact AStepD.indexAddr_sl' tok rfl rfl rfl rfl rfl rfl (show _ = 5 from rfl) (by first | exact rfl | exact (Int.toNat_of_nonneg (by omega)).symm) (by first | omega | (simp; done) | (simp; omega) | (simp only [over, List.length_append, List.length_take, List.length_drop, *]; omega) | (simp_all; done) | (simp_all; omega)) (by first | (simp only [Nat.zero_add, Nat.zero_mul, Nat.sub_zero, Nat.add_zero]; exact rfl) | exact rfl) | exact AStepD.indexAddr_arr' tok rfl rfl rfl rfl rfl rfl (show _ = 5 from rfl) (by first | exact rfl | exact (Int.toNat_of_nonneg (by omega)).symm) (by first | omega | (simp; done) | (simp; omega) | (simp only [over, List.length_append, List.length_take, List.length_drop, *]; omega) | (simp_all; done) | (simp_all; omega)) (by first | (simp only [Nat.zero_add, Nat.zero_mul, Nat.sub_zero, Nat.add_zero]; exact rfl) | exact rfl)) ?_
    refine AL.step rfl rfl rfl (by first | exact AStepD.load_agg tok rfl rfl rfl (by first | with_reducible assumption | (simp (disch := (first | omega | (refine id ?_; simp only [za, zb, zc]; done) | (simp only [za, zb, zc]; omega))) only [z1, z2, z3, z4, z5, z6, z7, z8, ne_eq, *]; done) | (simp (disch := (first | omega | (refine id ?_; simp only [za, zb, zc]; done) | (simp only [za, zb, zc]; omega))) only [z1, z2, z3, z4, z5, z6, z7, z8, ne_eq, *]; exact rfl)) rfl (show _ = 5 from rfl) (by first | exact Nat.le_of_ble_eq_true rfl | (simp; done) | (simp; omega) | (simp_all; omega)) (by first | with_reducible assumption | (simp only [List.take_succ_cons, List.take_zero, List.drop_succ_cons, List.drop_zero]; exact rfl) | exact rfl) | exact AStepD.load_agg_ip tok rfl rfl rfl rfl (show _ = 5 from rfl) (by first | exact Nat.le_of_ble_eq_true rfl | (simp; done) | (simp; omega) | (simp_all; omega)) (by first | with_reducible assumption | (simp only [List.take_succ_cons, List.take_zero, List.drop_succ_cons, List.drop_zero]; exact rfl) | exact rfl)) ?_
    refine AL.step0 rfl rfl (by exact AStepD.store' tok rfl rfl (by first | with_reducible assumption | (simp (disch := (first | omega | (refine id ?_; simp only [za, zb, zc]; done) | (simp only [za, zb, zc]; omega))) only [z1, z2, z3, z4, z5, z6, z7, z8, ne_eq, *]; done) | (simp (disch := (first | omega | (refine id ?_; simp only [za, zb, zc]; done) | (simp only [za, zb, zc]; omega))) only [z1, z2, z3, z4, z5, z6, z7, z8, ne_eq, *]; exact rfl)) (by (conv => lhs; whnf); all_goals exact rfl) (by first | exact one_cells (by with_reducible assumption) | exact (by (conv => lhs; whnf); all_goals exact rfl)) (by first | with_reducible assumption | exact ones_nil | (simp only [List.forall_mem_cons, List.not_mem_nil, false_implies, implies_true, and_true, one_v, one_ptr, one_ip, one_sl, one_slc, one_vec, one_map, one_func, one_iface, Value.oneCell', *]; done) | (simp [AV.one, Value.oneCell', *]; done)) rfl (by (conv => lhs; whnf); all_goals exact rfl) rfl (by first | exact Nat.le_of_ble_eq_true rfl | (simp; done) | (simp; omega) | (simp_all; omega)) (by first | ((with_reducible refine over_all ?_); exact rfl) | (simp only [over, List.take_succ_cons, List.take_zero, List.drop_succ_cons, List.drop_zero, List.length_cons, List.length_nil, List.nil_append, List.cons_append, Nat.reduceAdd, Nat.zero_add, List.drop_nil, List.append_nil]; exact rfl) | conv => lhs; whnf)) ?_
    refine AL.step rfl rfl rfl (by exact AStepD.assign' rfl (by (conv => lhs; whnf); all_goals exact rfl)) ?_
    refine AL.nil_then (hK _ _ ?_); clear hK K
    refine AW.ret (RetQ.mk (.inr rfl) (by first | exact retA_agg rfl rfl rfl (by first | with_reducible assumption | (simp (disch := (first | omega | (refine id ?_; simp only [za, zb, zc]; done) | (simp only [za, zb, zc]; omega))) only [z1, z2, z3, z4, z5, z6, z7, z8, ne_eq, *]; done) | (simp (disch := (first | omega | (refine id ?_; simp only [za, zb, zc]; done) | (simp only [za, zb, zc]; omega))) only [z1, z2, z3, z4, z5, z6, z7, z8, ne_eq, *]; exact rfl)) rfl (show _ = 5 from rfl) (by first | exact Nat.le_of_ble_eq_true rfl | (simp; done) | (simp; omega) | (simp_all; omega)) (by first | with_reducible assumption | (simp only [List.take_succ_cons, List.take_zero, List.drop_succ_cons, List.drop_zero]; exact rfl) | exact rfl) (retA_tmp rfl (by (conv => lhs; whnf); all_goals exact rfl) retA_nil) | exact retA_one rfl rfl rfl rfl (by first | with_reducible assumption | (simp (disch := (first | omega | (refine id ?_; simp only [za, zb, zc]; done) | (simp only [za, zb, zc]; omega))) only [z1, z2, z3, z4, z5, z6, z7, z8, ne_eq, *]; done) | (simp (disch := (first | omega | (refine id ?_; simp only [za, zb, zc]; done) | (simp only [za, zb, zc]; omega))) only [z1, z2, z3, z4, z5, z6, z7, z8, ne_eq, *]; exact rfl)) rfl (by first | with_reducible assumption | exact rfl) (retA_tmp rfl (by (conv => lhs; whnf); all_goals exact rfl) retA_nil)) ⟨?_, (by repeat' (first | exact Keep.refl _ | apply Keep.new | apply Keep.set | apply Keep.del | (first | omega | (simp only [za, zb, zc]; omega))))⟩)
    rw [hg, hc]; rfl
  · refine AW.skip (hK _ _ ?_); clear hK K
    have hg : getM r.ms w = ⟨0, 0, 0, 0, 0⟩ := by rw [getM, dif_neg]; rintro ⟨h, _⟩; rw [hc] at h; cases h
    refine AW.seq_region (fun K hK => ?_)
    refine AL.step rfl rfl rfl (by exact AStepD.val (AStepD.build tok rfl rfl rfl (by decide) rfl (show ∀ p ∈ ([] : List (Nat × AV)), ∀ x ∈ p.2.cells, x.one = true from by simp)) (show _ = AV.agg (Mem.cells ⟨0, 0, 0, 0, 0⟩) from rfl)) ?_
    refine AL.step0 rfl rfl (by exact AStepD.store' tok rfl rfl (by first | with_reducible assumption | (simp (disch := (first | omega | (refine id ?_; simp only [za, zb, zc]; done) | (simp only [za, zb, zc]; omega))) only [z1, z2, z3, z4, z5, z6, z7, z8, ne_eq, *]; done) | (simp (disch := (first | omega | (refine id ?_; simp only [za, zb, zc]; done) | (simp only [za, zb, zc]; omega))) only [z1, z2, z3, z4, z5, z6, z7, z8, ne_eq, *]; exact rfl)) (by (conv => lhs; whnf); all_goals exact rfl) (by first | exact one_cells (by with_reducible assumption) | exact (by (conv => lhs; whnf); all_goals exact rfl)) (by first | with_reducible assumption | exact ones_nil | (simp only [List.forall_mem_cons, List.not_mem_nil, false_implies, implies_true, and_true, one_v, one_ptr, one_ip, one_sl, one_slc, one_vec, one_map, one_func, one_iface, Value.oneCell', *]; done) | (simp [AV.one, Value.oneCell', *]; done)) rfl (by (conv => lhs; whnf); all_goals exact rfl) rfl (by first | exact Nat.le_of_ble_eq_true rfl | (simp; done) | (simp; omega) | (simp_all; omega)) (by first | ((with_reducible refine over_all ?_); exact rfl) | (simp only [over, List.take_succ_cons, List.take_zero, List.drop_succ_cons, List.drop_zero, List.length_cons, List.length_nil, List.nil_append, List.cons_append, Nat.reduceAdd, Nat.zero_add, List.drop_nil, List.append_nil]; exact rfl) | conv => lhs; whnf)) ?_
    refine AL.step rfl rfl rfl (by exact AStepD.assign' rfl (by (conv => lhs; whnf); all_goals exact rfl)) ?_
    refine AL.nil_then (hK _ _ ?_); clear hK K
    refine AW.ret (RetQ.mk (.inr rfl) (by first | exact retA_agg rfl rfl rfl (by first | with_reducible assumption | (simp (disch := (first | omega | (refine id ?_; simp only [za, zb, zc]; done) | (simp only [za, zb, zc]; omega))) only [z1, z2, z3, z4, z5, z6, z7, z8, ne_eq, *]; done) | (simp (disch := (first | omega | (refine id ?_; simp only [za, zb, zc]; done) | (simp only [za, zb, zc]; omega))) only [z1, z2, z3, z4, z5, z6, z7, z8, ne_eq, *]; exact rfl)) rfl (show _ = 5 from rfl) (by first | exact Nat.le_of_ble_eq_true rfl | (simp; done) | (simp; omega) | (simp_all; omega)) (by first | with_reducible assumption | (simp only [List.take_succ_cons, List.take_zero, List.drop_succ_cons, List.drop_zero]; exact rfl) | exact rfl) (retA_tmp rfl (by (conv => lhs; whnf); all_goals exact rfl) retA_nil) | exact retA_one rfl rfl rfl rfl (by first | with_reducible assumption | (simp (disch := (first | omega | (refine id ?_; simp only [za, zb, zc]; done) | (simp only [za, zb, zc]; omega))) only [z1, z2, z3, z4, z5, z6, z7, z8, ne_eq, *]; done) | (simp (disch := (first | omega | (refine id ?_; simp only [za, zb, zc]; done) | (simp only [za, zb, zc]; omega))) only [z1, z2, z3, z4, z5, z6, z7, z8, ne_eq, *]; exact rfl)) rfl (by first | with_reducible assumption | exact rfl) (retA_tmp rfl (by (conv => lhs; whnf); all_goals exact rfl) retA_nil)) ⟨?_, (by repeat' (first | exact Keep.refl _ | apply Keep.new | apply Keep.set | apply Keep.del | (first | omega | (simp only [za, zb, zc]; omega))))⟩)
    rw [hg, hc]; rfl

/-- What forgetting answers, and leaves. -/
def forE (r : Ros) (w t : Int) : Int := if asked r.self w t ≠ 0 then asked r.self w t else if has r.ms w then 0 else 30
def forR (r : Ros) (w t : Int) : Ros := ⟨r.self, r.ms.take (pos r.ms w) ++ r.ms.drop (pos r.ms w + 1), putB r.bs w (t + 60000), r.cur⟩
theorem asked_time {s w t : Int} (h : asked s w t = 0) : idB w = true ∧ timeB t = true ∧ w ≠ s := by
  unfold asked at h
  split at h
  · cases h
  · rename_i h1
    split at h
    · cases h
    · rename_i h2
      simp only [Bool.or_eq_true, Bool.not_eq_true', not_or, Bool.not_eq_false] at h1
      exact ⟨h1.1, h1.2, h2⟩
theorem forE_zero {r : Ros} {w t : Int} (h : forE r w t = 0) : asked r.self w t = 0 ∧ has r.ms w = true := by
  unfold forE at h
  split at h
  · contradiction
  · rename_i h1
    split at h
    · rename_i h2; exact ⟨by omega, h2⟩
    · cases h
theorem Inv.forget {r : Ros} {w t : Int} (h : Inv r) : Inv (forR r w t) := by
  refine ⟨?_, ?_⟩
  · have hp := h.1
    have : List.Sublist (r.ms.take (pos r.ms w) ++ r.ms.drop (pos r.ms w + 1)) r.ms := by
      have h1 : List.Sublist (r.ms.take (pos r.ms w) ++ r.ms.drop (pos r.ms w + 1)) (r.ms.take (pos r.ms w) ++ r.ms.drop (pos r.ms w)) :=
        List.Sublist.append_left (List.drop_sublist_drop_left _ (Nat.le_succ _)) _
      rwa [List.take_append_drop] at h1
    exact hp.sublist this
  · have := h.2
    simp [forR]; omega

theorem forget_calls (H : AHeap) (n L B : Nat) (r : Ros) (w t : Int) (hR : RosAt H n L B r) (hI : Inv r) :
    ACalls Try.prog 17 [.ptr n 0, .v (.int .i64 w), .v (.int .i64 t)] H (fun v H' => v = .v (.int .i64 (forE r w t)) ∧ RosAt H' n L B (if forE r w t = 0 then forR r w t else r) ∧ Only H H' n L B L) := by
  have hR0 := hR
  have h15 := hI.2
  obtain ⟨x0, hn, hM, hB⟩ := hR
  have hx1 := hM.one
  have hno : ∀ e : Int, forE r w t = e → e ≠ 0 → AV.v (.int .i64 e) = .v (.int .i64 (forE r w t)) ∧ RosAt H n L B (if forE r w t = 0 then forR r w t else r) ∧ Only H H n L B L := by
    intro e he h0
    subst he
    exact ⟨rfl, by rw [if_neg h0]; exact hR0, Only.refl H n L B⟩
  refine ACalls.lts fun hlt => ?_
  refine ACalls.of_body tok Try.func17 rfl Try.ntmps17 (Nat.le_of_ble_eq_true rfl) ?_
  refine AW.seq_region (fun K hK => ?_)
  refine AL.step rfl rfl rfl (by exact AStepD.assign' rfl (by (conv => lhs; whnf); all_goals exact rfl)) ?_
  refine AL.nil_then (hK _ _ ?_); clear hK K
  refine AW.seq_region (fun K hK => ?_)
  refine AL.step rfl rfl rfl (by exact AStepD.move' rfl (by (conv => lhs; whnf); all_goals exact rfl)) ?_
  refine AL.step rfl rfl rfl (by exact AStepD.move' rfl (by (conv => lhs; whnf); all_goals exact rfl)) ?_
  refine AL.step rfl rfl rfl (by exact AStepD.callf rfl en29 rfl (find_calls _ n L B r w hR0 hI.1 (by omega))) ?_
  refine AL.step rfl rfl rfl (by exact AStepD.move' rfl (by (conv => lhs; whnf); all_goals exact rfl)) ?_
  refine AL.step rfl rfl rfl (by exact AStepD.extract rfl rfl rfl) ?_
  refine AL.step rfl rfl rfl (by exact AStepD.extract rfl rfl rfl) ?_
  refine AL.step rfl rfl rfl (by exact AStepD.assign' rfl (by (conv => lhs; whnf); all_goals exact rfl)) ?_
  refine AL.step rfl rfl rfl (by exact AStepD.assign' rfl (by (conv => lhs; whnf); all_goals exact rfl)) ?_
  refine AL.nil_then (hK _ _ ?_); clear hK K
  refine AW.seq_region (fun K hK => ?_)
  refine AL.step rfl rfl rfl (by exact AStepD.move' rfl (by (conv => lhs; whnf); all_goals exact rfl)) ?_
  refine AL.step rfl rfl rfl (by exact AStepD.move' rfl (by (conv => lhs; whnf); all_goals exact rfl)) ?_
  refine AL.step rfl rfl rfl (by exact AStepD.move' rfl (by (conv => lhs; whnf); all_goals exact rfl)) ?_
  refine AL.step rfl rfl rfl (by exact AStepD.callf rfl en30 rfl (asked_calls _ n L B r w t hR0)) ?_
  refine AL.step rfl rfl rfl (by exact AStepD.assign' rfl (by (conv => lhs; whnf); all_goals exact rfl)) ?_
  refine AL.nil_then (hK _ _ ?_); clear hK K
  refine AW.seq_k (fun K hK => ?_)
  refine AW.block ?_
  refine AW.seq_region (fun K hK => ?_)
  refine AL.step rfl rfl rfl (by exact AStepD.move' rfl (by (conv => lhs; whnf); all_goals exact rfl)) ?_
  refine AL.step rfl rfl rfl (by first | exact AStepD.neq rfl rfl rfl | exact AStepD.str_neq rfl rfl rfl | exact (AStepD.ptr_nil tok (.inl ⟨_, _, rfl⟩) rfl rfl rfl).2 rfl | exact (AStepD.nil_nil tok rfl rfl rfl rfl).2 rfl | exact (AStepD.bool_eq tok rfl rfl rfl rfl).2 rfl | exact (AStepD.iface_nil tok rfl rfl rfl rfl).2 rfl | exact (AStepD.nilIface_nil tok rfl rfl rfl rfl).2 rfl) ?_
  refine AL.step rfl rfl rfl (by exact AStepD.assign' rfl (by (conv => lhs; whnf); all_goals exact rfl)) ?_
  refine AL.nil_then (hK _ _ ?_); clear hK K
  refine AW.cond _ rfl (fun hc => ?_) (fun hc => ?_)
  · have hc := of_decide_eq_true hc
    refine AW.seq_region (fun K hK => ?_)
    refine AL.step rfl rfl rfl (by exact AStepD.move' rfl (by (conv => lhs; whnf); all_goals exact rfl)) ?_
    refine AL.step rfl rfl rfl (by exact AStepD.assign' rfl (by (conv => lhs; whnf); all_goals exact rfl)) ?_
    refine AL.nil_then (hK _ _ ?_); clear hK K
    exact AW.ret (RetQ.mk (.inr rfl) (retA_tmp rfl (by (conv => lhs; whnf); all_goals exact rfl) retA_nil) (hno _ (by rw [forE, if_pos hc]) hc))
  have hc := of_decide_eq_false hc
  refine AW.seq_region (fun K hK => ?_)
  refine AL.step rfl rfl rfl (by exact AStepD.move' rfl (by (conv => lhs; whnf); all_goals exact rfl)) ?_
  refine AL.step rfl rfl rfl (by first | exact AStepD.not rfl rfl | exact AStepD.neg rfl rfl (by first | exact IntWalk.i64_in _ (by omega) | exact rfl)) ?_
  refine AL.step rfl rfl rfl (by exact AStepD.assign' rfl (by (conv => lhs; whnf); all_goals exact rfl)) ?_
  refine AL.nil_then (hK _ _ ?_); clear hK K
  refine AW.cond _ rfl (fun hc2 => ?_) (fun hc2 => ?_)
  · have hc2 : has r.ms w = false := by simpa using hc2
    refine AW.seq_region (fun K hK => ?_)
    refine AL.step rfl rfl rfl (by exact AStepD.assign' rfl (by (conv => lhs; whnf); all_goals exact rfl)) ?_
    refine AL.nil_then (hK _ _ ?_); clear hK K
    exact AW.ret (RetQ.mk (.inr rfl) (retA_tmp rfl (by (conv => lhs; whnf); all_goals exact rfl) retA_nil) (hno _ (by rw [forE, if_neg hc, hc2]; rfl) (by decide)))
  have hc2 : has r.ms w = true := by simpa using hc2
  refine AW.skip (hK _ _ ?_); clear hK K
  have he : forE r w t = 0 := by rw [forE, if_neg hc, if_pos hc2]
  obtain ⟨hp, -⟩ := (has_at hI.1 w).1 hc2
  obtain ⟨rfl, hH⟩ := hM.at hp
  have hnl := hlt _ _ hn
  have hBl := hlt _ _ hB
  have hLl := hlt _ _ hH
  have hnB : n ≠ B := by rintro rfl; rw [hn] at hB; simp at hB
  have hLn : L ≠ n := by rintro rfl; rw [hn] at hH; simp at hH
  have hLB : L ≠ B := by rintro rfl; rw [hB] at hH; simp at hH
  have hfl := flat_length r.ms
  have hfo := flat_ones r.ms
  have htm := (asked_time (show asked r.self w t = 0 by omega)).2.1
  have htb : 0 ≤ t ∧ t ≤ 1099511627776 := by simpa [timeB] using htm
  have hout : (flat r.ms).take (pos r.ms w * 5) ++ (flat r.ms).drop ((pos r.ms w + 1) * 5) = flat (r.ms.take (pos r.ms w) ++ r.ms.drop (pos r.ms w + 1)) := by rw [flat_append, flat_take, flat_drop]
  refine AW.seq_region (fun K hK => ?_)
  refine AL.step rfl rfl rfl (by exact AStepD.move' rfl (by (conv => lhs; whnf); all_goals exact rfl)) ?_
  refine AL.step rfl rfl rfl (by exact AStepD.move' rfl (by (conv => lhs; whnf); all_goals exact rfl)) ?_
  refine AL.step rfl rfl rfl (by first | exact AStepD.nilCheck_ptr rfl rfl | exact AStepD.nilCheck_ip rfl rfl | exact AStepD.nilCheck_func rfl rfl) ?_
  refine AL.step rfl rfl rfl (by first | exact AStepD.fieldAddr' tok rfl rfl rfl rfl rfl rfl rfl (by first | exact Nat.zero_add 1 | exact (show _ + 1 = _ from (by simp only [Nat.reduceAdd]; exact rfl)) | exact (show _ + 1 = _ + 1 from rfl) | exact rfl) | exact AStepD.fieldAddr_ip' tok rfl rfl rfl rfl rfl rfl rfl (by (conv => lhs; whnf); all_goals exact rfl)) ?_
  refine AL.step rfl rfl rfl (by first | exact AStepD.load_one tok rfl rfl rfl rfl (by first | with_reducible assumption | (simp (disch := (first | omega | (refine id ?_; simp only [za, zb, zc]; done) | (simp only [za, zb, zc]; omega))) only [z1, z2, z3, z4, z5, z6, z7, z8, ne_eq, *]; done) | (simp (disch := (first | omega | (refine id ?_; simp only [za, zb, zc]; done) | (simp only [za, zb, zc]; omega))) only [z1, z2, z3, z4, z5, z6, z7, z8, ne_eq, *]; exact rfl)) rfl (by first | with_reducible assumption | exact rfl) | exact AStepD.load_one_ip tok rfl rfl rfl rfl rfl (by first | with_reducible assumption | exact rfl)) ?_
  refine AL.step rfl rfl rfl (by exact AStepD.move' rfl (by (conv => lhs; whnf); all_goals exact rfl)) ?_
  refine AL.step rfl rfl rfl (by exact AStepD.move' rfl (by (conv => lhs; whnf); all_goals exact rfl)) ?_
  refine AL.step rfl rfl rfl (by first | exact AStepD.add rfl rfl rfl (by first | exact IntWalk.i64_in _ (by omega) | exact rfl) | exact AStepD.str_add rfl rfl rfl (by omega)) ?_
  refine AL.step rfl rfl rfl (by exact AStepD.callf rfl en33 rfl (delete_calls _ L r.ms.length (pos r.ms w) (pos r.ms w + 1) (flat r.ms) (by first | with_reducible assumption | (simp (disch := (first | omega | (refine id ?_; simp only [za, zb, zc]; done) | (simp only [za, zb, zc]; omega))) only [z1, z2, z3, z4, z5, z6, z7, z8, ne_eq, *]; done) | (simp (disch := (first | omega | (refine id ?_; simp only [za, zb, zc]; done) | (simp only [za, zb, zc]; omega))) only [z1, z2, z3, z4, z5, z6, z7, z8, ne_eq, *]; exact rfl)) hfl hfo (by omega) (by omega) (by omega))) ?_
  refine AL.step rfl rfl rfl (by first | exact AStepD.nilCheck_ptr rfl rfl | exact AStepD.nilCheck_ip rfl rfl | exact AStepD.nilCheck_func rfl rfl) ?_
  refine AL.step rfl rfl rfl (by first | exact AStepD.fieldAddr' tok rfl rfl rfl rfl rfl rfl rfl (by first | exact Nat.zero_add 1 | exact (show _ + 1 = _ from (by simp only [Nat.reduceAdd]; exact rfl)) | exact (show _ + 1 = _ + 1 from rfl) | exact rfl) | exact AStepD.fieldAddr_ip' tok rfl rfl rfl rfl rfl rfl rfl (by (conv => lhs; whnf); all_goals exact rfl)) ?_
  refine AL.step0 rfl rfl (by exact AStepD.store' tok rfl rfl (by first | with_reducible assumption | (simp (disch := (first | omega | (refine id ?_; simp only [za, zb, zc]; done) | (simp only [za, zb, zc]; omega))) only [z1, z2, z3, z4, z5, z6, z7, z8, ne_eq, *]; done) | (simp (disch := (first | omega | (refine id ?_; simp only [za, zb, zc]; done) | (simp only [za, zb, zc]; omega))) only [z1, z2, z3, z4, z5, z6, z7, z8, ne_eq, *]; exact rfl)) (by (conv => lhs; whnf); all_goals exact rfl) (by first | exact one_cells (by with_reducible assumption) | exact (by (conv => lhs; whnf); all_goals exact rfl)) (by first | with_reducible assumption | exact ones_nil | (simp only [List.forall_mem_cons, List.not_mem_nil, false_implies, implies_true, and_true, one_v, one_ptr, one_ip, one_sl, one_slc, one_vec, one_map, one_func, one_iface, Value.oneCell', *]; done) | (simp [AV.one, Value.oneCell', *]; done)) rfl (by (conv => lhs; whnf); all_goals exact rfl) rfl (by first | exact Nat.le_of_ble_eq_true rfl | (simp; done) | (simp; omega) | (simp_all; omega)) (by first | ((with_reducible refine over_all ?_); exact rfl) | (simp only [over, List.take_succ_cons, List.take_zero, List.drop_succ_cons, List.drop_zero, List.length_cons, List.length_nil, List.nil_append, List.cons_append, Nat.reduceAdd, Nat.zero_add, List.drop_nil, List.append_nil]; exact rfl) | conv => lhs; whnf)) ?_
  refine AL.nil_then (hK _ _ ?_); clear hK K
  refine AW.seq_region (fun K hK => ?_)
  refine AL.step rfl rfl rfl (by exact AStepD.move' rfl (by (conv => lhs; whnf); all_goals exact rfl)) ?_
  refine AL.step rfl rfl rfl (by first | exact AStepD.nilCheck_ptr rfl rfl | exact AStepD.nilCheck_ip rfl rfl | exact AStepD.nilCheck_func rfl rfl) ?_
  refine AL.step rfl rfl rfl (by first | exact AStepD.fieldAddr' tok rfl rfl rfl rfl rfl rfl rfl (by first | exact Nat.zero_add 2 | exact (show _ + 2 = _ from (by simp only [Nat.reduceAdd]; exact rfl)) | exact (show _ + 2 = _ + 2 from rfl) | exact rfl) | exact AStepD.fieldAddr_ip' tok rfl rfl rfl rfl rfl rfl rfl (by (conv => lhs; whnf); all_goals exact rfl)) ?_
  refine AL.step rfl rfl rfl (by first | exact AStepD.load_one tok rfl rfl rfl rfl (by first | with_reducible assumption | (simp (disch := (first | omega | (refine id ?_; simp only [za, zb, zc]; done) | (simp only [za, zb, zc]; omega))) only [z1, z2, z3, z4, z5, z6, z7, z8, ne_eq, *]; done) | (simp (disch := (first | omega | (refine id ?_; simp only [za, zb, zc]; done) | (simp only [za, zb, zc]; omega))) only [z1, z2, z3, z4, z5, z6, z7, z8, ne_eq, *]; exact rfl)) rfl (by first | with_reducible assumption | exact rfl) | exact AStepD.load_one_ip tok rfl rfl rfl rfl rfl (by first | with_reducible assumption | exact rfl)) ?_
  refine AL.step rfl rfl rfl (by exact AStepD.move' rfl (by (conv => lhs; whnf); all_goals exact rfl)) ?_
  refine AL.step rfl rfl rfl (by exact AStepD.move' rfl (by (conv => lhs; whnf); all_goals exact rfl)) ?_
  refine AL.step rfl rfl rfl (by first | exact AStepD.add rfl rfl rfl (by first | exact IntWalk.i64_in _ (by omega) | exact rfl) | exact AStepD.str_add rfl rfl rfl (by omega)) ?_
  refine AL.step0 rfl rfl (by exact AStepD.mapUpdate tok rfl rfl rfl (by (conv => lhs; whnf); all_goals exact rfl) rfl rfl rfl rfl (by first | with_reducible assumption | (simp (disch := (first | omega | (refine id ?_; simp only [za, zb, zc]; done) | (simp only [za, zb, zc]; omega))) only [z1, z2, z3, z4, z5, z6, z7, z8, ne_eq, *]; done) | (simp (disch := (first | omega | (refine id ?_; simp only [za, zb, zc]; done) | (simp only [za, zb, zc]; omega))) only [z1, z2, z3, z4, z5, z6, z7, z8, ne_eq, *]; exact rfl)) (putI_bans _ _ _)) ?_
  refine AL.nil_then (hK _ _ ?_); clear hK K
  refine AW.seq_region (fun K hK => ?_)
  refine AL.step rfl rfl rfl (by exact AStepD.assign' rfl (by (conv => lhs; whnf); all_goals exact rfl)) ?_
  refine AL.nil_then (hK _ _ ?_); clear hK K
  refine AW.ret (RetQ.mk (.inr rfl) (retA_tmp rfl (by (conv => lhs; whnf); all_goals exact rfl) retA_nil) ⟨by rw [he]; rfl, ?_, ?_, ?_, .inl rfl⟩)
  · rw [if_pos he]
    refine ⟨_, (by first | with_reducible assumption | (simp (disch := (first | omega | (refine id ?_; simp only [za, zb, zc]; done) | (simp only [za, zb, zc]; omega))) only [z1, z2, z3, z4, z5, z6, z7, z8, ne_eq, *]; done) | (simp (disch := (first | omega | (refine id ?_; simp only [za, zb, zc]; done) | (simp only [za, zb, zc]; omega))) only [z1, z2, z3, z4, z5, z6, z7, z8, ne_eq, *]; exact rfl)), MemsAt.mk (cs := (flat r.ms).take (pos r.ms w * 5) ++ (flat r.ms).drop ((pos r.ms w + 1) * 5)) ?_ hout ?_, (by first | with_reducible assumption | (simp (disch := (first | omega | (refine id ?_; simp only [za, zb, zc]; done) | (simp only [za, zb, zc]; omega))) only [z1, z2, z3, z4, z5, z6, z7, z8, ne_eq, *]; done) | (simp (disch := (first | omega | (refine id ?_; simp only [za, zb, zc]; done) | (simp only [za, zb, zc]; omega))) only [z1, z2, z3, z4, z5, z6, z7, z8, ne_eq, *]; exact rfl))⟩
    · exact (by first | with_reducible assumption | (simp (disch := (first | omega | (refine id ?_; simp only [za, zb, zc]; done) | (simp only [za, zb, zc]; omega))) only [z1, z2, z3, z4, z5, z6, z7, z8, ne_eq, *]; done) | (simp (disch := (first | omega | (refine id ?_; simp only [za, zb, zc]; done) | (simp only [za, zb, zc]; omega))) only [z1, z2, z3, z4, z5, z6, z7, z8, ne_eq, *]; exact rfl))
    · simp [forR]; omega
  · exact (by (try simp only [za, zb, zc, ne_eq]); omega)
  · intro q h1 h2 h3 h4
    exact (by simp (disch := (first | omega | (refine id ?_; simp only [za, zb, zc]; done) | (simp only [za, zb, zc]; omega))) only [z1, z2, z3, z4, z5, z6, z7, z8, ne_eq])
end Go.Proofs.Ytjiifddmcmbbnaa
