/- The walks of the ranks' iterator. -/
import Derived.Test.YtmjookofajlcoaaT
namespace Go.Proofs.Ytmjookofajlcoaa
open Go.Ax
open Cel (c)
theorem qA1 {p : Prop} (h : p := by (conv => lhs; whnf); all_goals exact rfl) : p := h
theorem qA2 {p : Prop} (h : p := by first | with_reducible assumption | exact Cel.one _ | exact flat_ones _ | exact ones_nil | (simp only [List.forall_mem_cons, List.not_mem_nil, false_implies, implies_true, and_true, one_v, one_ptr, one_ip, one_sl, one_slc, one_vec, one_map, one_func, one_iface, Value.oneCell', *]; done) | (simp [AV.one, Value.oneCell', *]; done)) : p := h
theorem qA3 {p : Prop} (h : p := by first | omega | (simp only [za, zb, zc, zd]; omega)) : p := h
theorem qA4 {p : Prop} (h : p := by first | with_reducible assumption | exact rfl) : p := h
theorem qA5 {p : Prop} (h : p := by (conv => lhs; whnf); all_goals first | exact rfl | (simp; done) | (simp; omega)) : p := h
theorem qA6 {p : Prop} (h : p := by first | exact rfl | exact (Int.toNat_of_nonneg (by omega)).symm) : p := h
theorem qA7 {p : Prop} (h : p := by first | omega | (simp; done) | (simp; omega) | (simp only [over, List.length_append, List.length_take, List.length_drop, *]; omega) | (simp_all; done) | (simp_all; omega)) : p := h
theorem qA8 {p : Prop} (h : p := by first | (simp only [Nat.zero_add, Nat.zero_mul, Nat.sub_zero, Nat.add_zero]; exact rfl) | exact rfl) : p := h
theorem qA9 {p : Prop} (h : p := by first | exact Nat.le_of_ble_eq_true rfl | (simp; done) | (simp; omega) | (simp_all; omega)) : p := h
theorem qA10 {p : Prop} (h : p := by first | with_reducible assumption | (simp only [List.take_succ_cons, List.take_zero, List.drop_succ_cons, List.drop_zero]; exact rfl) | exact rfl) : p := h
theorem qA11 {p : Prop} (h : p := by first | ((with_reducible refine over_all ?_); exact rfl) | (simp only [over, List.take_succ_cons, List.take_zero, List.drop_succ_cons, List.drop_zero, List.length_cons, List.length_nil, List.nil_append, List.cons_append, Nat.reduceAdd, Nat.zero_add, List.drop_nil, List.append_nil]; exact rfl) | conv => lhs; whnf) : p := h
theorem qA12 {p : Prop} (h : p := by (try simp only [za, zb, zc, zd, ne_eq]); omega) : p := h
theorem qA13 {p : Prop} (h : p := by exact AStepD.assign' rfl qA1) : p := h
theorem qA14 {p : Prop} (h : p := by first | with_reducible assumption | (simp (disch := (first | omega | (exact Lst.lab_ne (by with_reducible assumption) qA3) | (exact Lst.lab_new (by with_reducible assumption) qA3) | (refine id ?_; simp only [za, zb, zc, zd]; done) | (simp only [za, zb, zc, zd]; omega))) only [z1, z2, z3, z4, z5, z6, z7, z8, z9, ne_eq, *]; done) | (simp (disch := (first | omega | (exact Lst.lab_ne (by with_reducible assumption) qA3) | (exact Lst.lab_new (by with_reducible assumption) qA3) | (refine id ?_; simp only [za, zb, zc, zd]; done) | (simp only [za, zb, zc, zd]; omega))) only [z1, z2, z3, z4, z5, z6, z7, z8, z9, ne_eq, *]; exact rfl)) : p := h
theorem qA15 {p : Prop} (h : p := by first | exact AStepD.len_str tok rfl rfl rfl rfl | exact AStepD.len_sl tok rfl qA1 (by first | exact IsSl.vec | exact IsSl.sl | exact IsSl.slc | exact IsSl.nil | with_reducible assumption) rfl rfl | exact AStepD.len_arr tok rfl rfl rfl) : p := h
theorem qA16 {p : Prop} (h : p := by exact AStepD.move' rfl qA1) : p := h
theorem qA17 {p : Prop} (h : p := by repeat' (first | exact SubT.nil _ | refine SubT.cons_eq qA5 ?_)) : p := h
theorem qA18 {p : Prop} (h : p := by first | exact AStepD.indexAddr_flat tok rfl rfl rfl rfl rfl rfl rfl (show _ = 2 from rfl) rfl qA6 qA7 | exact AStepD.indexAddr_vec' tok rfl rfl rfl rfl rfl rfl (show _ = 2 from rfl) qA6 qA7 | exact AStepD.indexAddr_sl' tok rfl rfl rfl rfl rfl rfl (show _ = 2 from rfl) qA6 qA7 qA8 | exact AStepD.indexAddr_arr' tok rfl rfl rfl rfl rfl rfl (show _ = 2 from rfl) qA6 qA7 qA8) : p := h
theorem qA19 {p : Prop} (h : p := by simp (disch := (first | omega | (exact Lst.lab_ne (by with_reducible assumption) qA3) | (exact Lst.lab_new (by with_reducible assumption) qA3) | (refine id ?_; simp only [za, zb, zc, zd]; done) | (simp only [za, zb, zc, zd]; omega))) only [z1, z2, z3, z4, z5, z6, z7, z8, z9, ne_eq]) : p := h
theorem qA20 {p : Prop} (h : p := by first | exact AStepD.load_cel_ip tok rfl rfl rfl rfl (show _ = 2 from rfl) rfl | exact AStepD.load_agg tok rfl rfl rfl qA14 rfl (show _ = 2 from rfl) qA9 qA10 | exact AStepD.load_agg_ip tok rfl rfl rfl rfl (show _ = 2 from rfl) qA9 qA10) : p := h
set_option linter.unusedSimpArgs false
set_option linter.unusedVariables false

/-- A replica. -/
structure Rep where
  id : Int
  off : Int
instance : Cel Rep where
  n := 2
  c r := [.v (.int .i64 r.id), .v (.int .i64 r.off)]
  len _ := rfl
  one _ z h := by simp at h; rcases h with rfl | rfl <;> rfl
  pl _ z h := by simp at h; rcases h with rfl | rfl <;> exact .v _

theorem values_calls (H : AHeap) (l : List Rep) : ACalls Try.prog 19 [vecA l] H (fun r H' => r = .func (.func 27) [.ptr H.next 0] ∧ H' = H.new (.cells 22 [vecA l])) := by
  refine ACalls.of_body tok Try.func19 rfl Try.ntmps19 (Nat.le_of_ble_eq_true rfl) (fun base => ?_)
  refine AW.seq_region (fun K hK => ?_)
  refine AL.step rfl rfl rfl (by first | exact AStepD.box1 rfl qA1 (by first | exact rfl | with_reducible assumption | exact Lst.one (by assumption)) | exact AStepD.box rfl qA1 qA2) ?_
  refine AL.step rfl rfl rfl qA13 ?_
  refine AL.nil_then (hK _ _ ?_); clear hK K
  refine AW.seq_region (fun K hK => ?_)
  refine AL.step rfl rfl rfl (by first | exact AStepD.val (AStepD.makeFunc rfl) (congrArg (AV.func _) (amap_cons qA1 amap_nil)) | exact AStepD.makeFunc rfl) ?_
  refine AL.step rfl rfl rfl qA13 ?_
  refine AL.nil_then (hK _ _ ?_); clear hK K
  refine AW.ret (RetQ.mk (.inr rfl) (retA_tmp rfl qA1 retA_nil) ⟨rfl, rfl⟩)

theorem values_seq (H : AHeap) (l : List Rep) (X : Nat) (hX : H.get X = some (.cells 22 [vecA l])) (hXn : X < H.next) : ASeq Try.prog 27 [.ptr X 0] (l.map fun r => .agg (c r)) (fun q => q = X) H := by
  refine ⟨fun q hq => hq ▸ hXn, fun L J Jx H1 hL hpL hn hpr hJ hJx hY h0 => ?_⟩
  have hX1 : H1.get X = some (.cells 22 [vecA l]) := (hpr X rfl).trans hX
  have hlen : (l.map fun r => AV.agg (c r)).length = l.length := by simp
  rw [hlen]
  have hY' : ∀ i H3 (hi : i < l.length), J i H3 → H1.next ≤ H3.next → AYields Try.prog L (.agg (c l[i])) H3 fun r H' => Held (fun q => q = X) H3 H' ∧ ((r = .v (.bool true) ∧ J (i + 1) H') ∨ (r = .v (.bool false) ∧ Jx H')) := fun i H3 hi h1 h2 => by
    have := hY i H3 (by rw [hlen]; exact hi) h1 h2
    simpa using this
  refine ACalls.of_body tok Try.func27 rfl Try.ntmps27 (Nat.le_of_ble_eq_true rfl) (fun base => ?_)
  refine AW.seq_region (fun K hK => ?_)
  refine AL.step rfl rfl rfl (by first | exact AStepD.load_one tok rfl rfl rfl rfl qA14 rfl qA4 | exact AStepD.load_one_ip tok rfl rfl rfl rfl rfl qA4) ?_
  refine AL.step rfl rfl rfl qA15 ?_
  refine AL.step rfl rfl rfl qA16 ?_
  refine AL.nil_then (hK _ _ ?_); clear hK K
  refine AW.block ?_
  refine AW.loop_at (ι := Nat) (fun i => [(7, .v (.int .i64 (i : Nat))), (6, .v (.int .i64 (l.length : Nat))), (5, vecA l), (0, .yld L)])
    (fun i H' => i ≤ l.length ∧ J i H' ∧ H1.next ≤ H'.next) (fun i => l.length - i) 0 qA17 ⟨Nat.zero_le _, h0, Nat.le_refl _⟩ ?_
  rintro i H2 ⟨hi, hj, hn2⟩
  refine AW.len (s := 5) rfl .vec fun (hmax : _ ≤ 9223372036854775807) => ?_
  refine AW.seq_region (fun K hK => ?_)
  refine AL.step rfl rfl rfl (by exact AStepD.lss rfl rfl rfl) ?_
  refine AL.nil_then (hK _ _ ?_); clear hK K
  refine AW.seq_k (fun K1 hK1 => ?_)
  refine AW.cond _ rfl (fun hc => ?_) (fun hc => ?_)
  · have hc := of_decide_eq_true hc
    have hil : i < l.length := by omega
    refine AW.skip ?_
    refine hK1 _ _ ?_; clear hK1 K1
    refine AW.seq_k (fun K2 hK2 => ?_)
    refine AW.block ?_
    refine AW.seq_region (fun K hK => ?_)
    refine AL.step rfl rfl rfl qA18 ?_
    refine AL.step rfl rfl rfl qA20 ?_
    refine AL.step rfl rfl rfl (by exact AStepD.alloc tok rfl rfl) ?_
    refine AL.step0 rfl rfl (by exact AStepD.store' tok rfl rfl qA14 qA1 (by first | exact one_cells (by with_reducible assumption) | exact qA1) qA2 rfl qA1 rfl qA9 qA11) ?_
    refine AL.nil_then (hK _ _ ?_); clear hK K
    refine AW.seq_region (fun K hK => ?_)
    refine AL.step rfl rfl rfl qA16 ?_
    refine AL.step rfl rfl rfl qA20 ?_
    refine AL.call rfl rfl rfl (AStep.yield rfl rfl (hY' i _ hil (hJ _ _ _ hj ⟨fun q hq _ => qA19, qA12⟩) qA12)) ?_
    rintro _ H3 ⟨hheld, ⟨rfl, hj3⟩ | ⟨rfl, hj3⟩⟩
    · refine AL.step rfl rfl rfl (by first | exact AStepD.not rfl rfl | exact AStepD.neg rfl rfl (by first | exact IntWalk.i64_in _ (by omega) | exact IntWalk.i64_in _ (by simp only [Bool.or_eq_true, Bool.and_eq_true, Bool.or_eq_false_iff, Bool.and_eq_false_iff, Bool.not_eq_true', Bool.not_eq_false', decide_eq_true_eq, decide_eq_false_iff_not, Int.not_lt, Int.not_le, beq_iff_eq] at *; omega) | exact rfl)) ?_
      refine AL.nil_then (hK _ _ ?_); clear hK K
      refine AW.cond_false rfl rfl (AW.skip ?_)
      refine hK2 _ _ ?_; clear hK2 K2
      refine AW.region ?_
      refine AL.step rfl rfl rfl (by first | exact AStepD.add rfl rfl rfl (by first | exact IntWalk.i64_in _ (by omega) | exact IntWalk.i64_in _ (by simp only [Bool.or_eq_true, Bool.and_eq_true, Bool.or_eq_false_iff, Bool.and_eq_false_iff, Bool.not_eq_true', Bool.not_eq_false', decide_eq_true_eq, decide_eq_false_iff_not, Int.not_lt, Int.not_le, beq_iff_eq] at *; omega) | exact rfl) | exact AStepD.str_add rfl rfl rfl (by omega)) ?_
      refine AL.step rfl rfl rfl qA16 ?_
      refine AL.nil ?_
      refine ⟨i + 1, by omega, qA17, hil, hj3, Nat.le_trans hn2 (Nat.le_trans ?_ hheld.2)⟩
      exact qA12
    · refine AL.step rfl rfl rfl (by first | exact AStepD.not rfl rfl | exact AStepD.neg rfl rfl (by first | exact IntWalk.i64_in _ (by omega) | exact IntWalk.i64_in _ (by simp only [Bool.or_eq_true, Bool.and_eq_true, Bool.or_eq_false_iff, Bool.and_eq_false_iff, Bool.not_eq_true', Bool.not_eq_false', decide_eq_true_eq, decide_eq_false_iff_not, Int.not_lt, Int.not_le, beq_iff_eq] at *; omega) | exact rfl)) ?_
      refine AL.nil_then (hK _ _ ?_); clear hK K
      refine AW.cond_true rfl rfl ?_
      refine AW.ret (RetQ.mk (.inr rfl) retA_nil (.inr hj3))
  · have hc := of_decide_eq_false hc
    have hil : i = l.length := by omega
    subst hil
    refine AW.exit ?_
    exact RetQ.mk (.inl rfl) retA_nil (.inl hj)
end Go.Proofs.Ytmjookofajlcoaa
