/- The walks of the roster's anchor. -/
import Derived.Test.YtjiifddmcmbbnaaRE
namespace Go.Proofs.Ytjiifddmcmbbnaa
open Go.Ax
set_option linter.unusedSimpArgs false
set_option linter.unusedVariables false

theorem same_calls (H H0 : AHeap) (a b : List Int) (y : AV) (hy : Ints H0 H y b) (hl : a.length ≤ 1000000) :
    ACalls Try.prog 24 [.vec a.length (intsA a), y] H (fun v H' => v = .v (.bool (decide (a = b))) ∧ H' = H) := by
  have hysl := hy.isSl
  have hia := intsA_length a
  have hib := intsA_length b
  refine ACalls.of_body tok Try.func24 rfl Try.ntmps24 (Nat.le_of_ble_eq_true rfl) ?_
  refine AW.seq_region (fun K hK => ?_)
  refine AL.step rfl rfl rfl (by exact AStepD.assign' rfl (by (conv => lhs; whnf); all_goals exact rfl)) ?_
  refine AL.nil_then (hK _ _ ?_); clear hK K
  refine AW.seq_k (fun K hK => ?_)
  refine AW.seq_region (fun K hK => ?_)
  refine AL.step rfl rfl rfl (by exact AStepD.move' rfl (by (conv => lhs; whnf); all_goals exact rfl)) ?_
  refine AL.step rfl rfl rfl (by first | exact AStepD.len_str tok rfl rfl rfl rfl | exact AStepD.len_sl tok rfl (by (conv => lhs; whnf); all_goals exact rfl) (by first | exact IsSl.vec | exact IsSl.sl | exact IsSl.slc | exact IsSl.nil | with_reducible assumption) rfl rfl | exact AStepD.len_arr tok rfl rfl rfl) ?_
  refine AL.step rfl rfl rfl (by exact AStepD.move' rfl (by (conv => lhs; whnf); all_goals exact rfl)) ?_
  refine AL.step rfl rfl rfl (by first | exact AStepD.len_str tok rfl rfl rfl rfl | exact AStepD.len_sl tok rfl (by (conv => lhs; whnf); all_goals exact rfl) (by first | exact IsSl.vec | exact IsSl.sl | exact IsSl.slc | exact IsSl.nil | with_reducible assumption) rfl rfl | exact AStepD.len_arr tok rfl rfl rfl) ?_
  refine AL.step rfl rfl rfl (by first | exact AStepD.neq rfl rfl rfl | exact AStepD.str_neq rfl rfl rfl | exact (AStepD.ptr_nil tok (.inl ⟨_, _, rfl⟩) rfl rfl rfl).2 rfl | exact (AStepD.nil_nil tok rfl rfl rfl rfl).2 rfl | exact (AStepD.bool_eq tok rfl rfl rfl rfl).2 rfl | exact (AStepD.iface_nil tok rfl rfl rfl rfl).2 rfl | exact (AStepD.nilIface_nil tok rfl rfl rfl rfl).2 rfl) ?_
  refine AL.nil_then (hK _ _ ?_); clear hK K
  refine AW.cond _ rfl (fun hc => ?_) (fun hc => ?_)
  · have hne : a ≠ b := by rintro rfl; simp at hc
    refine AW.seq_region (fun K hK => ?_)
    refine AL.step rfl rfl rfl (by exact AStepD.assign' rfl (by (conv => lhs; whnf); all_goals exact rfl)) ?_
    refine AL.nil_then (hK _ _ ?_); clear hK K
    refine AW.ret (RetQ.mk (.inr rfl) (retA_tmp rfl (by (conv => lhs; whnf); all_goals exact rfl) retA_nil) ⟨?_, rfl⟩)
    rw [decide_eq_false hne]; rfl
  · refine AW.skip (hK _ _ ?_); clear hK K
    have hlen : a.length = b.length := by have := of_decide_eq_false hc; omega
    refine AW.seq_k (fun K hK => ?_)
    refine AW.seq_region (fun K hK => ?_)
    refine AL.step rfl rfl rfl (by exact AStepD.move' rfl (by (conv => lhs; whnf); all_goals exact rfl)) ?_
    refine AL.step rfl rfl rfl (by first | exact AStepD.len_str tok rfl rfl rfl rfl | exact AStepD.len_sl tok rfl (by (conv => lhs; whnf); all_goals exact rfl) (by first | exact IsSl.vec | exact IsSl.sl | exact IsSl.slc | exact IsSl.nil | with_reducible assumption) rfl rfl | exact AStepD.len_arr tok rfl rfl rfl) ?_
    refine AL.step rfl rfl rfl (by exact AStepD.move' rfl (by (conv => lhs; whnf); all_goals exact rfl)) ?_
    refine AL.nil_then (hK _ _ ?_); clear hK K
    refine AW.block ?_
    refine AW.loop_at (ι := Nat) (fun x => [(14, .v (.int .i64 x)), (13, .v (.int .i64 a.length)), (12, .vec a.length (intsA a)), (1, y)])
      (fun x H' => x ≤ a.length ∧ a.take x = b.take x ∧ H' = H) (fun x => a.length - x) 0 (by repeat' (first | exact SubT.nil _ | refine SubT.cons_eq (by (conv => lhs; whnf); all_goals first | exact rfl | (simp; done) | (simp; omega)) ?_)) ⟨Nat.zero_le _, rfl, rfl⟩ ?_
    rintro i H1 ⟨hi, hab, rfl⟩
    refine AW.seq_region (fun K hK => ?_)
    refine AL.step rfl rfl rfl (by exact AStepD.lss rfl rfl rfl) ?_
    refine AL.nil_then (hK _ _ ?_); clear hK K
    refine AW.seq_k (fun K1 hK1 => ?_)
    refine AW.cond _ rfl (fun hc2 => ?_) (fun hc2 => ?_)
    · refine AW.skip (hK1 _ _ ?_); clear hK1 K1
      have hil : i < a.length := by have := of_decide_eq_true hc2; omega
      obtain ⟨D, rfl, _, hD⟩ := hy.at (i := i) (by omega)
      have hav : ((intsA a).drop (i * 1))[0]? = some (.v (.int .i64 a[i])) := by rw [Nat.mul_one, List.getElem?_drop, Nat.add_zero]; exact intsA_at a i hil
      have hbv : (intsA b)[i * 1]? = some (.v (.int .i64 (b[i]'(by omega)))) := by rw [Nat.mul_one]; exact intsA_at b i (by omega)
      refine AW.seq_k (fun K1 hK1 => ?_)
      refine AW.block ?_
      refine AW.seq_region (fun K hK => ?_)
      refine AL.step rfl rfl rfl (by exact AStepD.move' rfl (by (conv => lhs; whnf); all_goals exact rfl)) ?_
      refine AL.step rfl rfl rfl (by first | exact AStepD.indexAddr_vec' tok rfl rfl rfl rfl rfl rfl (show _ = 1 from rfl) (by first | exact rfl | exact (Int.toNat_of_nonneg (by omega)).symm) (by first | omega | (simp; done) | (simp; omega) | (simp only [over, List.length_append, List.length_take, List.length_drop, *]; omega) | (simp_all; done) | (simp_all; omega)) | exact AStepD.indexAddr_sl' tok rfl rfl rfl rfl rfl rfl (show _ = 1 from rfl) (by first | exact rfl | exact (Int.toNat_of_nonneg (by omega)).symm) (by first | omega | (simp; done) | (simp; omega) | (simp only [over, List.length_append, List.length_take, List.length_drop, *]; omega) | (simp_all; done) | (simp_all; omega)) (by first | (simp only [Nat.zero_add, Nat.zero_mul, Nat.sub_zero, Nat.add_zero]; exact rfl) | exact rfl) | exact AStepD.indexAddr_arr' tok rfl rfl rfl rfl rfl rfl (show _ = 1 from rfl) (by first | exact rfl | exact (Int.toNat_of_nonneg (by omega)).symm) (by first | omega | (simp; done) | (simp; omega) | (simp only [over, List.length_append, List.length_take, List.length_drop, *]; omega) | (simp_all; done) | (simp_all; omega)) (by first | (simp only [Nat.zero_add, Nat.zero_mul, Nat.sub_zero, Nat.add_zero]; exact rfl) | exact rfl)) ?_
      refine AL.step rfl rfl rfl (by first | exact AStepD.load_one tok rfl rfl rfl rfl (by first | with_reducible assumption | (simp (disch := (first | omega | (refine id ?_; simp only [za, zb, zc]; done) | (simp only [za, zb, zc]; omega))) only [z1, z2, z3, z4, z5, z6, z7, z8, ne_eq, *]; done) | (simp (disch := (first | omega | (refine id ?_; simp only [za, zb, zc]; done) | (simp only [za, zb, zc]; omega))) only [z1, z2, z3, z4, z5, z6, z7, z8, ne_eq, *]; exact rfl)) rfl (by first | with_reducible assumption | exact rfl) | exact AStepD.load_one_ip tok rfl rfl rfl rfl rfl (by first | with_reducible assumption | exact rfl)) ?_
      refine AL.step rfl rfl rfl (by exact AStepD.assign' rfl (by (conv => lhs; whnf); all_goals exact rfl)) ?_
      refine AL.step rfl rfl rfl (by exact AStepD.assign' rfl (by (conv => lhs; whnf); all_goals exact rfl)) ?_
      refine AL.nil_then (hK _ _ ?_); clear hK K
      refine AW.seq_region (fun K hK => ?_)
      refine AL.step rfl rfl rfl (by exact AStepD.move' rfl (by (conv => lhs; whnf); all_goals exact rfl)) ?_
      refine AL.step rfl rfl rfl (by exact AStepD.move' rfl (by (conv => lhs; whnf); all_goals exact rfl)) ?_
      refine AL.step rfl rfl rfl (by exact AStepD.move' rfl (by (conv => lhs; whnf); all_goals exact rfl)) ?_
      refine AL.step rfl rfl rfl (by first | exact AStepD.indexAddr_vec' tok rfl rfl rfl rfl rfl rfl (show _ = 1 from rfl) (by first | exact rfl | exact (Int.toNat_of_nonneg (by omega)).symm) (by first | omega | (simp; done) | (simp; omega) | (simp only [over, List.length_append, List.length_take, List.length_drop, *]; omega) | (simp_all; done) | (simp_all; omega)) | exact AStepD.indexAddr_sl' tok rfl rfl rfl rfl rfl rfl (show _ = 1 from rfl) (by first | exact rfl | exact (Int.toNat_of_nonneg (by omega)).symm) (by first | omega | (simp; done) | (simp; omega) | (simp only [over, List.length_append, List.length_take, List.length_drop, *]; omega) | (simp_all; done) | (simp_all; omega)) (by first | (simp only [Nat.zero_add, Nat.zero_mul, Nat.sub_zero, Nat.add_zero]; exact rfl) | exact rfl) | exact AStepD.indexAddr_arr' tok rfl rfl rfl rfl rfl rfl (show _ = 1 from rfl) (by first | exact rfl | exact (Int.toNat_of_nonneg (by omega)).symm) (by first | omega | (simp; done) | (simp; omega) | (simp only [over, List.length_append, List.length_take, List.length_drop, *]; omega) | (simp_all; done) | (simp_all; omega)) (by first | (simp only [Nat.zero_add, Nat.zero_mul, Nat.sub_zero, Nat.add_zero]; exact rfl) | exact rfl)) ?_
      refine AL.step rfl rfl rfl (by first | exact AStepD.load_one tok rfl rfl rfl rfl (by first | with_reducible assumption | (simp (disch := (first | omega | (refine id ?_; simp only [za, zb, zc]; done) | (simp only [za, zb, zc]; omega))) only [z1, z2, z3, z4, z5, z6, z7, z8, ne_eq, *]; done) | (simp (disch := (first | omega | (refine id ?_; simp only [za, zb, zc]; done) | (simp only [za, zb, zc]; omega))) only [z1, z2, z3, z4, z5, z6, z7, z8, ne_eq, *]; exact rfl)) rfl (by first | with_reducible assumption | exact rfl) | exact AStepD.load_one_ip tok rfl rfl rfl rfl rfl (by first | with_reducible assumption | exact rfl)) ?_
      refine AL.step rfl rfl rfl (by first | exact AStepD.neq rfl rfl rfl | exact AStepD.str_neq rfl rfl rfl | exact (AStepD.ptr_nil tok (.inl ⟨_, _, rfl⟩) rfl rfl rfl).2 rfl | exact (AStepD.nil_nil tok rfl rfl rfl rfl).2 rfl | exact (AStepD.bool_eq tok rfl rfl rfl rfl).2 rfl | exact (AStepD.iface_nil tok rfl rfl rfl rfl).2 rfl | exact (AStepD.nilIface_nil tok rfl rfl rfl rfl).2 rfl) ?_
      refine AL.nil_then (hK _ _ ?_); clear hK K
      refine AW.cond _ rfl (fun hc3 => ?_) (fun hc3 => ?_)
      · have hne : a ≠ b := by rintro rfl; simp at hc3
        refine AW.seq_region (fun K hK => ?_)
        refine AL.step rfl rfl rfl (by exact AStepD.assign' rfl (by (conv => lhs; whnf); all_goals exact rfl)) ?_
        refine AL.nil_then (hK _ _ ?_); clear hK K
        refine AW.ret (RetQ.mk (.inr rfl) (retA_tmp rfl (by (conv => lhs; whnf); all_goals exact rfl) retA_nil) ⟨?_, rfl⟩)
        rw [decide_eq_false hne]; rfl
      · have he : a[i] = b[i]'(by omega) := by have := of_decide_eq_false hc3; omega
        refine AW.skip ?_
        refine hK1 _ _ ?_; clear hK1 K1
        refine AW.region ?_
        refine AL.step rfl rfl rfl (by first | exact AStepD.add rfl rfl rfl (by first | exact IntWalk.i64_in _ (by omega) | exact rfl) | exact AStepD.str_add rfl rfl rfl (by omega)) ?_
        refine AL.step rfl rfl rfl (by exact AStepD.move' rfl (by (conv => lhs; whnf); all_goals exact rfl)) ?_
        refine AL.nil ?_
        refine ⟨i + 1, ?_, (by repeat' (first | exact SubT.nil _ | refine SubT.cons_eq (by (conv => lhs; whnf); all_goals first | exact rfl | (simp; done) | (simp; omega)) ?_)), hil, ?_, rfl⟩
        · show a.length - (i + 1) < a.length - i
          omega
        · rw [take_next a i hil, take_next b i (by omega), hab, he]
    · refine AW.exit ?_
      refine hK _ _ ?_; clear hK1 K1 hK K
      have hil : i = a.length := by have := of_decide_eq_false hc2; omega
      have he : a = b := by
        rw [hil, List.take_length, hlen, List.take_length] at hab
        exact hab
      refine AW.seq_region (fun K hK => ?_)
      refine AL.step rfl rfl rfl (by exact AStepD.assign' rfl (by (conv => lhs; whnf); all_goals exact rfl)) ?_
      refine AL.nil_then (hK _ _ ?_); clear hK K
      refine AW.ret (RetQ.mk (.inr rfl) (retA_tmp rfl (by (conv => lhs; whnf); all_goals exact rfl) retA_nil) ⟨?_, rfl⟩)
      rw [decide_eq_true he]; rfl

theorem same_ok (H H0 : AHeap) (a : List Int) (y : AV) (hy : Ints H0 H y a) (hl : a.length ≤ 1000000) :
    ACalls Try.prog 24 [.vec a.length (intsA a), y] H (fun v H' => v = .v (.bool true) ∧ H' = H) := by
  have := same_calls H H0 a a y hy hl
  simpa using this
theorem has_false {ms : List Mem} {w : Int} (h : has ms w = false) : ∀ m ∈ ms, m.i ≠ w := by
  intro m hm e
  have : has ms w = true := by
    simp only [has, List.any_eq_true, decide_eq_true_eq]
    exact ⟨m, hm, e⟩
  rw [h] at this; cases this
theorem Sorted.add {ms : List Mem} {w : Int} {m : Mem} (h : Sorted ms) (hn : has ms w = false) (hm : m.i = w) : Sorted (ms.take (pos ms w) ++ m :: ms.drop (pos ms w)) := by
  have hgt : ∀ a ∈ ms.drop (pos ms w), w < a.i := by
    intro a ha
    have hne := has_false hn a (List.mem_of_mem_drop ha)
    obtain ⟨i, hi, rfl⟩ := List.mem_iff_getElem.1 ha
    rw [List.getElem_drop] at hne ⊢
    rw [List.length_drop] at hi
    have h0 := pos_ge ms w (by omega)
    by_cases e : i = 0
    · subst e
      simp only [Nat.add_zero] at hne ⊢
      omega
    · have := h.lt (a := pos ms w) (b := pos ms w + i) (by omega) (by omega)
      omega
  have hlt : ∀ a ∈ ms.take (pos ms w), a.i < w := by
    intro a ha
    obtain ⟨i, hi, rfl⟩ := List.mem_iff_getElem.1 ha
    rw [List.length_take] at hi
    rw [List.getElem_take]
    exact pos_lt ms w i (by omega) (by omega)
  rw [Sorted, List.pairwise_append]
  refine ⟨h.sublist (List.take_sublist _ _), List.pairwise_cons.2 ⟨fun a ha => by rw [hm]; exact hgt a ha, h.sublist (List.drop_sublist _ _)⟩, fun a ha b hb => ?_⟩
  rcases List.mem_cons.1 hb with rfl | hb
  · rw [hm]; exact hlt a ha
  · have := hlt a ha
    have := hgt b hb
    omega
theorem addE_zero {r : Ros} {w t : Int} (h : addE r w t = 0) : asked r.self w t = 0 ∧ has r.ms w = false ∧ banned r.bs w t = false ∧ r.ms.length ≠ 15 := by
  unfold addE at h
  split at h
  · contradiction
  · rename_i h1
    split at h
    · cases h
    · rename_i h2
      split at h
      · cases h
      · rename_i h3
        split at h
        · cases h
        · rename_i h4
          exact ⟨by omega, by simpa using h2, by simpa using h3, h4⟩
/-- What holds of every roster. -/
def Inv (r : Ros) : Prop := Sorted r.ms ∧ r.ms.length ≤ 15
theorem addR_length (r : Ros) (w : Int) : (addR r w).ms.length = r.ms.length + 1 := by
  have := pos_le r.ms w
  simp [addR]; omega
theorem Inv.add {r : Ros} {w t : Int} (h : Inv r) (he : addE r w t = 0) : Inv (addR r w) := by
  obtain ⟨_, h2, _, h4⟩ := addE_zero he
  have := h.2
  exact ⟨h.1.add h2 rfl, by rw [addR_length]; omega⟩
theorem Inv.new (a : Int) : Inv ⟨a, [], [], 0⟩ := ⟨List.Pairwise.nil, Nat.zero_le _⟩

theorem Only.keep {H0 H H' : AHeap} {n L B L' : Nat} (ho : Only H H' n L B L') (hk : Keep H0 H) (hn : H0.next ≤ n) (hL : H0.next ≤ L) (hB : H0.next ≤ B) : Keep H0 H' ∧ H0.next ≤ L' := by
  obtain ⟨h1, h2, h3⟩ := ho
  have := hk.1
  refine ⟨⟨by omega, fun l hl => (h2 l (by omega) (by omega) (by omega) (by omega)).trans (hk.2 l hl)⟩, by omega⟩

theorem add_ok (H : AHeap) (n L B : Nat) (r : Ros) (w t : Int) (hR : RosAt H n L B r) (hi : Inv r) (he : addE r w t = 0) :
    ACalls Try.prog 13 [.ptr n 0, .v (.int .i64 w), .v (.int .i64 t)] H (fun v H' => ∃ L', v = .v (.int .i64 0) ∧ RosAt H' n L' B (addR r w) ∧ Only H H' n L B L') := by
  have := add_calls H n L B r w t hR hi.1 hi.2
  simpa only [he, if_true] using this
theorem next_ok (H : AHeap) (n L B : Nat) (r : Ros) (k w : Int) (m : Nat) (l : List Int) (hR : RosAt H n L B r) (hi : Inv r) (hcur : r.cur ≤ 1000000000000) (hm : many k (allBut r.ms w).length = m) (ht : turn (allBut r.ms w) r.cur m = l) :
    ACalls Try.prog 14 [.ptr n 0, .v (.int .i64 k), .v (.int .i64 w)] H (fun v H' => v = .vec l.length (intsA l) ∧ RosAt H' n L B { r with cur := r.cur + m } ∧ Only H H' n L B L) := by
  have h15 := hi.2
  have := next_calls H n L B r k w hR (by omega) hcur
  rw [hm, ht] at this
  have hl : l.length = m := by rw [← ht, turn_length]
  rw [hl]
  exact this
theorem anchor_calls (H : AHeap) : ACalls Try.prog 10 [] H (fun v H' => v = .v (.bool true) ∧ H' = H) := by
  refine ACalls.quiet_keep ?_ (.v _)
  have e0 : addE ⟨5, [], [], 0⟩ 7 0 = 0 := by decide
  have i0 := Inv.add (Inv.new 5) e0
  have e1 : addE (addR ⟨5, [], [], 0⟩ 7) 3 0 = 0 := by decide
  have i1 := i0.add e1
  have e2 : addE (addR (addR ⟨5, [], [], 0⟩ 7) 3) 9 0 = 0 := by decide
  have i2 := i1.add e2
  refine ACalls.of_body tok Try.func10 rfl Try.ntmps10 (Nat.le_of_ble_eq_true rfl) ?_
  refine AW.seq_region (fun K hK => ?_)
  refine AL.step rfl rfl rfl (by exact AStepD.assign' rfl (by (conv => lhs; whnf); all_goals exact rfl)) ?_
  refine AL.nil_then (hK _ _ ?_); clear hK K
  refine AW.seq_region (fun K hK => ?_)
  refine AL.call rfl rfl rfl (AStep.callf' rfl en11 rfl (new_ok _ 5 rfl)) ?_; rintro _ H1 ⟨rfl, hR1, hk1, hx1⟩
  refine AL.step rfl rfl rfl (by exact AStepD.move' rfl (by (conv => lhs; whnf); all_goals exact rfl)) ?_
  refine AL.step rfl rfl rfl (by exact AStepD.extract rfl rfl rfl) ?_
  refine AL.step rfl rfl rfl (by exact AStepD.extract rfl rfl rfl) ?_
  refine AL.step rfl rfl rfl (by exact AStepD.assign' rfl (by (conv => lhs; whnf); all_goals exact rfl)) ?_
  refine AL.step rfl rfl rfl (by exact AStepD.assign' rfl (by (conv => lhs; whnf); all_goals exact rfl)) ?_
  refine AL.nil_then (hK _ _ ?_); clear hK K
  refine AW.seq_k (fun K hK => ?_)
  have hK1 : Keep H H1 := hk1
  refine AW.seq_region (fun K hK => ?_)
  refine AL.step rfl rfl rfl (by exact AStepD.move' rfl (by (conv => lhs; whnf); all_goals exact rfl)) ?_
  refine AL.step rfl rfl rfl (by first | exact AStepD.neq rfl rfl rfl | exact AStepD.str_neq rfl rfl rfl | exact (AStepD.ptr_nil tok (.inl ⟨_, _, rfl⟩) rfl rfl rfl).2 rfl | exact (AStepD.nil_nil tok rfl rfl rfl rfl).2 rfl | exact (AStepD.bool_eq tok rfl rfl rfl rfl).2 rfl | exact (AStepD.iface_nil tok rfl rfl rfl rfl).2 rfl | exact (AStepD.nilIface_nil tok rfl rfl rfl rfl).2 rfl) ?_
  refine AL.step rfl rfl rfl (by exact AStepD.move' rfl (by (conv => lhs; whnf); all_goals exact rfl)) ?_
  first | refine AL.gstep rfl rfl rfl rfl rfl rfl rfl (by exact AStepD.move' rfl (by (conv => lhs; whnf); all_goals exact rfl)) ?_ | refine AL.gskip rfl rfl rfl rfl rfl rfl rfl ?_ | refine AL.gnone rfl rfl rfl rfl rfl ?_ | refine AL.gmay rfl rfl rfl rfl rfl rfl (fun hb => by (try (apply AStepD.uncond 1 rfl (by first | exact guard_true hb | (rw [hb]; done) | (rw [hb]; rfl) | simp [hb]))); (exact AStepD.move' rfl (by (conv => lhs; whnf); all_goals exact rfl))) ?_
  first | refine AL.gstep rfl rfl rfl rfl rfl rfl rfl (by first | exact AStepD.eql rfl rfl rfl | exact AStepD.str_eql rfl rfl rfl | exact (AStepD.ptr_nil tok (.inl ⟨_, _, rfl⟩) rfl rfl rfl).1 rfl | exact (AStepD.nil_nil tok rfl rfl rfl rfl).1 rfl | exact (AStepD.bool_eq tok rfl rfl rfl rfl).1 rfl | exact (AStepD.iface_nil tok rfl rfl rfl rfl).1 rfl | exact (AStepD.nilIface_nil tok rfl rfl rfl rfl).1 rfl) ?_ | refine AL.gskip rfl rfl rfl rfl rfl rfl rfl ?_ | refine AL.gnone rfl rfl rfl rfl rfl ?_ | refine AL.gmay rfl rfl rfl rfl rfl rfl (fun hb => by (try (apply AStepD.uncond 10 rfl (by first | exact guard_true hb | (rw [hb]; done) | (rw [hb]; rfl) | simp [hb]))); (first | exact AStepD.eql rfl rfl rfl | exact AStepD.str_eql rfl rfl rfl | exact (AStepD.ptr_nil tok (.inl ⟨_, _, rfl⟩) rfl rfl rfl).1 rfl | exact (AStepD.nil_nil tok rfl rfl rfl rfl).1 rfl | exact (AStepD.bool_eq tok rfl rfl rfl rfl).1 rfl | exact (AStepD.iface_nil tok rfl rfl rfl rfl).1 rfl | exact (AStepD.nilIface_nil tok rfl rfl rfl rfl).1 rfl)) ?_
  refine AL.step rfl rfl rfl (by first | exact AStepD.pick_true' rfl rfl (by (conv => lhs; whnf); all_goals exact rfl) | exact AStepD.pick_false' rfl rfl (by (conv => lhs; whnf); all_goals exact rfl) | exact AStepD.and rfl _ _ _ rfl rfl (by intro h; first | exact guard_true h | (rw [h]; done) | (rw [h]; rfl) | (simp [h]; done) | (simp_all; done)) rfl | exact AStepD.and' rfl _ _ rfl rfl rfl | exact AStepD.or rfl _ _ _ rfl rfl rfl (by intro h; first | exact guard_true h | (rw [h]; done) | (rw [h]; rfl) | (simp [h]; done) | (simp_all; done)) | exact AStepD.or' rfl _ _ rfl rfl rfl) ?_
  refine AL.step rfl rfl rfl (by exact AStepD.move' rfl (by (conv => lhs; whnf); all_goals exact rfl)) ?_
  first | refine AL.gstep rfl rfl rfl rfl rfl rfl rfl (by exact AStepD.move' rfl (by (conv => lhs; whnf); all_goals exact rfl)) ?_ | refine AL.gskip rfl rfl rfl rfl rfl rfl rfl ?_ | refine AL.gnone rfl rfl rfl rfl rfl ?_ | refine AL.gmay rfl rfl rfl rfl rfl rfl (fun hb => by (try (apply AStepD.uncond 1 rfl (by first | exact guard_true hb | (rw [hb]; done) | (rw [hb]; rfl) | simp [hb]))); (exact AStepD.move' rfl (by (conv => lhs; whnf); all_goals exact rfl))) ?_
  refine AL.gcall rfl rfl rfl rfl rfl rfl rfl (AStep.callf' rfl en13 rfl (add_ok _ _ _ _ _ 7 0 hR1 (Inv.new 5) e0)) ?_; rintro _ H2 ⟨L2, rfl, hR2, hO2⟩; obtain ⟨hK2, hL2⟩ := hO2.keep hK1 (by omega) (by omega) (by omega)
  first | refine AL.gstep rfl rfl rfl rfl rfl rfl rfl (by first | exact AStepD.neq rfl rfl rfl | exact AStepD.str_neq rfl rfl rfl | exact (AStepD.ptr_nil tok (.inl ⟨_, _, rfl⟩) rfl rfl rfl).2 rfl | exact (AStepD.nil_nil tok rfl rfl rfl rfl).2 rfl | exact (AStepD.bool_eq tok rfl rfl rfl rfl).2 rfl | exact (AStepD.iface_nil tok rfl rfl rfl rfl).2 rfl | exact (AStepD.nilIface_nil tok rfl rfl rfl rfl).2 rfl) ?_ | refine AL.gskip rfl rfl rfl rfl rfl rfl rfl ?_ | refine AL.gnone rfl rfl rfl rfl rfl ?_ | refine AL.gmay rfl rfl rfl rfl rfl rfl (fun hb => by (try (apply AStepD.uncond 15 rfl (by first | exact guard_true hb | (rw [hb]; done) | (rw [hb]; rfl) | simp [hb]))); (first | exact AStepD.neq rfl rfl rfl | exact AStepD.str_neq rfl rfl rfl | exact (AStepD.ptr_nil tok (.inl ⟨_, _, rfl⟩) rfl rfl rfl).2 rfl | exact (AStepD.nil_nil tok rfl rfl rfl rfl).2 rfl | exact (AStepD.bool_eq tok rfl rfl rfl rfl).2 rfl | exact (AStepD.iface_nil tok rfl rfl rfl rfl).2 rfl | exact (AStepD.nilIface_nil tok rfl rfl rfl rfl).2 rfl)) ?_
  refine AL.step rfl rfl rfl (by first | exact AStepD.pick_true' rfl rfl (by (conv => lhs; whnf); all_goals exact rfl) | exact AStepD.pick_false' rfl rfl (by (conv => lhs; whnf); all_goals exact rfl) | exact AStepD.and rfl _ _ _ rfl rfl (by intro h; first | exact guard_true h | (rw [h]; done) | (rw [h]; rfl) | (simp [h]; done) | (simp_all; done)) rfl | exact AStepD.and' rfl _ _ rfl rfl rfl | exact AStepD.or rfl _ _ _ rfl rfl rfl (by intro h; first | exact guard_true h | (rw [h]; done) | (rw [h]; rfl) | (simp [h]; done) | (simp_all; done)) | exact AStepD.or' rfl _ _ rfl rfl rfl) ?_
  refine AL.step rfl rfl rfl (by exact AStepD.move' rfl (by (conv => lhs; whnf); all_goals exact rfl)) ?_
  first | refine AL.gstep rfl rfl rfl rfl rfl rfl rfl (by exact AStepD.move' rfl (by (conv => lhs; whnf); all_goals exact rfl)) ?_ | refine AL.gskip rfl rfl rfl rfl rfl rfl rfl ?_ | refine AL.gnone rfl rfl rfl rfl rfl ?_ | refine AL.gmay rfl rfl rfl rfl rfl rfl (fun hb => by (try (apply AStepD.uncond 1 rfl (by first | exact guard_true hb | (rw [hb]; done) | (rw [hb]; rfl) | simp [hb]))); (exact AStepD.move' rfl (by (conv => lhs; whnf); all_goals exact rfl))) ?_
  refine AL.gcall rfl rfl rfl rfl rfl rfl rfl (AStep.callf' rfl en13 rfl (add_ok _ _ _ _ _ 3 0 hR2 i0 e1)) ?_; rintro _ H3 ⟨L3, rfl, hR3, hO3⟩; obtain ⟨hK3, hL3⟩ := hO3.keep hK2 (by omega) hL2 (by omega)
  first | refine AL.gstep rfl rfl rfl rfl rfl rfl rfl (by first | exact AStepD.neq rfl rfl rfl | exact AStepD.str_neq rfl rfl rfl | exact (AStepD.ptr_nil tok (.inl ⟨_, _, rfl⟩) rfl rfl rfl).2 rfl | exact (AStepD.nil_nil tok rfl rfl rfl rfl).2 rfl | exact (AStepD.bool_eq tok rfl rfl rfl rfl).2 rfl | exact (AStepD.iface_nil tok rfl rfl rfl rfl).2 rfl | exact (AStepD.nilIface_nil tok rfl rfl rfl rfl).2 rfl) ?_ | refine AL.gskip rfl rfl rfl rfl rfl rfl rfl ?_ | refine AL.gnone rfl rfl rfl rfl rfl ?_ | refine AL.gmay rfl rfl rfl rfl rfl rfl (fun hb => by (try (apply AStepD.uncond 20 rfl (by first | exact guard_true hb | (rw [hb]; done) | (rw [hb]; rfl) | simp [hb]))); (first | exact AStepD.neq rfl rfl rfl | exact AStepD.str_neq rfl rfl rfl | exact (AStepD.ptr_nil tok (.inl ⟨_, _, rfl⟩) rfl rfl rfl).2 rfl | exact (AStepD.nil_nil tok rfl rfl rfl rfl).2 rfl | exact (AStepD.bool_eq tok rfl rfl rfl rfl).2 rfl | exact (AStepD.iface_nil tok rfl rfl rfl rfl).2 rfl | exact (AStepD.nilIface_nil tok rfl rfl rfl rfl).2 rfl)) ?_
  refine AL.step rfl rfl rfl (by first | exact AStepD.pick_true' rfl rfl (by (conv => lhs; whnf); all_goals exact rfl) | exact AStepD.pick_false' rfl rfl (by (conv => lhs; whnf); all_goals exact rfl) | exact AStepD.and rfl _ _ _ rfl rfl (by intro h; first | exact guard_true h | (rw [h]; done) | (rw [h]; rfl) | (simp [h]; done) | (simp_all; done)) rfl | exact AStepD.and' rfl _ _ rfl rfl rfl | exact AStepD.or rfl _ _ _ rfl rfl rfl (by intro h; first | exact guard_true h | (rw [h]; done) | (rw [h]; rfl) | (simp [h]; done) | (simp_all; done)) | exact AStepD.or' rfl _ _ rfl rfl rfl) ?_
  refine AL.step rfl rfl rfl (by exact AStepD.move' rfl (by (conv => lhs; whnf); all_goals exact rfl)) ?_
  first | refine AL.gstep rfl rfl rfl rfl rfl rfl rfl (by exact AStepD.move' rfl (by (conv => lhs; whnf); all_goals exact rfl)) ?_ | refine AL.gskip rfl rfl rfl rfl rfl rfl rfl ?_ | refine AL.gnone rfl rfl rfl rfl rfl ?_ | refine AL.gmay rfl rfl rfl rfl rfl rfl (fun hb => by (try (apply AStepD.uncond 1 rfl (by first | exact guard_true hb | (rw [hb]; done) | (rw [hb]; rfl) | simp [hb]))); (exact AStepD.move' rfl (by (conv => lhs; whnf); all_goals exact rfl))) ?_
  refine AL.gcall rfl rfl rfl rfl rfl rfl rfl (AStep.callf' rfl en13 rfl (add_ok _ _ _ _ _ 9 0 hR3 i1 e2)) ?_; rintro _ H4 ⟨L4, rfl, hR4, hO4⟩; obtain ⟨hK4, hL4⟩ := hO4.keep hK3 (by omega) hL3 (by omega)
  first | refine AL.gstep rfl rfl rfl rfl rfl rfl rfl (by first | exact AStepD.neq rfl rfl rfl | exact AStepD.str_neq rfl rfl rfl | exact (AStepD.ptr_nil tok (.inl ⟨_, _, rfl⟩) rfl rfl rfl).2 rfl | exact (AStepD.nil_nil tok rfl rfl rfl rfl).2 rfl | exact (AStepD.bool_eq tok rfl rfl rfl rfl).2 rfl | exact (AStepD.iface_nil tok rfl rfl rfl rfl).2 rfl | exact (AStepD.nilIface_nil tok rfl rfl rfl rfl).2 rfl) ?_ | refine AL.gskip rfl rfl rfl rfl rfl rfl rfl ?_ | refine AL.gnone rfl rfl rfl rfl rfl ?_ | refine AL.gmay rfl rfl rfl rfl rfl rfl (fun hb => by (try (apply AStepD.uncond 25 rfl (by first | exact guard_true hb | (rw [hb]; done) | (rw [hb]; rfl) | simp [hb]))); (first | exact AStepD.neq rfl rfl rfl | exact AStepD.str_neq rfl rfl rfl | exact (AStepD.ptr_nil tok (.inl ⟨_, _, rfl⟩) rfl rfl rfl).2 rfl | exact (AStepD.nil_nil tok rfl rfl rfl rfl).2 rfl | exact (AStepD.bool_eq tok rfl rfl rfl rfl).2 rfl | exact (AStepD.iface_nil tok rfl rfl rfl rfl).2 rfl | exact (AStepD.nilIface_nil tok rfl rfl rfl rfl).2 rfl)) ?_
  refine AL.step rfl rfl rfl (by first | exact AStepD.pick_true' rfl rfl (by (conv => lhs; whnf); all_goals exact rfl) | exact AStepD.pick_false' rfl rfl (by (conv => lhs; whnf); all_goals exact rfl) | exact AStepD.and rfl _ _ _ rfl rfl (by intro h; first | exact guard_true h | (rw [h]; done) | (rw [h]; rfl) | (simp [h]; done) | (simp_all; done)) rfl | exact AStepD.and' rfl _ _ rfl rfl rfl | exact AStepD.or rfl _ _ _ rfl rfl rfl (by intro h; first | exact guard_true h | (rw [h]; done) | (rw [h]; rfl) | (simp [h]; done) | (simp_all; done)) | exact AStepD.or' rfl _ _ rfl rfl rfl) ?_
  refine AL.nil_then (hK _ _ ?_); clear hK K
  refine AW.cond_false rfl rfl (AW.skip (hK _ _ ?_)); clear hK K
  refine AW.sub (T' := [(1, .ptr (H.next + 1) 0)]) (by repeat' (first | exact SubT.nil _ | refine SubT.cons_eq (by (conv => lhs; whnf); all_goals first | exact rfl | (simp; done) | (simp; omega)) ?_)) ?_
  refine AW.lts fun hlt4 => ?_
  refine AW.seq_region (fun K hK => ?_)
  refine AL.step rfl rfl rfl (by exact AStepD.move' rfl (by (conv => lhs; whnf); all_goals exact rfl)) ?_
  refine AL.call rfl rfl rfl (AStep.callf' rfl en14 rfl (next_ok _ _ _ _ _ 2 0 2 [3, 7] hR4 i2 (by decide) (by decide) (by decide))) ?_; rintro _ H5 ⟨rfl, hR5, hO5⟩; obtain ⟨hK5, _⟩ := hO5.keep hK4 (by omega) hL4 (by omega); refine AL.lts fun hlt5 => ?_; have hn5 := hK5.1
  refine AL.step rfl rfl rfl (by first | exact AStepD.buildSlice0 tok rfl rfl rfl rfl (show _ = 1 from rfl) | exact AStepD.buildSlice1 tok rfl rfl rfl rfl (show _ = 1 from rfl) (by (conv => lhs; whnf); all_goals exact rfl) (by (conv => lhs; whnf); all_goals exact rfl) (by first | omega | (simp; done) | (simp; omega) | (simp only [over, List.length_append, List.length_take, List.length_drop, *]; omega) | (simp_all; done) | (simp_all; omega)) (by decide) (by first | with_reducible assumption | exact ones_nil | (simp only [List.forall_mem_cons, List.not_mem_nil, false_implies, implies_true, and_true, one_v, one_ptr, one_ip, one_sl, one_slc, one_vec, one_map, one_func, one_iface, Value.oneCell', *]; done) | (simp [AV.one, Value.oneCell', *]; done)) | exact AStepD.buildSlice_seq tok rfl rfl rfl rfl (show _ = 1 from rfl) (map_p (by (conv => lhs; whnf); all_goals exact rfl) (map_p (by (conv => lhs; whnf); all_goals exact rfl) map_n)) rfl (by decide) (by decide) rfl (by simp only [List.flatMap_cons, List.flatMap_nil, cells_v, cells_any, cells_ptr, cells_ip, cells_sl, cells_vec, cells_map, cells_func, cells_agg, cells_iface, List.cons_append, List.nil_append, List.append_nil]; all_goals exact rfl) (by first | with_reducible assumption | exact ones_nil | (simp only [List.forall_mem_cons, List.not_mem_nil, false_implies, implies_true, and_true, one_v, one_ptr, one_ip, one_sl, one_slc, one_vec, one_map, one_func, one_iface, Value.oneCell', *]; done) | (simp [AV.one, Value.oneCell', *]; done)) | exact AStepD.buildSlice tok rfl rfl rfl rfl (by (conv => lhs; whnf); all_goals exact rfl) (by decide) (by decide) rfl (by first | with_reducible assumption | exact ones_nil | (simp only [List.forall_mem_cons, List.not_mem_nil, false_implies, implies_true, and_true, one_v, one_ptr, one_ip, one_sl, one_slc, one_vec, one_map, one_func, one_iface, Value.oneCell', *]; done) | (simp [AV.one, Value.oneCell', *]; done))) ?_
  refine AL.step rfl rfl rfl (by exact AStepD.callf rfl en24 rfl (same_ok _ H [3, 7] _ (Ints.mk (l := [3, 7]) (by (try simp only [za, zb, zc, ne_eq]); omega) (by first | with_reducible assumption | (simp (disch := (first | omega | (refine id ?_; simp only [za, zb, zc]; done) | (simp only [za, zb, zc]; omega))) only [z1, z2, z3, z4, z5, z6, z7, z8, ne_eq, *]; done) | (simp (disch := (first | omega | (refine id ?_; simp only [za, zb, zc]; done) | (simp only [za, zb, zc]; omega))) only [z1, z2, z3, z4, z5, z6, z7, z8, ne_eq, *]; exact rfl)) rfl rfl) (by decide))) ?_
  refine AL.step rfl rfl rfl (by exact AStepD.move' rfl (by (conv => lhs; whnf); all_goals exact rfl)) ?_
  first | refine AL.gstep rfl rfl rfl rfl rfl rfl rfl (by exact AStepD.move' rfl (by (conv => lhs; whnf); all_goals exact rfl)) ?_ | refine AL.gskip rfl rfl rfl rfl rfl rfl rfl ?_ | refine AL.gnone rfl rfl rfl rfl rfl ?_ | refine AL.gmay rfl rfl rfl rfl rfl rfl (fun hb => by (try (apply AStepD.uncond 1 rfl (by first | exact guard_true hb | (rw [hb]; done) | (rw [hb]; rfl) | simp [hb]))); (exact AStepD.move' rfl (by (conv => lhs; whnf); all_goals exact rfl))) ?_
  refine AL.gcall rfl rfl rfl rfl rfl rfl rfl (AStep.callf' rfl en14 rfl (next_ok _ _ _ _ _ 2 0 2 [9, 3] (hR5.keep hlt5 (by repeat' (first | exact Keep.refl _ | apply Keep.new | apply Keep.set | apply Keep.del | (first | omega | (simp only [za, zb, zc]; omega))))) i2 (by decide) (by decide) (by decide))) ?_; rintro _ H6 ⟨rfl, hR6, hO6⟩; obtain ⟨hK6, _⟩ := hO6.keep (hK5.trans (by repeat' (first | exact Keep.refl _ | apply Keep.new | apply Keep.set | apply Keep.del | (first | omega | (simp only [za, zb, zc]; omega))))) (by omega) hL4 (by omega); refine AL.lts fun hlt6 => ?_; have hn6 := hK6.1
  first | refine AL.gstep rfl rfl rfl rfl rfl rfl rfl (by first | exact AStepD.buildSlice0 tok rfl rfl rfl rfl (show _ = 1 from rfl) | exact AStepD.buildSlice1 tok rfl rfl rfl rfl (show _ = 1 from rfl) (by (conv => lhs; whnf); all_goals exact rfl) (by (conv => lhs; whnf); all_goals exact rfl) (by first | omega | (simp; done) | (simp; omega) | (simp only [over, List.length_append, List.length_take, List.length_drop, *]; omega) | (simp_all; done) | (simp_all; omega)) (by decide) (by first | with_reducible assumption | exact ones_nil | (simp only [List.forall_mem_cons, List.not_mem_nil, false_implies, implies_true, and_true, one_v, one_ptr, one_ip, one_sl, one_slc, one_vec, one_map, one_func, one_iface, Value.oneCell', *]; done) | (simp [AV.one, Value.oneCell', *]; done)) | exact AStepD.buildSlice_seq tok rfl rfl rfl rfl (show _ = 1 from rfl) (map_p (by (conv => lhs; whnf); all_goals exact rfl) (map_p (by (conv => lhs; whnf); all_goals exact rfl) map_n)) rfl (by decide) (by decide) rfl (by simp only [List.flatMap_cons, List.flatMap_nil, cells_v, cells_any, cells_ptr, cells_ip, cells_sl, cells_vec, cells_map, cells_func, cells_agg, cells_iface, List.cons_append, List.nil_append, List.append_nil]; all_goals exact rfl) (by first | with_reducible assumption | exact ones_nil | (simp only [List.forall_mem_cons, List.not_mem_nil, false_implies, implies_true, and_true, one_v, one_ptr, one_ip, one_sl, one_slc, one_vec, one_map, one_func, one_iface, Value.oneCell', *]; done) | (simp [AV.one, Value.oneCell', *]; done)) | exact AStepD.buildSlice tok rfl rfl rfl rfl (by (conv => lhs; whnf); all_goals exact rfl) (by decide) (by decide) rfl (by first | with_reducible assumption | exact ones_nil | (simp only [List.forall_mem_cons, List.not_mem_nil, false_implies, implies_true, and_true, one_v, one_ptr, one_ip, one_sl, one_slc, one_vec, one_map, one_func, one_iface, Value.oneCell', *]; done) | (simp [AV.one, Value.oneCell', *]; done))) ?_ | refine AL.gskip rfl rfl rfl rfl rfl rfl rfl ?_ | refine AL.gnone rfl rfl rfl rfl rfl ?_ | refine AL.gmay rfl rfl rfl rfl rfl rfl (fun hb => by (first | exact AStepD.buildSlice0 tok rfl rfl rfl rfl (show _ = 1 from rfl) | exact AStepD.buildSlice1 tok rfl rfl rfl rfl (show _ = 1 from rfl) (by (conv => lhs; whnf); all_goals exact rfl) (by (conv => lhs; whnf); all_goals exact rfl) (by first | omega | (simp; done) | (simp; omega) | (simp only [over, List.length_append, List.length_take, List.length_drop, *]; omega) | (simp_all; done) | (simp_all; omega)) (by decide) (by first | with_reducible assumption | exact ones_nil | (simp only [List.forall_mem_cons, List.not_mem_nil, false_implies, implies_true, and_true, one_v, one_ptr, one_ip, one_sl, one_slc, one_vec, one_map, one_func, one_iface, Value.oneCell', *]; done) | (simp [AV.one, Value.oneCell', *]; done)) | exact AStepD.buildSlice_seq tok rfl rfl rfl rfl (show _ = 1 from rfl) (map_p (by (conv => lhs; whnf); all_goals exact rfl) (map_p (by (conv => lhs; whnf); all_goals exact rfl) map_n)) rfl (by decide) (by decide) rfl (by simp only [List.flatMap_cons, List.flatMap_nil, cells_v, cells_any, cells_ptr, cells_ip, cells_sl, cells_vec, cells_map, cells_func, cells_agg, cells_iface, List.cons_append, List.nil_append, List.append_nil]; all_goals exact rfl) (by first | with_reducible assumption | exact ones_nil | (simp only [List.forall_mem_cons, List.not_mem_nil, false_implies, implies_true, and_true, one_v, one_ptr, one_ip, one_sl, one_slc, one_vec, one_map, one_func, one_iface, Value.oneCell', *]; done) | (simp [AV.one, Value.oneCell', *]; done)) | exact AStepD.buildSlice tok rfl rfl rfl rfl (by (conv => lhs; whnf); all_goals exact rfl) (by decide) (by decide) rfl (by first | with_reducible assumption | exact ones_nil | (simp only [List.forall_mem_cons, List.not_mem_nil, false_implies, implies_true, and_true, one_v, one_ptr, one_ip, one_sl, one_slc, one_vec, one_map, one_func, one_iface, Value.oneCell', *]; done) | (simp [AV.one, Value.oneCell', *]; done)))) ?_
  first | refine AL.gstep rfl rfl rfl rfl rfl rfl rfl (by exact AStepD.callf rfl en24 rfl (same_ok _ H [9, 3] _ (Ints.mk (l := [9, 3]) (by (try simp only [za, zb, zc, ne_eq]); omega) (by first | with_reducible assumption | (simp (disch := (first | omega | (refine id ?_; simp only [za, zb, zc]; done) | (simp only [za, zb, zc]; omega))) only [z1, z2, z3, z4, z5, z6, z7, z8, ne_eq, *]; done) | (simp (disch := (first | omega | (refine id ?_; simp only [za, zb, zc]; done) | (simp only [za, zb, zc]; omega))) only [z1, z2, z3, z4, z5, z6, z7, z8, ne_eq, *]; exact rfl)) rfl rfl) (by decide))) ?_ | refine AL.gskip rfl rfl rfl rfl rfl rfl rfl ?_ | refine AL.gnone rfl rfl rfl rfl rfl ?_ | refine AL.gmay rfl rfl rfl rfl rfl rfl (fun hb => by (try (apply AStepD.uncond 34 rfl (by first | exact guard_true hb | (rw [hb]; done) | (rw [hb]; rfl) | simp [hb]))); (try (apply AStepD.uncond 35 rfl (by first | exact guard_true hb | (rw [hb]; done) | (rw [hb]; rfl) | simp [hb]))); (exact AStepD.callf rfl en24 rfl (same_ok _ H [9, 3] _ (Ints.mk (l := [9, 3]) (by (try simp only [za, zb, zc, ne_eq]); omega) (by first | with_reducible assumption | (simp (disch := (first | omega | (refine id ?_; simp only [za, zb, zc]; done) | (simp only [za, zb, zc]; omega))) only [z1, z2, z3, z4, z5, z6, z7, z8, ne_eq, *]; done) | (simp (disch := (first | omega | (refine id ?_; simp only [za, zb, zc]; done) | (simp only [za, zb, zc]; omega))) only [z1, z2, z3, z4, z5, z6, z7, z8, ne_eq, *]; exact rfl)) rfl rfl) (by decide)))) ?_
  refine AL.step rfl rfl rfl (by first | exact AStepD.pick_true' rfl rfl (by (conv => lhs; whnf); all_goals exact rfl) | exact AStepD.pick_false' rfl rfl (by (conv => lhs; whnf); all_goals exact rfl) | exact AStepD.and rfl _ _ _ rfl rfl (by intro h; first | exact guard_true h | (rw [h]; done) | (rw [h]; rfl) | (simp [h]; done) | (simp_all; done)) rfl | exact AStepD.and' rfl _ _ rfl rfl rfl | exact AStepD.or rfl _ _ _ rfl rfl rfl (by intro h; first | exact guard_true h | (rw [h]; done) | (rw [h]; rfl) | (simp [h]; done) | (simp_all; done)) | exact AStepD.or' rfl _ _ rfl rfl rfl) ?_
  refine AL.step rfl rfl rfl (by exact AStepD.move' rfl (by (conv => lhs; whnf); all_goals exact rfl)) ?_
  first | refine AL.gstep rfl rfl rfl rfl rfl rfl rfl (by exact AStepD.move' rfl (by (conv => lhs; whnf); all_goals exact rfl)) ?_ | refine AL.gskip rfl rfl rfl rfl rfl rfl rfl ?_ | refine AL.gnone rfl rfl rfl rfl rfl ?_ | refine AL.gmay rfl rfl rfl rfl rfl rfl (fun hb => by (try (apply AStepD.uncond 1 rfl (by first | exact guard_true hb | (rw [hb]; done) | (rw [hb]; rfl) | simp [hb]))); (exact AStepD.move' rfl (by (conv => lhs; whnf); all_goals exact rfl))) ?_
  refine AL.gcall rfl rfl rfl rfl rfl rfl rfl (AStep.callf' rfl en14 rfl (next_ok _ _ _ _ _ 5 7 2 [3, 9] (hR6.keep hlt6 (by repeat' (first | exact Keep.refl _ | apply Keep.new | apply Keep.set | apply Keep.del | (first | omega | (simp only [za, zb, zc]; omega))))) i2 (by decide) (by decide) (by decide))) ?_; rintro _ H7 ⟨rfl, hR7, hO7⟩; obtain ⟨hK7, _⟩ := hO7.keep (hK6.trans (by repeat' (first | exact Keep.refl _ | apply Keep.new | apply Keep.set | apply Keep.del | (first | omega | (simp only [za, zb, zc]; omega))))) (by omega) hL4 (by omega); refine AL.lts fun hlt7 => ?_; have hn7 := hK7.1
  first | refine AL.gstep rfl rfl rfl rfl rfl rfl rfl (by first | exact AStepD.buildSlice0 tok rfl rfl rfl rfl (show _ = 1 from rfl) | exact AStepD.buildSlice1 tok rfl rfl rfl rfl (show _ = 1 from rfl) (by (conv => lhs; whnf); all_goals exact rfl) (by (conv => lhs; whnf); all_goals exact rfl) (by first | omega | (simp; done) | (simp; omega) | (simp only [over, List.length_append, List.length_take, List.length_drop, *]; omega) | (simp_all; done) | (simp_all; omega)) (by decide) (by first | with_reducible assumption | exact ones_nil | (simp only [List.forall_mem_cons, List.not_mem_nil, false_implies, implies_true, and_true, one_v, one_ptr, one_ip, one_sl, one_slc, one_vec, one_map, one_func, one_iface, Value.oneCell', *]; done) | (simp [AV.one, Value.oneCell', *]; done)) | exact AStepD.buildSlice_seq tok rfl rfl rfl rfl (show _ = 1 from rfl) (map_p (by (conv => lhs; whnf); all_goals exact rfl) (map_p (by (conv => lhs; whnf); all_goals exact rfl) map_n)) rfl (by decide) (by decide) rfl (by simp only [List.flatMap_cons, List.flatMap_nil, cells_v, cells_any, cells_ptr, cells_ip, cells_sl, cells_vec, cells_map, cells_func, cells_agg, cells_iface, List.cons_append, List.nil_append, List.append_nil]; all_goals exact rfl) (by first | with_reducible assumption | exact ones_nil | (simp only [List.forall_mem_cons, List.not_mem_nil, false_implies, implies_true, and_true, one_v, one_ptr, one_ip, one_sl, one_slc, one_vec, one_map, one_func, one_iface, Value.oneCell', *]; done) | (simp [AV.one, Value.oneCell', *]; done)) | exact AStepD.buildSlice tok rfl rfl rfl rfl (by (conv => lhs; whnf); all_goals exact rfl) (by decide) (by decide) rfl (by first | with_reducible assumption | exact ones_nil | (simp only [List.forall_mem_cons, List.not_mem_nil, false_implies, implies_true, and_true, one_v, one_ptr, one_ip, one_sl, one_slc, one_vec, one_map, one_func, one_iface, Value.oneCell', *]; done) | (simp [AV.one, Value.oneCell', *]; done))) ?_ | refine AL.gskip rfl rfl rfl rfl rfl rfl rfl ?_ | refine AL.gnone rfl rfl rfl rfl rfl ?_ | refine AL.gmay rfl rfl rfl rfl rfl rfl (fun hb => by (first | exact AStepD.buildSlice0 tok rfl rfl rfl rfl (show _ = 1 from rfl) | exact AStepD.buildSlice1 tok rfl rfl rfl rfl (show _ = 1 from rfl) (by (conv => lhs; whnf); all_goals exact rfl) (by (conv => lhs; whnf); all_goals exact rfl) (by first | omega | (simp; done) | (simp; omega) | (simp only [over, List.length_append, List.length_take, List.length_drop, *]; omega) | (simp_all; done) | (simp_all; omega)) (by decide) (by first | with_reducible assumption | exact ones_nil | (simp only [List.forall_mem_cons, List.not_mem_nil, false_implies, implies_true, and_true, one_v, one_ptr, one_ip, one_sl, one_slc, one_vec, one_map, one_func, one_iface, Value.oneCell', *]; done) | (simp [AV.one, Value.oneCell', *]; done)) | exact AStepD.buildSlice_seq tok rfl rfl rfl rfl (show _ = 1 from rfl) (map_p (by (conv => lhs; whnf); all_goals exact rfl) (map_p (by (conv => lhs; whnf); all_goals exact rfl) map_n)) rfl (by decide) (by decide) rfl (by simp only [List.flatMap_cons, List.flatMap_nil, cells_v, cells_any, cells_ptr, cells_ip, cells_sl, cells_vec, cells_map, cells_func, cells_agg, cells_iface, List.cons_append, List.nil_append, List.append_nil]; all_goals exact rfl) (by first | with_reducible assumption | exact ones_nil | (simp only [List.forall_mem_cons, List.not_mem_nil, false_implies, implies_true, and_true, one_v, one_ptr, one_ip, one_sl, one_slc, one_vec, one_map, one_func, one_iface, Value.oneCell', *]; done) | (simp [AV.one, Value.oneCell', *]; done)) | exact AStepD.buildSlice tok rfl rfl rfl rfl (by (conv => lhs; whnf); all_goals exact rfl) (by decide) (by decide) rfl (by first | with_reducible assumption | exact ones_nil | (simp only [List.forall_mem_cons, List.not_mem_nil, false_implies, implies_true, and_true, one_v, one_ptr, one_ip, one_sl, one_slc, one_vec, one_map, one_func, one_iface, Value.oneCell', *]; done) | (simp [AV.one, Value.oneCell', *]; done)))) ?_
  first | refine AL.gstep rfl rfl rfl rfl rfl rfl rfl (by exact AStepD.callf rfl en24 rfl (same_ok _ H [3, 9] _ (Ints.mk (l := [3, 9]) (by (try simp only [za, zb, zc, ne_eq]); omega) (by first | with_reducible assumption | (simp (disch := (first | omega | (refine id ?_; simp only [za, zb, zc]; done) | (simp only [za, zb, zc]; omega))) only [z1, z2, z3, z4, z5, z6, z7, z8, ne_eq, *]; done) | (simp (disch := (first | omega | (refine id ?_; simp only [za, zb, zc]; done) | (simp only [za, zb, zc]; omega))) only [z1, z2, z3, z4, z5, z6, z7, z8, ne_eq, *]; exact rfl)) rfl rfl) (by decide))) ?_ | refine AL.gskip rfl rfl rfl rfl rfl rfl rfl ?_ | refine AL.gnone rfl rfl rfl rfl rfl ?_ | refine AL.gmay rfl rfl rfl rfl rfl rfl (fun hb => by (try (apply AStepD.uncond 40 rfl (by first | exact guard_true hb | (rw [hb]; done) | (rw [hb]; rfl) | simp [hb]))); (try (apply AStepD.uncond 41 rfl (by first | exact guard_true hb | (rw [hb]; done) | (rw [hb]; rfl) | simp [hb]))); (exact AStepD.callf rfl en24 rfl (same_ok _ H [3, 9] _ (Ints.mk (l := [3, 9]) (by (try simp only [za, zb, zc, ne_eq]); omega) (by first | with_reducible assumption | (simp (disch := (first | omega | (refine id ?_; simp only [za, zb, zc]; done) | (simp only [za, zb, zc]; omega))) only [z1, z2, z3, z4, z5, z6, z7, z8, ne_eq, *]; done) | (simp (disch := (first | omega | (refine id ?_; simp only [za, zb, zc]; done) | (simp only [za, zb, zc]; omega))) only [z1, z2, z3, z4, z5, z6, z7, z8, ne_eq, *]; exact rfl)) rfl rfl) (by decide)))) ?_
  refine AL.step rfl rfl rfl (by first | exact AStepD.pick_true' rfl rfl (by (conv => lhs; whnf); all_goals exact rfl) | exact AStepD.pick_false' rfl rfl (by (conv => lhs; whnf); all_goals exact rfl) | exact AStepD.and rfl _ _ _ rfl rfl (by intro h; first | exact guard_true h | (rw [h]; done) | (rw [h]; rfl) | (simp [h]; done) | (simp_all; done)) rfl | exact AStepD.and' rfl _ _ rfl rfl rfl | exact AStepD.or rfl _ _ _ rfl rfl rfl (by intro h; first | exact guard_true h | (rw [h]; done) | (rw [h]; rfl) | (simp [h]; done) | (simp_all; done)) | exact AStepD.or' rfl _ _ rfl rfl rfl) ?_
  refine AL.step rfl rfl rfl (by exact AStepD.move' rfl (by (conv => lhs; whnf); all_goals exact rfl)) ?_
  first | refine AL.gstep rfl rfl rfl rfl rfl rfl rfl (by exact AStepD.move' rfl (by (conv => lhs; whnf); all_goals exact rfl)) ?_ | refine AL.gskip rfl rfl rfl rfl rfl rfl rfl ?_ | refine AL.gnone rfl rfl rfl rfl rfl ?_ | refine AL.gmay rfl rfl rfl rfl rfl rfl (fun hb => by (try (apply AStepD.uncond 1 rfl (by first | exact guard_true hb | (rw [hb]; done) | (rw [hb]; rfl) | simp [hb]))); (exact AStepD.move' rfl (by (conv => lhs; whnf); all_goals exact rfl))) ?_
  first | refine AL.gstep rfl rfl rfl rfl rfl rfl rfl (by exact AStepD.callf rfl en26 rfl (self_calls _ _ _ _ _ (hR7.keep hlt7 (by repeat' (first | exact Keep.refl _ | apply Keep.new | apply Keep.set | apply Keep.del | (first | omega | (simp only [za, zb, zc]; omega))))))) ?_ | refine AL.gskip rfl rfl rfl rfl rfl rfl rfl ?_ | refine AL.gnone rfl rfl rfl rfl rfl ?_ | refine AL.gmay rfl rfl rfl rfl rfl rfl (fun hb => by (try (apply AStepD.uncond 45 rfl (by first | exact guard_true hb | (rw [hb]; done) | (rw [hb]; rfl) | simp [hb]))); (exact AStepD.callf rfl en26 rfl (self_calls _ _ _ _ _ (hR7.keep hlt7 (by repeat' (first | exact Keep.refl _ | apply Keep.new | apply Keep.set | apply Keep.del | (first | omega | (simp only [za, zb, zc]; omega)))))))) ?_
  first | refine AL.gstep rfl rfl rfl rfl rfl rfl rfl (by first | exact AStepD.eql rfl rfl rfl | exact AStepD.str_eql rfl rfl rfl | exact (AStepD.ptr_nil tok (.inl ⟨_, _, rfl⟩) rfl rfl rfl).1 rfl | exact (AStepD.nil_nil tok rfl rfl rfl rfl).1 rfl | exact (AStepD.bool_eq tok rfl rfl rfl rfl).1 rfl | exact (AStepD.iface_nil tok rfl rfl rfl rfl).1 rfl | exact (AStepD.nilIface_nil tok rfl rfl rfl rfl).1 rfl) ?_ | refine AL.gskip rfl rfl rfl rfl rfl rfl rfl ?_ | refine AL.gnone rfl rfl rfl rfl rfl ?_ | refine AL.gmay rfl rfl rfl rfl rfl rfl (fun hb => by (try (apply AStepD.uncond 46 rfl (by first | exact guard_true hb | (rw [hb]; done) | (rw [hb]; rfl) | simp [hb]))); (first | exact AStepD.eql rfl rfl rfl | exact AStepD.str_eql rfl rfl rfl | exact (AStepD.ptr_nil tok (.inl ⟨_, _, rfl⟩) rfl rfl rfl).1 rfl | exact (AStepD.nil_nil tok rfl rfl rfl rfl).1 rfl | exact (AStepD.bool_eq tok rfl rfl rfl rfl).1 rfl | exact (AStepD.iface_nil tok rfl rfl rfl rfl).1 rfl | exact (AStepD.nilIface_nil tok rfl rfl rfl rfl).1 rfl)) ?_
  refine AL.step rfl rfl rfl (by first | exact AStepD.pick_true' rfl rfl (by (conv => lhs; whnf); all_goals exact rfl) | exact AStepD.pick_false' rfl rfl (by (conv => lhs; whnf); all_goals exact rfl) | exact AStepD.and rfl _ _ _ rfl rfl (by intro h; first | exact guard_true h | (rw [h]; done) | (rw [h]; rfl) | (simp [h]; done) | (simp_all; done)) rfl | exact AStepD.and' rfl _ _ rfl rfl rfl | exact AStepD.or rfl _ _ _ rfl rfl rfl (by intro h; first | exact guard_true h | (rw [h]; done) | (rw [h]; rfl) | (simp [h]; done) | (simp_all; done)) | exact AStepD.or' rfl _ _ rfl rfl rfl) ?_
  refine AL.step rfl rfl rfl (by exact AStepD.assign' rfl (by (conv => lhs; whnf); all_goals exact rfl)) ?_
  refine AL.nil_then (hK _ _ ?_); clear hK K
  refine AW.ret (RetQ.mk (.inr rfl) (retA_tmp rfl (by (conv => lhs; whnf); all_goals exact rfl) retA_nil) ⟨rfl, hK7.trans (by repeat' (first | exact Keep.refl _ | apply Keep.new | apply Keep.set | apply Keep.del | (first | omega | (simp only [za, zb, zc]; omega))))⟩)
end Go.Proofs.Ytjiifddmcmbbnaa
