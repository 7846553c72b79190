/- The walk of the statement on what is set of a member. -/
import Derived.Test.YtjiifddmcmbbnaaRM
namespace Go.Proofs.Ytjiifddmcmbbnaa
open Go.Ax
theorem qRN1 {p : Prop} (h : p := by exact (fun hb => by (try (apply AStepD.uncond 16 rfl (gpf hb))); exact qRA19)) : p := h
theorem qRN2 {p : Prop} (h : p := by exact (fun _ hb => by (try (apply AStepD.uncond 16 rfl (gpf hb))); exact qRA19)) : p := h
theorem qRN3 {p : Prop} (h : p := by exact (fun hb => by (try (apply AStepD.uncond 89 rfl (gpf hb))); exact qRA19)) : p := h
theorem qRN4 {p : Prop} (h : p := by exact (fun _ hb => by (try (apply AStepD.uncond 89 rfl (gpf hb))); exact qRA19)) : p := h
theorem qRN5 {p : Prop} (h : p := by exact (fun hb => by (try (apply AStepD.uncond 15 rfl (gpf hb))); exact qRA25)) : p := h
theorem qRN6 {p : Prop} (h : p := by exact (fun _ hb => by (try (apply AStepD.uncond 15 rfl (gpf hb))); exact qRA25)) : p := h
theorem qRN7 {p : Prop} (h : p := by exact (fun hb => by (try (apply AStepD.uncond 3 rfl (gpf hb))); exact qRA25)) : p := h
theorem qRN8 {p : Prop} (h : p := by exact (fun _ hb => by (try (apply AStepD.uncond 3 rfl (gpf hb))); exact qRA25)) : p := h
theorem qRN9 {p : Prop} (h : p := by exact (fun hb => by (try (apply AStepD.uncond 90 rfl (gpf hb))); (try (apply AStepD.uncond 93 rfl (gpf hb))); exact qRA28)) : p := h
theorem qRN10 {p : Prop} (h : p := by exact (fun _ hb => by (try (apply AStepD.uncond 90 rfl (gpf hb))); (try (apply AStepD.uncond 93 rfl (gpf hb))); exact qRA28)) : p := h
set_option linter.unusedSimpArgs false
set_option linter.unusedVariables false

/-- The roster behind a Set. -/
def afterSet (r : Ros) (m : Mem) : Ros := if setE r m = 0 then setR r m else r
def wanted (r : Ros) (m x : Mem) : Mem := if (decide (setE r m = 0) && decide (x.i = m.i)) = true then m else x
theorem afterSet_facts {r : Ros} {m : Mem} (hI : Inv r) : Inv (afterSet r m) ∧ (afterSet r m).ms.length = r.ms.length ∧ ∀ (j : Nat) (h1 : j < (afterSet r m).ms.length) (h2 : j < r.ms.length), (afterSet r m).ms[j] = wanted r m r.ms[j] := by
  by_cases h : setE r m = 0
  · obtain ⟨a1, a2, a3, a4, a5, a6⟩ := setR_facts hI h
    have e : afterSet r m = setR r m := by rw [afterSet, if_pos h]
    rw [e]
    refine ⟨a1, a2, fun j h1 h2 => ?_⟩
    have e1 : (setR r m).ms[j] = if pos r.ms m.i = j then m else r.ms[j] := List.getElem_set (l := r.ms) (i := pos r.ms m.i) (a := m) (j := j) h1
    rw [e1]
    split
    · rename_i hj
      rw [wanted, if_pos (by simp [h, (a6 j h2).1 hj.symm])]
    · rename_i hj
      rw [wanted, if_neg (by simp [h, (a6 j h2).2 (Ne.symm hj)])]
  · have e : afterSet r m = r := by rw [afterSet, if_neg h]
    rw [e]
    exact ⟨hI, rfl, fun j h1 h2 => by rw [wanted, if_neg (by simp [h])]⟩

theorem sets_law (ids : List Int) (m : Mem) : ACalls Try.prog 6 [.vec ids.length (intsA ids), .agg m.cells] AHeap.empty (fun v _ => v = .v (.bool true)) := by
  have hil := intsA_length ids
  have hm1 := m.one
  refine ACalls.of_body tok Try.func6 rfl Try.ntmps6 (Nat.le_of_ble_eq_true rfl) ?_
  refine AW.seq_region (fun K hK => ?_)
  refine AL.step rfl rfl rfl qRM1 ?_
  refine AL.step rfl rfl rfl qRA18 ?_
  refine AL.nil_then (hK _ _ ?_); clear hK K
  refine AW.frame (H' := AHeap.empty.new (.cells 34 m.cells)) rfl rfl ?_
  refine AW.lts fun hlt0 => ?_
  have hX0 : (AHeap.empty.new (.cells 34 m.cells)).get AHeap.empty.next = some (.cells 34 m.cells) := AHeap.get_new_same _ _
  have hX0l := hlt0 _ _ hX0
  refine AW.sub (T' := [(3, .ptr AHeap.empty.next 0), (0, .vec ids.length (intsA ids)), (1, .agg m.cells)]) qRA21 ?_
  generalize AHeap.empty.next = X at hX0 hX0l ⊢
  generalize AHeap.empty.new (.cells 34 m.cells) = H0 at hX0 hX0l hlt0 ⊢
  refine AW.seq_k (fun K hK => ?_)
  refine AW.seq_region (fun K hK => ?_)
  refine AL.step rfl rfl rfl (by exact AStepD.callf rfl en10 rfl (anchor_calls _)) ?_
  refine AL.step rfl rfl rfl qRB9 ?_
  refine AL.nil_then (hK _ _ ?_); clear hK K
  refine AW.cond_false rfl rfl (AW.skip (hK _ _ ?_)); clear hK K
  refine AW.seq_region (fun K hK => ?_)
  refine AL.call rfl rfl rfl (AStep.callf' rfl en11 rfl (new_ok _ 1 rfl)) ?_; rintro _ H1 ⟨rfl, hR1, hk1, hx1⟩
  refine AL.step rfl rfl rfl qRA19 ?_
  refine AL.step rfl rfl rfl qRB6 ?_
  refine AL.step rfl rfl rfl qRB6 ?_
  refine AL.step rfl rfl rfl qRA18 ?_
  refine AL.step rfl rfl rfl qRA18 ?_
  refine AL.nil_then (hK _ _ ?_); clear hK K
  refine AW.seq_k (fun K hK => ?_)
  refine AW.seq_region (fun K hK => ?_)
  refine AL.step rfl rfl rfl qRA19 ?_
  refine AL.step rfl rfl rfl qRA2 ?_
  refine AL.step rfl rfl rfl qRA19 ?_
  first | refine AL.gstep rfl rfl rfl rfl rfl rfl rfl qRA19 ?_ | refine AL.gskip rfl rfl rfl rfl rfl rfl rfl ?_ | refine AL.gnone rfl rfl rfl rfl rfl ?_ | refine AL.gmay rfl rfl rfl rfl rfl rfl qRA32 ?_ | refine AL.gmay2 rfl rfl rfl rfl rfl rfl qRA33 ?_
  first | refine AL.gstep rfl rfl rfl rfl rfl rfl rfl qRC9 ?_ | refine AL.gskip rfl rfl rfl rfl rfl rfl rfl ?_ | refine AL.gnone rfl rfl rfl rfl rfl ?_ | refine AL.gmay rfl rfl rfl rfl rfl rfl (fun hb => by (try (apply AStepD.uncond 26 rfl (gpf hb))); exact qRC9) ?_ | refine AL.gmay2 rfl rfl rfl rfl rfl rfl (fun _ hb => by (try (apply AStepD.uncond 26 rfl (gpf hb))); exact qRC9) ?_
  first | refine AL.gstep rfl rfl rfl rfl rfl rfl rfl qRI1 ?_ | refine AL.gskip rfl rfl rfl rfl rfl rfl rfl ?_ | refine AL.gnone rfl rfl rfl rfl rfl ?_ | refine AL.gmay rfl rfl rfl rfl rfl rfl (fun hb => by (try (apply AStepD.uncond 27 rfl (gpf hb))); exact qRI1) ?_ | refine AL.gmay2 rfl rfl rfl rfl rfl rfl (fun _ hb => by (try (apply AStepD.uncond 27 rfl (gpf hb))); exact qRI1) ?_
  refine AL.step rfl rfl rfl qRA28 ?_
  refine AL.nil_then (hK _ _ ?_); clear hK K
  refine AW.cond _ rfl (fun hc => ?_) (fun hc => ?_)
  · refine AW.seq_region (fun K hK => ?_)
    refine AL.step rfl rfl rfl qRA19 ?_
    refine AL.step rfl rfl rfl qRA16 ?_
    refine AL.step rfl rfl rfl qRA18 ?_
    refine AL.nil_then (hK _ _ ?_); clear hK K
    exact AW.ret (RetQ.mk (.inr rfl) (retA_tmp rfl qRA1 retA_nil) rfl)
  refine AW.skip (hK _ _ ?_); clear hK K
  have hll : ids.length ≤ 40 := by
    simp only [Bool.or_eq_false_iff, decide_eq_false_iff_not] at hc
    omega
  clear hc
  have hX1 := hk1.get hX0 hX0l
  have hXn : X ≠ H0.next + 1 := by omega
  have hXB : X ≠ H0.next := by omega
  refine AW.sub (T' := [(3, .ptr X 0), (5, .ptr (H0.next + 1) 0), (0, .vec ids.length (intsA ids))]) qRA21 ?_
  clear hk1 hx1 hX0l hlt0 hX0
  generalize H0.next + 1 = n at hR1 hXn ⊢
  generalize H0.next = B at hR1 hXB ⊢
  refine AW.seq_k (fun K hK => ?_)
  refine AW.seq_region (fun K hK => ?_)
  refine AL.step rfl rfl rfl qRA19 ?_
  refine AL.step rfl rfl rfl qRC9 ?_
  refine AL.step rfl rfl rfl qRA19 ?_
  refine AL.nil_then (hK _ _ ?_); clear hK K
  refine AW.block ?_
  refine AW.loop_at (ι := Nat × Nat × Ros) (fun x => [(34, .v (.int .i64 x.1)), (33, .v (.int .i64 ids.length)), (32, .vec ids.length (intsA ids)), (3, .ptr X 0), (5, .ptr n 0)])
    (fun x H' => x.1 ≤ ids.length ∧ Inv x.2.2 ∧ RosAt H' n x.2.1 B x.2.2 ∧ H'.get X = some (.cells 34 m.cells) ∧ x.2.1 ≠ X) (fun x => ids.length - x.1) (0, n, ⟨1, [], [], 0⟩) qRA21 ⟨Nat.zero_le _, Inv.new 1, hR1, hX1, Ne.symm hXn⟩ ?_
  rintro ⟨i, L, r⟩ H2 ⟨hi, hI, hR, hX, hLX⟩
  dsimp only at hi hI hR hX hLX ⊢
  refine AW.lts fun hlt2 => ?_
  have hXl := hlt2 _ _ hX
  refine AW.seq_region (fun K hK => ?_)
  refine AL.step rfl rfl rfl qRA3 ?_
  refine AL.nil_then (hK _ _ ?_); clear hK K
  refine AW.seq_k (fun K1 hK1 => ?_)
  refine AW.cond _ rfl (fun hc => ?_) (fun hc => ?_)
  · refine AW.skip (hK1 _ _ ?_); clear hK1 K1
    have hil2 : i < ids.length := by have := of_decide_eq_true hc; omega
    have hat : ((intsA ids).drop (i * 1))[0]? = some (.v (.int .i64 ids[i])) := by rw [Nat.mul_one, List.getElem?_drop, Nat.add_zero]; exact intsA_at ids i hil2
    refine AW.seq_k (fun K1 hK1 => ?_)
    refine AW.block ?_
    refine AW.seq_region (fun K hK => ?_)
    refine AL.step rfl rfl rfl qRE4 ?_
    refine AL.step rfl rfl rfl qRB5 ?_
    refine AL.step rfl rfl rfl qRA18 ?_
    refine AL.nil_then (hK _ _ ?_); clear hK K
    refine AW.region ?_
    refine AL.step rfl rfl rfl qRA19 ?_
    refine AL.step rfl rfl rfl qRA19 ?_
    refine AL.call rfl rfl rfl (AStep.callf' rfl en13 rfl (add_calls _ n L B r ids[i] 0 hR hI.1 hI.2)) ?_; rintro _ H3 ⟨L3, rfl, hR3, hO3⟩
    refine AL.nil ?_
    refine hK1 _ _ ?_; clear hK1 K1
    refine AW.region ?_
    refine AL.step rfl rfl rfl qRA22 ?_
    refine AL.step rfl rfl rfl qRA19 ?_
    refine AL.nil ?_
    obtain ⟨o1, o2, o3⟩ := hO3
    refine ⟨(i + 1, L3, if addE r ids[i] 0 = 0 then addR r ids[i] else r), ?_, qRA21, hil2, ?_, hR3, (o2 X hXl hXn (Ne.symm hLX) hXB).trans hX, ?_⟩
    · show ids.length - (i + 1) < ids.length - i
      omega
    · show Inv (if _ then _ else _)
      split
      · rename_i he; exact hI.add he
      · exact hI
    · show L3 ≠ X
      omega
  · refine AW.exit ?_
    refine hK _ _ ?_; clear hK1 K1 hK K
    have h15 := hI.2
    refine AW.seq_region (fun K hK => ?_)
    refine AL.step rfl rfl rfl qRA19 ?_
    refine AL.step rfl rfl rfl (by exact AStepD.callf rfl en12 rfl (list_calls _ n L B r hR (by omega))) ?_
    refine AL.step rfl rfl rfl qRA18 ?_
    refine AL.nil_then (hK _ _ ?_); clear hK K
    refine AW.seq_region (fun K hK => ?_)
    refine AL.step rfl rfl rfl qRA19 ?_
    refine AL.step rfl rfl rfl qRA25 ?_
    refine AL.call rfl rfl rfl (AStep.callf' rfl en15 rfl (set_calls _ n L B r m hR hI)) ?_; rintro _ H3 ⟨rfl, hR3, hO3⟩
    refine AL.step rfl rfl rfl qRA18 ?_
    refine AL.nil_then (hK _ _ ?_); clear hK K
    have hX3 : H3.get X = some (.cells 34 m.cells) := (hO3.2.1 X hXl hXn (Ne.symm hLX) hXB).trans hX
    have hR3 : RosAt H3 n L B (afterSet r m) := hR3
    obtain ⟨hIa, hla, hwa⟩ := afterSet_facts (m := m) hI
    have hIa2 := hIa
    have hla2 := hla
    generalize hra : afterSet r m = ra at hR3 hIa hla hwa
    refine AW.seq_region (fun K hK => ?_)
    refine AL.step rfl rfl rfl qRA19 ?_
    refine AL.step rfl rfl rfl (by exact AStepD.callf rfl en12 rfl (list_calls _ n L B ra hR3 (by omega))) ?_
    refine AL.step rfl rfl rfl qRA18 ?_
    refine AL.nil_then (hK _ _ ?_); clear hK K
    refine AW.seq_k (fun K hK => ?_)
    refine AW.seq_region (fun K hK => ?_)
    refine AL.step rfl rfl rfl qRA19 ?_
    refine AL.step rfl rfl rfl qRC9 ?_
    refine AL.step rfl rfl rfl qRA19 ?_
    refine AL.step rfl rfl rfl qRC9 ?_
    refine AL.step rfl rfl rfl qRA2 ?_
    refine AL.nil_then (hK _ _ ?_); clear hK K
    refine AW.cond_false rfl (by simp [hla]) (AW.skip (hK _ _ ?_)); clear hK K
    refine AW.seq_k (fun K hK => ?_)
    refine AW.seq_region (fun K hK => ?_)
    refine AL.step rfl rfl rfl qRA19 ?_
    refine AL.step rfl rfl rfl qRC9 ?_
    refine AL.step rfl rfl rfl qRA19 ?_
    refine AL.nil_then (hK _ _ ?_); clear hK K
    refine AW.block ?_
    refine AW.loop_at (ι := Nat) (fun x => [(56, .v (.int .i64 x)), (55, .v (.int .i64 ra.ms.length)), (54, .vec ra.ms.length (flat ra.ms)), (9, .vec r.ms.length (flat r.ms)), (10, .v (.int .i64 (setE r m))), (3, .ptr X 0), (5, .ptr n 0)])
      (fun x H' => x ≤ ra.ms.length ∧ RosAt H' n L B ra ∧ H'.get X = some (.cells 34 m.cells)) (fun x => ra.ms.length - x) 0 qRA21 ⟨Nat.zero_le _, hR3, hX3⟩ ?_
    rintro j H6 ⟨hj, hR6, hX6⟩
    refine AW.lts fun hlt6 => ?_
    have hX6l := hlt6 _ _ hX6
    refine AW.seq_region (fun K hK => ?_)
    refine AL.step rfl rfl rfl qRA3 ?_
    refine AL.nil_then (hK _ _ ?_); clear hK K
    refine AW.seq_k (fun K1 hK1 => ?_)
    refine AW.cond _ rfl (fun hc2 => ?_) (fun hc2 => ?_)
    · refine AW.skip (hK1 _ _ ?_); clear hK1 K1
      have hjl : j < ra.ms.length := by have := of_decide_eq_true hc2; omega
      have hjl2 : j < r.ms.length := by omega
      have hwj := hwa j hjl hjl2
      have hfl := flat_length ra.ms
      have hfl2 := flat_length r.ms
      have hfa := flat_at ra.ms j hjl
      have hfa2 := flat_at r.ms j hjl2
      have hone := (ra.ms[j]).one
      have hone2 := (r.ms[j]).one
      generalize ra.ms[j] = x at hwj hfa hone
      generalize r.ms[j] = y at hwj hfa2 hone2
      refine AW.seq_k (fun K1 hK1 => ?_)
      refine AW.block ?_
      refine AW.seq_region (fun K hK => ?_)
      refine AL.step rfl rfl rfl qRA19 ?_
      refine AL.step rfl rfl rfl qRA24 ?_
      refine AL.step rfl rfl rfl qRA25 ?_
      refine AL.step rfl rfl rfl qRJ1 ?_
      refine AL.step rfl rfl rfl qRA18 ?_
      refine AL.step0 rfl rfl qRE5 ?_
      refine AL.nil_then (hK _ _ ?_); clear hK K
      refine AW.seq_region (fun K hK => ?_)
      refine AL.step rfl rfl rfl qRA19 ?_
      refine AL.step rfl rfl rfl qRA19 ?_
      refine AL.step rfl rfl rfl qRA24 ?_
      refine AL.step rfl rfl rfl qRA25 ?_
      refine AL.step rfl rfl rfl qRJ1 ?_
      refine AL.step0 rfl rfl qRE5 ?_
      refine AL.nil_then (hK _ _ ?_); clear hK K
      refine AW.abs (fun T' H' => ∃ Z W : Nat, SubT T' [(13, .ptr Z 0), (14, .ptr W 0), (56, .v (.int .i64 j)), (55, .v (.int .i64 ra.ms.length)), (54, .vec ra.ms.length (flat ra.ms)), (9, .vec r.ms.length (flat r.ms)), (10, .v (.int .i64 (setE r m))), (3, .ptr X 0), (5, .ptr n 0)] ∧
        H'.get Z = some (.cells 34 x.cells) ∧ H'.get W = some (.cells 34 y.cells) ∧ H'.get X = some (.cells 34 m.cells) ∧ RosAt H' n L B ra ∧ Keep H6 H' ∧ H6.next ≤ W ∧ Z ≠ W) ⟨H6.next, H6.next + 1, qRA21, qRA6, qRA6, qRA6, hR6.keep hlt6 qRA8, qRA8, by omega, by omega⟩ ?_
      rintro T7 H7 ⟨Z, W, hs7, hZ7, hW7, hX7, hR7, hk7, hW6, hZW⟩
      refine AW.sub hs7 ?_
      clear hs7
      have hWX : W ≠ X := by omega
      refine AW.cut (fun T' H' => SubT T' [(13, .ptr Z 0), (14, .ptr W 0), (56, .v (.int .i64 j)), (55, .v (.int .i64 ra.ms.length)), (54, .vec ra.ms.length (flat ra.ms)), (9, .vec r.ms.length (flat r.ms)), (10, .v (.int .i64 (setE r m))), (3, .ptr X 0), (5, .ptr n 0)] ∧
        H'.get Z = some (.cells 34 x.cells) ∧ H'.get W = some (.cells 34 x.cells) ∧ H'.get X = some (.cells 34 m.cells) ∧ Keep H6 H') ?_ ?_
      · refine AW.seq_region (fun K hK => ?_)
        refine AL.step rfl rfl rfl qRA19 ?_
        refine AL.step rfl rfl rfl qRA16 ?_
        refine AL.step rfl rfl rfl qRA19 ?_
        first | refine AL.gstep rfl rfl rfl rfl rfl rfl rfl qRB18 ?_ | refine AL.gskip rfl rfl rfl rfl rfl rfl rfl ?_ | refine AL.gnone rfl rfl rfl rfl rfl ?_ | refine AL.gmay rfl rfl rfl rfl rfl rfl (fun hb => by (try (apply AStepD.uncond 14 rfl (gpf hb))); exact qRB18) ?_ | refine AL.gmay2 rfl rfl rfl rfl rfl rfl (fun _ hb => by (try (apply AStepD.uncond 14 rfl (gpf hb))); exact qRB18) ?_
        first | refine AL.gstep rfl rfl rfl rfl rfl rfl rfl qRB5 ?_ | refine AL.gskip rfl rfl rfl rfl rfl rfl rfl ?_ | refine AL.gnone rfl rfl rfl rfl rfl ?_ | refine AL.gmay rfl rfl rfl rfl rfl rfl (fun hb => by (try (apply AStepD.uncond 68 rfl (gpf hb))); exact qRB5) ?_ | refine AL.gmay2 rfl rfl rfl rfl rfl rfl (fun _ hb => by (try (apply AStepD.uncond 68 rfl (gpf hb))); exact qRB5) ?_
        first | refine AL.gstep rfl rfl rfl rfl rfl rfl rfl qRB18 ?_ | refine AL.gskip rfl rfl rfl rfl rfl rfl rfl ?_ | refine AL.gnone rfl rfl rfl rfl rfl ?_ | refine AL.gmay rfl rfl rfl rfl rfl rfl (fun hb => by (try (apply AStepD.uncond 3 rfl (gpf hb))); exact qRB18) ?_ | refine AL.gmay2 rfl rfl rfl rfl rfl rfl (fun _ hb => by (try (apply AStepD.uncond 3 rfl (gpf hb))); exact qRB18) ?_
        first | refine AL.gstep rfl rfl rfl rfl rfl rfl rfl qRB5 ?_ | refine AL.gskip rfl rfl rfl rfl rfl rfl rfl ?_ | refine AL.gnone rfl rfl rfl rfl rfl ?_ | refine AL.gmay rfl rfl rfl rfl rfl rfl (fun hb => by (try (apply AStepD.uncond 70 rfl (gpf hb))); exact qRB5) ?_ | refine AL.gmay2 rfl rfl rfl rfl rfl rfl (fun _ hb => by (try (apply AStepD.uncond 70 rfl (gpf hb))); exact qRB5) ?_
        first | refine AL.gstep rfl rfl rfl rfl rfl rfl rfl qRA16 ?_ | refine AL.gskip rfl rfl rfl rfl rfl rfl rfl ?_ | refine AL.gnone rfl rfl rfl rfl rfl ?_ | refine AL.gmay rfl rfl rfl rfl rfl rfl (fun hb => by (try (apply AStepD.uncond 69 rfl (gpf hb))); (try (apply AStepD.uncond 71 rfl (gpf hb))); exact qRA16) ?_ | refine AL.gmay2 rfl rfl rfl rfl rfl rfl (fun _ hb => by (try (apply AStepD.uncond 69 rfl (gpf hb))); (try (apply AStepD.uncond 71 rfl (gpf hb))); exact qRA16) ?_
        refine AL.step rfl rfl rfl qRA28 ?_
        refine AL.nil_then (hK _ _ ?_); clear hK K
        refine AW.cond _ rfl (fun hd => ?_) (fun hd => ?_)
        · have hxm : x = m := by rw [hwj, wanted, if_pos hd]
          refine AW.region ?_
          refine AL.step rfl rfl rfl qRA25 ?_
          refine AL.step0 rfl rfl qRE5 ?_
          refine AL.nil ?_
          refine ⟨qRA21, qRA6, ?_, qRA6, Keep.set hk7 hW6⟩
          rw [hxm]; exact qRA6
        · have hxy : x = y := by rw [hwj, wanted, if_neg (by rw [hd]; decide)]
          refine AW.skip ?_
          refine ⟨qRA21, hZ7, by rw [hxy]; exact hW7, hX7, hk7⟩
      · rintro T8 H8 ⟨hs8, hZ8, hW8, hX8, hk8⟩
        refine AW.sub hs8 ?_
        clear hs8 hwj
        refine AW.seq_region (fun K hK => ?_)
        refine AL.step rfl rfl rfl qRA25 ?_
        refine AL.step rfl rfl rfl qRA25 ?_
        refine AL.step rfl rfl rfl (by exact AStepD.struct_eq (xs := x.zs) (ys := x.zs) tok .neq (.inr rfl) rfl rfl rfl rfl rfl st34 eg34 (fi34 _ rfl) rfl rfl (c := false) (by simp)) ?_
        refine AL.nil_then (hK _ _ ?_); clear hK K
        refine AW.cond_false rfl rfl (AW.skip ?_)
        refine hK1 _ _ ?_; clear hK1 K1
        refine AW.region ?_
        refine AL.step rfl rfl rfl qRA22 ?_
        refine AL.step rfl rfl rfl qRA19 ?_
        refine AL.nil ?_
        refine ⟨j + 1, ?_, qRA21, hjl, hR6.keep hlt6 hk8, hX8⟩
        show ra.ms.length - (j + 1) < ra.ms.length - j
        omega
    · refine AW.exit ?_
      refine hK _ _ ?_; clear hK1 K1 hK K
      have hone := (getM ra.ms m.i).one
      by_cases he : setE r m = 0
      · have hra2 : ra = setR r m := by rw [← hra, afterSet, if_pos he]
        obtain ⟨_, _, f3, f4, _⟩ := setR_facts hI he
        have hg := get_calls H6 n L B ra m.i hR6 hIa
        rw [hra2] at hg
        rw [f3, f4] at hg
        have hdz : decide (setE r m ≠ 0) = false := by simp [he]
        refine AW.seq_region (fun K hK => ?_)
        refine AL.step rfl rfl rfl qRA19 ?_
        refine AL.step rfl rfl rfl qRB18 ?_
        refine AL.step rfl rfl rfl qRB5 ?_
        refine AL.step rfl rfl rfl (by exact AStepD.callf rfl en16 rfl hg) ?_
        refine AL.step rfl rfl rfl qRA19 ?_
        refine AL.step rfl rfl rfl qRB6 ?_
        refine AL.step rfl rfl rfl qRB6 ?_
        refine AL.step rfl rfl rfl qRJ1 ?_
        refine AL.step0 rfl rfl qRE5 ?_
        refine AL.step rfl rfl rfl qRA18 ?_
        refine AL.nil_then (hK _ _ ?_); clear hK K
        refine AW.seq_region (fun K hK => ?_)
        refine AL.step rfl rfl rfl qRA19 ?_
        refine AL.step rfl rfl rfl (by exact AStepD.bool (AStepD.neq rfl rfl rfl) hdz) ?_
        refine AL.step rfl rfl rfl qRA19 ?_
        first | refine AL.gstep rfl rfl rfl rfl rfl rfl rfl qRA19 ?_ | refine AL.gskip rfl rfl rfl rfl rfl rfl rfl ?_ | refine AL.gnone rfl rfl rfl rfl rfl ?_ | refine AL.gmay rfl rfl rfl rfl rfl rfl qRN1 ?_ | refine AL.gmay2 rfl rfl rfl rfl rfl rfl qRN2 ?_
        first | refine AL.gstep rfl rfl rfl rfl rfl rfl rfl qRA19 ?_ | refine AL.gskip rfl rfl rfl rfl rfl rfl rfl ?_ | refine AL.gnone rfl rfl rfl rfl rfl ?_ | refine AL.gmay rfl rfl rfl rfl rfl rfl qRN3 ?_ | refine AL.gmay2 rfl rfl rfl rfl rfl rfl qRN4 ?_
        first | refine AL.gstep rfl rfl rfl rfl rfl rfl rfl qRA25 ?_ | refine AL.gskip rfl rfl rfl rfl rfl rfl rfl ?_ | refine AL.gnone rfl rfl rfl rfl rfl ?_ | refine AL.gmay rfl rfl rfl rfl rfl rfl qRN5 ?_ | refine AL.gmay2 rfl rfl rfl rfl rfl rfl qRN6 ?_
        first | refine AL.gstep rfl rfl rfl rfl rfl rfl rfl qRA25 ?_ | refine AL.gskip rfl rfl rfl rfl rfl rfl rfl ?_ | refine AL.gnone rfl rfl rfl rfl rfl ?_ | refine AL.gmay rfl rfl rfl rfl rfl rfl qRN7 ?_ | refine AL.gmay2 rfl rfl rfl rfl rfl rfl qRN8 ?_
        first | refine AL.gstep rfl rfl rfl rfl rfl rfl rfl (by exact AStepD.struct_eq (xs := m.zs) (ys := m.zs) tok .eql (.inl rfl) rfl rfl rfl rfl rfl st34 eg34 (fi34 _ rfl) rfl rfl (c := true) (by simp)) ?_ | refine AL.gskip rfl rfl rfl rfl rfl rfl rfl ?_ | refine AL.gnone rfl rfl rfl rfl rfl ?_ | refine AL.gmay rfl rfl rfl rfl rfl rfl (fun hb => by (try (apply AStepD.uncond 91 rfl (gpf hb))); (try (apply AStepD.uncond 92 rfl (gpf hb))); exact (by exact AStepD.struct_eq (xs := m.zs) (ys := m.zs) tok .eql (.inl rfl) rfl rfl rfl rfl rfl st34 eg34 (fi34 _ rfl) rfl rfl (c := true) (by simp))) ?_ | refine AL.gmay2 rfl rfl rfl rfl rfl rfl (fun _ hb => by (try (apply AStepD.uncond 91 rfl (gpf hb))); (try (apply AStepD.uncond 92 rfl (gpf hb))); exact (by exact AStepD.struct_eq (xs := m.zs) (ys := m.zs) tok .eql (.inl rfl) rfl rfl rfl rfl rfl st34 eg34 (fi34 _ rfl) rfl rfl (c := true) (by simp))) ?_
        first | refine AL.gstep rfl rfl rfl rfl rfl rfl rfl qRA28 ?_ | refine AL.gskip rfl rfl rfl rfl rfl rfl rfl ?_ | refine AL.gnone rfl rfl rfl rfl rfl ?_ | refine AL.gmay rfl rfl rfl rfl rfl rfl qRN9 ?_ | refine AL.gmay2 rfl rfl rfl rfl rfl rfl qRN10 ?_
        refine AL.step rfl rfl rfl qRA28 ?_
        refine AL.step rfl rfl rfl qRA18 ?_
        refine AL.nil_then (hK _ _ ?_); clear hK K
        exact AW.ret (RetQ.mk (.inr rfl) (retA_tmp rfl qRA1 retA_nil) rfl)
      · have hdz : decide (setE r m ≠ 0) = true := by simp [he]
        refine AW.seq_region (fun K hK => ?_)
        refine AL.step rfl rfl rfl qRA19 ?_
        refine AL.step rfl rfl rfl qRB18 ?_
        refine AL.step rfl rfl rfl qRB5 ?_
        refine AL.step rfl rfl rfl (by exact AStepD.callf rfl en16 rfl (get_calls H6 n L B ra m.i hR6 hIa)) ?_
        refine AL.step rfl rfl rfl qRA19 ?_
        refine AL.step rfl rfl rfl qRB6 ?_
        refine AL.step rfl rfl rfl qRB6 ?_
        refine AL.step rfl rfl rfl qRJ1 ?_
        refine AL.step0 rfl rfl qRE5 ?_
        refine AL.step rfl rfl rfl qRA18 ?_
        refine AL.nil_then (hK _ _ ?_); clear hK K
        refine AW.seq_region (fun K hK => ?_)
        refine AL.step rfl rfl rfl qRA19 ?_
        refine AL.step rfl rfl rfl (by exact AStepD.bool (AStepD.neq rfl rfl rfl) hdz) ?_
        refine AL.step rfl rfl rfl qRA19 ?_
        first | refine AL.gstep rfl rfl rfl rfl rfl rfl rfl qRA19 ?_ | refine AL.gskip rfl rfl rfl rfl rfl rfl rfl ?_ | refine AL.gnone rfl rfl rfl rfl rfl ?_ | refine AL.gmay rfl rfl rfl rfl rfl rfl qRN1 ?_ | refine AL.gmay2 rfl rfl rfl rfl rfl rfl qRN2 ?_
        first | refine AL.gstep rfl rfl rfl rfl rfl rfl rfl qRA19 ?_ | refine AL.gskip rfl rfl rfl rfl rfl rfl rfl ?_ | refine AL.gnone rfl rfl rfl rfl rfl ?_ | refine AL.gmay rfl rfl rfl rfl rfl rfl qRN3 ?_ | refine AL.gmay2 rfl rfl rfl rfl rfl rfl qRN4 ?_
        first | refine AL.gstep rfl rfl rfl rfl rfl rfl rfl qRA25 ?_ | refine AL.gskip rfl rfl rfl rfl rfl rfl rfl ?_ | refine AL.gnone rfl rfl rfl rfl rfl ?_ | refine AL.gmay rfl rfl rfl rfl rfl rfl qRN5 ?_ | refine AL.gmay2 rfl rfl rfl rfl rfl rfl qRN6 ?_
        first | refine AL.gstep rfl rfl rfl rfl rfl rfl rfl qRA25 ?_ | refine AL.gskip rfl rfl rfl rfl rfl rfl rfl ?_ | refine AL.gnone rfl rfl rfl rfl rfl ?_ | refine AL.gmay rfl rfl rfl rfl rfl rfl qRN7 ?_ | refine AL.gmay2 rfl rfl rfl rfl rfl rfl qRN8 ?_
        first | refine AL.gstep rfl rfl rfl rfl rfl rfl rfl (by fail) ?_ | refine AL.gskip rfl rfl rfl rfl rfl rfl rfl ?_ | refine AL.gnone rfl rfl rfl rfl rfl ?_ | refine AL.gmay rfl rfl rfl rfl rfl rfl (fun hb => by (try (apply AStepD.uncond 91 rfl (gpf hb))); (try (apply AStepD.uncond 92 rfl (gpf hb))); exact (by fail)) ?_ | refine AL.gmay2 rfl rfl rfl rfl rfl rfl (fun _ hb => by (try (apply AStepD.uncond 91 rfl (gpf hb))); (try (apply AStepD.uncond 92 rfl (gpf hb))); exact (by fail)) ?_
        first | refine AL.gstep rfl rfl rfl rfl rfl rfl rfl qRA28 ?_ | refine AL.gskip rfl rfl rfl rfl rfl rfl rfl ?_ | refine AL.gnone rfl rfl rfl rfl rfl ?_ | refine AL.gmay rfl rfl rfl rfl rfl rfl qRN9 ?_ | refine AL.gmay2 rfl rfl rfl rfl rfl rfl qRN10 ?_
        refine AL.step rfl rfl rfl qRA28 ?_
        refine AL.step rfl rfl rfl qRA18 ?_
        refine AL.nil_then (hK _ _ ?_); clear hK K
        exact AW.ret (RetQ.mk (.inr rfl) (retA_tmp rfl qRA1 retA_nil) rfl)

/-- The cells of a member. -/
theorem mem_cells {cs : List AV} (h : Sh tt 34 cs) : ∃ m : Mem, cs = m.cells ∧ (-9223372036854775808 ≤ m.i ∧ m.i ≤ 9223372036854775807) := by
  obtain ⟨rows, rfl, hl, hr, _⟩ := h.struct_inv rfl
  have hl5 : rows.length = 5 := hl
  obtain ⟨r0, r1, r2, r3, r4, rfl⟩ : ∃ r0 r1 r2 r3 r4, rows = [r0, r1, r2, r3, r4] := by
    match rows, hl5 with
    | [a, b, c, d, e], _ => exact ⟨a, b, c, d, e, rfl⟩
  obtain ⟨a, rfl, ha, ha'⟩ := (hr 0 _ r0 rfl rfl).int_inv (k := .i64) rfl
  obtain ⟨b, rfl, _⟩ := (hr 1 _ r1 rfl rfl).int_inv (k := .i64) rfl
  obtain ⟨c, rfl, _⟩ := (hr 2 _ r2 rfl rfl).int_inv (k := .i64) rfl
  obtain ⟨d, rfl, _⟩ := (hr 3 _ r3 rfl rfl).int_inv (k := .i64) rfl
  obtain ⟨e, rfl, _⟩ := (hr 4 _ r4 rfl rfl).int_inv (k := .i64) rfl
  exact ⟨⟨a, b, c, d, e⟩, rfl, ha, ha'⟩
theorem mem_of {a : AV} (h : ShV tt 34 a) : ∃ m : Mem, a = .agg m.cells ∧ (-9223372036854775808 ≤ m.i ∧ m.i ≤ 9223372036854775807) := by
  obtain ⟨cs, rfl, hs⟩ := h.cells rfl
  obtain ⟨m, rfl, hb⟩ := mem_cells hs
  exact ⟨m, rfl, hb⟩
end Go.Proofs.Ytjiifddmcmbbnaa
