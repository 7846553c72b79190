/- The walk of the statement on the members' order, by the program. -/
import Derived.Test.YtjiifddmcmbbnaaRK
namespace Go.Proofs.Ytjiifddmcmbbnaa
open Go.Ax
theorem qRL1 {p : Prop} (h : p := by exact (fun hb => by (try (apply AStepD.uncond 6 rfl (gpf hb))); exact qRA19)) : p := h
theorem qRL2 {p : Prop} (h : p := by exact (fun _ hb => by (try (apply AStepD.uncond 6 rfl (gpf hb))); exact qRA19)) : p := h
theorem qRL3 {p : Prop} (h : p := by rw [List.length_take]; omega) : p := h
theorem qRL4 {p : Prop} (h : p := by exact (fun hb => by (try (apply AStepD.uncond 10 rfl (gpf hb))); exact qRA19)) : p := h
theorem qRL5 {p : Prop} (h : p := by exact (fun _ hb => by (try (apply AStepD.uncond 10 rfl (gpf hb))); exact qRA19)) : p := h
theorem qRL6 {p : Prop} (h : p := by exact (fun hb => by (try (apply AStepD.uncond 85 rfl (gpf hb))); exact qRA19)) : p := h
theorem qRL7 {p : Prop} (h : p := by exact (fun _ hb => by (try (apply AStepD.uncond 85 rfl (gpf hb))); exact qRA19)) : p := h
theorem qRL8 {p : Prop} (h : p := by exact (fun hb => by (try (apply AStepD.uncond 8 rfl (gpf hb))); exact qRA19)) : p := h
theorem qRL9 {p : Prop} (h : p := by exact (fun _ hb => by (try (apply AStepD.uncond 8 rfl (gpf hb))); exact qRA19)) : p := h
theorem qRL10 {p : Prop} (h : p := by exact (fun hb => by (try (apply AStepD.uncond 88 rfl (gpf hb))); exact qRJ10)) : p := h
theorem qRL11 {p : Prop} (h : p := by exact (fun _ hb => by (try (apply AStepD.uncond 88 rfl (gpf hb))); exact qRJ10)) : p := h
theorem qRL12 {p : Prop} (h : p := by exact (fun hb => by (try (apply AStepD.uncond 90 rfl (gpf hb))); exact qRB18)) : p := h
theorem qRL13 {p : Prop} (h : p := by exact (fun _ hb => by (try (apply AStepD.uncond 90 rfl (gpf hb))); exact qRB18)) : p := h
theorem qRL14 {p : Prop} (h : p := by exact (fun hb => by (try (apply AStepD.uncond 91 rfl (gpf hb))); exact qRB5)) : p := h
theorem qRL15 {p : Prop} (h : p := by exact (fun _ hb => by (try (apply AStepD.uncond 91 rfl (gpf hb))); exact qRB5)) : p := h
theorem qRL16 {p : Prop} (h : p := by exact (fun hb => by (try (apply AStepD.uncond 11 rfl (gpf hb))); exact qRB18)) : p := h
theorem qRL17 {p : Prop} (h : p := by exact (fun _ hb => by (try (apply AStepD.uncond 11 rfl (gpf hb))); exact qRB18)) : p := h
theorem qRL18 {p : Prop} (h : p := by exact (fun hb => by (try (apply AStepD.uncond 93 rfl (gpf hb))); exact qRB5)) : p := h
theorem qRL19 {p : Prop} (h : p := by exact (fun _ hb => by (try (apply AStepD.uncond 93 rfl (gpf hb))); exact qRB5)) : p := h
theorem qRL20 {p : Prop} (h : p := by exact (fun hb => by (try (apply AStepD.uncond 92 rfl (gpf hb))); (try (apply AStepD.uncond 94 rfl (gpf hb))); exact qRB1)) : p := h
theorem qRL21 {p : Prop} (h : p := by exact (fun _ hb => by (try (apply AStepD.uncond 92 rfl (gpf hb))); (try (apply AStepD.uncond 94 rfl (gpf hb))); exact qRB1)) : p := h
theorem qRL22 {p : Prop} (h : p := by exact (fun hb => by (try (apply AStepD.uncond 86 rfl (gpf hb))); (try (apply AStepD.uncond 95 rfl (gpf hb))); exact qRA28)) : p := h
theorem qRL23 {p : Prop} (h : p := by exact (fun _ hb => by (try (apply AStepD.uncond 86 rfl (gpf hb))); (try (apply AStepD.uncond 95 rfl (gpf hb))); exact qRA28)) : p := h
set_option linter.unusedSimpArgs false
set_option linter.unusedVariables false

/-- Two rosters that share nothing. -/
def Sep (H : AHeap) (n1 L1 B1 n2 L2 B2 : Nat) : Prop :=
  n1 < H.next ∧ L1 < H.next ∧ B1 < H.next ∧ n2 < H.next ∧ L2 < H.next ∧ B2 < H.next ∧ n1 ≠ n2 ∧ n1 ≠ L2 ∧ n1 ≠ B2 ∧ L1 ≠ n2 ∧ L1 ≠ L2 ∧ L1 ≠ B2 ∧ B1 ≠ n2 ∧ B1 ≠ L2 ∧ B1 ≠ B2
theorem Sep.left {H H' : AHeap} {n1 L1 B1 n2 L2 B2 L1' : Nat} {r : Ros} (h : Sep H n1 L1 B1 n2 L2 B2) (ho : Only H H' n1 L1 B1 L1') (hR : RosAt H n2 L2 B2 r) : Sep H' n1 L1' B1 n2 L2 B2 ∧ RosAt H' n2 L2 B2 r := by
  obtain ⟨h1, h2, h3⟩ := ho
  unfold Sep at h ⊢
  exact ⟨by omega, hR.same (h2 _ (by omega) (by omega) (by omega) (by omega)) (h2 _ (by omega) (by omega) (by omega) (by omega)) (h2 _ (by omega) (by omega) (by omega) (by omega))⟩
theorem Sep.symm {H : AHeap} {n1 L1 B1 n2 L2 B2 : Nat} (h : Sep H n1 L1 B1 n2 L2 B2) : Sep H n2 L2 B2 n1 L1 B1 := by
  unfold Sep at h ⊢
  omega

theorem flat_id (ms : List Mem) (k : Nat) (h : k < ms.length) : ((flat ms).drop (k * 5))[0]? = some (.v (.int .i64 ms[k].i)) := by
  have := congrArg (fun l => l[0]?) (flat_at ms k h)
  simpa [List.getElem?_take, Mem.cells] using this

theorem order_law (ids : List Int) : ACalls Try.prog 5 [.vec ids.length (intsA ids)] AHeap.empty (fun v _ => v = .v (.bool true)) := by
  have hil := intsA_length ids
  refine ACalls.of_body tok Try.func5 rfl Try.ntmps5 (Nat.le_of_ble_eq_true rfl) ?_
  refine AW.seq_region (fun K hK => ?_)
  refine AL.step rfl rfl rfl qRA18 ?_
  refine AL.nil_then (hK _ _ ?_); clear hK K
  refine AW.seq_k (fun K hK => ?_)
  refine AW.seq_region (fun K hK => ?_)
  refine AL.step rfl rfl rfl (by exact AStepD.callf rfl en10 rfl (anchor_calls _)) ?_
  refine AL.step rfl rfl rfl qRB9 ?_
  refine AL.nil_then (hK _ _ ?_); clear hK K
  refine AW.cond_false rfl rfl (AW.skip (hK _ _ ?_)); clear hK K
  refine AW.seq_region (fun K hK => ?_)
  refine AL.call rfl rfl rfl (AStep.callf' rfl en11 rfl (new_ok _ 1 rfl)) ?_; rintro _ H1 ⟨rfl, hR1, hk1, hx1⟩
  refine AL.step rfl rfl rfl qRA19 ?_
  refine AL.step rfl rfl rfl qRB6 ?_
  refine AL.step rfl rfl rfl qRB6 ?_
  refine AL.step rfl rfl rfl qRA18 ?_
  refine AL.step rfl rfl rfl qRA18 ?_
  refine AL.nil_then (hK _ _ ?_); clear hK K
  refine AW.lts fun hlt1 => ?_
  refine AW.seq_region (fun K hK => ?_)
  refine AL.call rfl rfl rfl (AStep.callf' rfl en11 rfl (new_ok _ 1 rfl)) ?_; rintro _ H2 ⟨rfl, hR2, hk2, hx2⟩
  refine AL.step rfl rfl rfl qRA19 ?_
  refine AL.step rfl rfl rfl qRB6 ?_
  refine AL.step rfl rfl rfl qRB6 ?_
  refine AL.step rfl rfl rfl qRA18 ?_
  refine AL.step rfl rfl rfl qRA18 ?_
  refine AL.nil_then (hK _ _ ?_); clear hK K
  have hR12 := hR1.keep hlt1 hk2
  refine AW.seq_k (fun K hK => ?_)
  refine AW.seq_region (fun K hK => ?_)
  refine AL.step rfl rfl rfl qRA19 ?_
  refine AL.step rfl rfl rfl qRA2 ?_
  refine AL.step rfl rfl rfl qRA19 ?_
  first | refine AL.gstep rfl rfl rfl rfl rfl rfl rfl qRA19 ?_ | refine AL.gskip rfl rfl rfl rfl rfl rfl rfl ?_ | refine AL.gnone rfl rfl rfl rfl rfl ?_ | refine AL.gmay rfl rfl rfl rfl rfl rfl qRL1 ?_ | refine AL.gmay2 rfl rfl rfl rfl rfl rfl qRL2 ?_
  first | refine AL.gstep rfl rfl rfl rfl rfl rfl rfl qRA2 ?_ | refine AL.gskip rfl rfl rfl rfl rfl rfl rfl ?_ | refine AL.gnone rfl rfl rfl rfl rfl ?_ | refine AL.gmay rfl rfl rfl rfl rfl rfl (fun hb => by (try (apply AStepD.uncond 25 rfl (gpf hb))); exact qRA2) ?_ | refine AL.gmay2 rfl rfl rfl rfl rfl rfl (fun _ hb => by (try (apply AStepD.uncond 25 rfl (gpf hb))); exact qRA2) ?_
  refine AL.step rfl rfl rfl qRA28 ?_
  refine AL.step rfl rfl rfl qRA19 ?_
  first | refine AL.gstep rfl rfl rfl rfl rfl rfl rfl qRA19 ?_ | refine AL.gskip rfl rfl rfl rfl rfl rfl rfl ?_ | refine AL.gnone rfl rfl rfl rfl rfl ?_ | refine AL.gmay rfl rfl rfl rfl rfl rfl qRA32 ?_ | refine AL.gmay2 rfl rfl rfl rfl rfl rfl qRA33 ?_
  first | refine AL.gstep rfl rfl rfl rfl rfl rfl rfl qRC9 ?_ | refine AL.gskip rfl rfl rfl rfl rfl rfl rfl ?_ | refine AL.gnone rfl rfl rfl rfl rfl ?_ | refine AL.gmay rfl rfl rfl rfl rfl rfl (fun hb => by (try (apply AStepD.uncond 29 rfl (gpf hb))); exact qRC9) ?_ | refine AL.gmay2 rfl rfl rfl rfl rfl rfl (fun _ hb => by (try (apply AStepD.uncond 29 rfl (gpf hb))); exact qRC9) ?_
  first | refine AL.gstep rfl rfl rfl rfl rfl rfl rfl qRI1 ?_ | refine AL.gskip rfl rfl rfl rfl rfl rfl rfl ?_ | refine AL.gnone rfl rfl rfl rfl rfl ?_ | refine AL.gmay rfl rfl rfl rfl rfl rfl (fun hb => by (try (apply AStepD.uncond 30 rfl (gpf hb))); exact qRI1) ?_ | refine AL.gmay2 rfl rfl rfl rfl rfl rfl (fun _ hb => by (try (apply AStepD.uncond 30 rfl (gpf hb))); exact qRI1) ?_
  refine AL.step rfl rfl rfl qRA28 ?_
  refine AL.nil_then (hK _ _ ?_); clear hK K
  refine AW.cond _ rfl (fun hc => ?_) (fun hc => ?_)
  · refine AW.seq_region (fun K hK => ?_)
    refine AL.step rfl rfl rfl qRA19 ?_
    refine AL.step rfl rfl rfl qRA16 ?_
    refine AL.step rfl rfl rfl qRA19 ?_
    first | refine AL.gstep rfl rfl rfl rfl rfl rfl rfl qRA19 ?_ | refine AL.gskip rfl rfl rfl rfl rfl rfl rfl ?_ | refine AL.gnone rfl rfl rfl rfl rfl ?_ | refine AL.gmay rfl rfl rfl rfl rfl rfl qRL1 ?_ | refine AL.gmay2 rfl rfl rfl rfl rfl rfl qRL2 ?_
    first | refine AL.gstep rfl rfl rfl rfl rfl rfl rfl qRA16 ?_ | refine AL.gskip rfl rfl rfl rfl rfl rfl rfl ?_ | refine AL.gnone rfl rfl rfl rfl rfl ?_ | refine AL.gmay rfl rfl rfl rfl rfl rfl (fun hb => by (try (apply AStepD.uncond 36 rfl (gpf hb))); exact qRA16) ?_ | refine AL.gmay2 rfl rfl rfl rfl rfl rfl (fun _ hb => by (try (apply AStepD.uncond 36 rfl (gpf hb))); exact qRA16) ?_
    refine AL.step rfl rfl rfl qRA28 ?_
    refine AL.step rfl rfl rfl qRA18 ?_
    refine AL.nil_then (hK _ _ ?_); clear hK K
    exact AW.ret (RetQ.mk (.inr rfl) (retA_tmp rfl qRA1 retA_nil) rfl)
  refine AW.skip (hK _ _ ?_); clear hK K
  have hll : ids.length ≤ 15 := by
    simp only [Bool.or_eq_false_iff, decide_eq_false_iff_not] at hc
    omega
  clear hc
  refine AW.sub (T' := [(3, .ptr (AHeap.empty.next + 1) 0), (5, .ptr (H1.next + 1) 0), (0, .vec ids.length (intsA ids))]) qRA21 ?_
  have hsep : Sep H2 (AHeap.empty.next + 1) (AHeap.empty.next + 1) AHeap.empty.next (H1.next + 1) (H1.next + 1) H1.next := by
    unfold Sep
    omega
  clear hk1 hx1 hk2 hx2 hR1 hlt1
  generalize AHeap.empty.next + 1 = n1 at hR12 hsep ⊢
  generalize AHeap.empty.next = B1 at hR12 hsep ⊢
  generalize H1.next + 1 = n2 at hR2 hsep ⊢
  generalize H1.next = B2 at hR2 hsep ⊢
  refine AW.seq_k (fun K hK => ?_)
  refine AW.seq_region (fun K hK => ?_)
  refine AL.step rfl rfl rfl qRA19 ?_
  refine AL.step rfl rfl rfl qRC9 ?_
  refine AL.step rfl rfl rfl qRA19 ?_
  refine AL.nil_then (hK _ _ ?_); clear hK K
  refine AW.block ?_
  refine AW.loop_at (ι := Nat × Nat × Ros × Nat × Ros) (fun x => [(41, .v (.int .i64 x.1)), (40, .v (.int .i64 ids.length)), (0, .vec ids.length (intsA ids)), (3, .ptr n1 0), (5, .ptr n2 0)])
    (fun x H' => x.1 ≤ ids.length ∧ Added x.2.2.1 (ids.take x.1) ∧ Added x.2.2.2.2 (ids.reverse.take x.1) ∧ RosAt H' n1 x.2.1 B1 x.2.2.1 ∧ RosAt H' n2 x.2.2.2.1 B2 x.2.2.2.2 ∧ Sep H' n1 x.2.1 B1 n2 x.2.2.2.1 B2) (fun x => ids.length - x.1) (0, n1, ⟨1, [], [], 0⟩, n2, ⟨1, [], [], 0⟩) qRA21
    ⟨Nat.zero_le _, Added.new, Added.new, hR12, hR2, hsep⟩ ?_
  rintro ⟨i, L1, r1, L2, r2⟩ H3 ⟨hi, hA1, hA2, hQ1, hQ2, hsp⟩
  dsimp only at hi hA1 hA2 hQ1 hQ2 hsp ⊢
  refine AW.seq_region (fun K hK => ?_)
  refine AL.step rfl rfl rfl qRA3 ?_
  refine AL.nil_then (hK _ _ ?_); clear hK K
  refine AW.seq_k (fun K1 hK1 => ?_)
  refine AW.cond _ rfl (fun hc => ?_) (fun hc => ?_)
  · refine AW.skip (hK1 _ _ ?_); clear hK1 K1
    have hil2 : i < ids.length := by have := of_decide_eq_true hc; omega
    have hat : ((intsA ids).drop (i * 1))[0]? = some (.v (.int .i64 ids[i])) := by rw [Nat.mul_one, List.getElem?_drop, Nat.add_zero]; exact intsA_at ids i hil2
    have hjl : ids.length - 1 - i < ids.length := by omega
    have hat2 : ((intsA ids).drop ((ids.length - 1 - i) * 1))[0]? = some (.v (.int .i64 ids[ids.length - 1 - i])) := by rw [Nat.mul_one, List.getElem?_drop, Nat.add_zero]; exact intsA_at ids _ hjl
    refine AW.seq_k (fun K1 hK1 => ?_)
    refine AW.block ?_
    refine AW.seq_region (fun K hK => ?_)
    refine AL.step rfl rfl rfl qRA19 ?_
    refine AL.step rfl rfl rfl qRA18 ?_
    refine AL.nil_then (hK _ _ ?_); clear hK K
    refine AW.seq_region (fun K hK => ?_)
    refine AL.step rfl rfl rfl qRA19 ?_
    refine AL.step rfl rfl rfl qRA19 ?_
    refine AL.step rfl rfl rfl qRA19 ?_
    refine AL.step rfl rfl rfl qRE4 ?_
    refine AL.step rfl rfl rfl qRB5 ?_
    refine AL.call rfl rfl rfl (AStep.callf' rfl en13 rfl (add_calls _ n1 L1 B1 r1 ids[i] 0 hQ1 hA1.inv.1 hA1.inv.2)) ?_; rintro _ H4 ⟨L4, rfl, hR4, hO4⟩
    refine AL.nil_then (hK _ _ ?_); clear hK K
    obtain ⟨hsp4, hQ24⟩ := hsp.left hO4 hQ2
    refine AW.region ?_
    refine AL.step rfl rfl rfl qRA19 ?_
    refine AL.step rfl rfl rfl qRA19 ?_
    refine AL.step rfl rfl rfl qRA19 ?_
    refine AL.step rfl rfl rfl qRC9 ?_
    refine AL.step rfl rfl rfl qRJ10 ?_
    refine AL.step rfl rfl rfl qRA19 ?_
    refine AL.step rfl rfl rfl qRJ10 ?_
    refine AL.step rfl rfl rfl (by exact AStepD.indexAddr_vec' (i := ids.length - 1 - i) tok rfl rfl rfl rfl rfl rfl (show _ = 1 from rfl) (by omega) (by omega)) ?_
    refine AL.step rfl rfl rfl qRB5 ?_
    refine AL.call rfl rfl rfl (AStep.callf' rfl en13 rfl (add_calls _ n2 L2 B2 r2 ids[ids.length - 1 - i] 0 hQ24 hA2.inv.1 hA2.inv.2)) ?_; rintro _ H5 ⟨L5, rfl, hR5, hO5⟩
    refine AL.nil ?_
    obtain ⟨hsp5, hR45⟩ := hsp4.symm.left hO5 hR4
    refine hK1 _ _ ?_; clear hK1 K1
    refine AW.region ?_
    refine AL.step rfl rfl rfl qRA22 ?_
    refine AL.step rfl rfl rfl qRA19 ?_
    refine AL.nil ?_
    have hrl : ids.reverse.length = ids.length := List.length_reverse
    refine ⟨(i + 1, L4, if addE r1 ids[i] 0 = 0 then addR r1 ids[i] else r1, L5, if addE r2 ids[ids.length - 1 - i] 0 = 0 then addR r2 ids[ids.length - 1 - i] else r2), ?_, qRA21, hil2, ?_, ?_, hR45, hR5, hsp5.symm⟩
    · show ids.length - (i + 1) < ids.length - i
      omega
    · show Added _ (ids.take (i + 1))
      rw [take_next ids i hil2]
      exact hA1.add _ qRL3
    · show Added _ (ids.reverse.take (i + 1))
      rw [take_next ids.reverse i (by omega), List.getElem_reverse]
      exact hA2.add _ qRL3
  · refine AW.exit ?_
    refine hK _ _ ?_; clear hK1 K1 hK K
    have hie : i = ids.length := by have := of_decide_eq_false hc; omega
    have h15 := hA1.inv.2
    have h152 := hA2.inv.2
    rw [hie, List.take_length] at hA1
    rw [hie, ← show ids.reverse.length = ids.length from List.length_reverse, List.take_length] at hA2
    have hms : r1.ms = r2.ms := fresh_ext hA1.inv.1 hA2.inv.1 hA1.fr hA2.fr fun w => by rw [hA1.mem w, hA2.mem w, List.mem_reverse]
    have hsrt := hA1.inv.1
    have hfl := flat_length r1.ms
    have hlc1 := list_calls H3 n1 L1 B1 r1 hQ1 (by omega)
    have hlc2 := list_calls H3 n2 L2 B2 r2 hQ2 (by omega)
    rw [← hms] at hlc2
    generalize r1.ms = ms at hms h15 hsrt hfl hlc1 hlc2
    clear hms
    refine AW.seq_region (fun K hK => ?_)
    refine AL.step rfl rfl rfl qRA19 ?_
    refine AL.step rfl rfl rfl (by exact AStepD.callf rfl en12 rfl hlc1) ?_
    refine AL.step rfl rfl rfl qRA19 ?_
    refine AL.step rfl rfl rfl (by exact AStepD.callf rfl en12 rfl hlc2) ?_
    refine AL.step rfl rfl rfl qRA18 ?_
    refine AL.step rfl rfl rfl qRA18 ?_
    refine AL.nil_then (hK _ _ ?_); clear hK K
    refine AW.seq_k (fun K hK => ?_)
    refine AW.seq_region (fun K hK => ?_)
    refine AL.step rfl rfl rfl qRA19 ?_
    refine AL.step rfl rfl rfl qRC9 ?_
    refine AL.step rfl rfl rfl qRA19 ?_
    refine AL.step rfl rfl rfl qRC9 ?_
    refine AL.step rfl rfl rfl qRA2 ?_
    refine AL.nil_then (hK _ _ ?_); clear hK K
    refine AW.cond_false rfl (by simp) (AW.skip (hK _ _ ?_)); clear hK K
    refine AW.seq_k (fun K hK => ?_)
    refine AW.seq_region (fun K hK => ?_)
    refine AL.step rfl rfl rfl qRA19 ?_
    refine AL.step rfl rfl rfl qRC9 ?_
    refine AL.step rfl rfl rfl qRA19 ?_
    refine AL.nil_then (hK _ _ ?_); clear hK K
    refine AW.block ?_
    refine AW.loop_at (ι := Nat) (fun x => [(72, .v (.int .i64 x)), (71, .v (.int .i64 ms.length)), (70, .vec ms.length (flat ms)), (8, .vec ms.length (flat ms)), (9, .vec ms.length (flat ms))])
      (fun x H' => x ≤ ms.length) (fun x => ms.length - x) 0 qRA21 (Nat.zero_le _) ?_
    rintro j H6 hj
    refine AW.seq_region (fun K hK => ?_)
    refine AL.step rfl rfl rfl qRA3 ?_
    refine AL.nil_then (hK _ _ ?_); clear hK K
    refine AW.seq_k (fun K1 hK1 => ?_)
    refine AW.cond _ rfl (fun hc2 => ?_) (fun hc2 => ?_)
    · refine AW.skip (hK1 _ _ ?_); clear hK1 K1
      have hjl : j < ms.length := by have := of_decide_eq_true hc2; omega
      have hfa := flat_at ms j hjl
      have hone := (ms[j]).one
      refine AW.lts fun hlt6 => ?_
      refine AW.seq_k (fun K1 hK1 => ?_)
      refine AW.block ?_
      refine AW.seq_region (fun K hK => ?_)
      refine AL.step rfl rfl rfl qRA19 ?_
      refine AL.step rfl rfl rfl qRA24 ?_
      refine AL.step rfl rfl rfl qRA25 ?_
      refine AL.step rfl rfl rfl qRJ1 ?_
      refine AL.step rfl rfl rfl qRA18 ?_
      refine AL.step0 rfl rfl qRE5 ?_
      refine AL.nil_then (hK _ _ ?_); clear hK K
      by_cases h0 : j = 0
      · have hg : decide ((0 : Int) < (j : Int)) = false := by simp; omega
        clear h0
        refine AW.seq_k (fun K hK => ?_)
        apply AW.draw mixed [_, _, _, _, _, _, _, _, _, _, _, _, _, _, _, _, _, _, _, _, _] [] [_] [(0, 0), (1, 0), (2, 0), (3, 0), (4, 0), (5, 0), (6, 0), (7, 0), (8, 0), (9, 0), (10, 0), (11, 0), (12, 0), (13, 0), (14, 0), (15, 0), (16, 0), (17, 0), (18, 0), (19, 0), (20, 0)] rfl rfl rfl qRC6
        · refine ⟨?_, ?_, ?_, ?_, ?_, ?_, ?_, ?_, ?_, ?_, ?_, ?_, ?_, ?_, ?_, ?_, ?_, ?_, ?_, ?_, ?_⟩
          · refine Ob.mk _ [11] 0 rfl rfl (restr_cons qRA1 restr_nil) rfl ?_
            simp only [List.getD_cons_zero, List.getD_cons_succ]
            exact GStep.plain rfl qRA25
          · refine Ob.mk _ [9] 0 rfl rfl (restr_cons qRA1 restr_nil) rfl ?_
            simp only [List.getD_cons_zero, List.getD_cons_succ]
            exact GStep.plain rfl qRA19
          · refine Ob.mk _ [10] 0 rfl rfl (restr_cons qRA1 restr_nil) rfl ?_
            simp only [List.getD_cons_zero, List.getD_cons_succ]
            exact GStep.plain rfl qRA19
          · refine Ob.mk _ [78, 79] 0 rfl rfl (restr_cons qRA1 (restr_cons qRA1 restr_nil)) rfl ?_
            simp only [List.getD_cons_zero, List.getD_cons_succ]
            exact GStep.plain rfl qRA24
          · refine Ob.mk _ [80] 0 rfl rfl (restr_cons qRA1 restr_nil) rfl ?_
            simp only [List.getD_cons_zero, List.getD_cons_succ]
            exact GStep.plain rfl qRA25
          · refine Ob.mk _ [77, 81] 0 rfl rfl (restr_cons qRA1 (restr_cons qRA1 restr_nil)) rfl ?_
            simp only [List.getD_cons_zero, List.getD_cons_succ]
            exact GStep.plain rfl (by exact AStepD.struct_eq (xs := (ms[j]).zs) (ys := (ms[j]).zs) tok .neq (.inr rfl) rfl rfl rfl rfl rfl st34 eg34 (fi34 _ rfl) rfl rfl (c := false) (by simp))
          · refine Ob.mk _ [82] 0 rfl rfl (restr_cons qRA1 restr_nil) rfl ?_
            simp only [List.getD_cons_zero, List.getD_cons_succ]
            exact GStep.plain rfl qRA19
          · refine Ob.mk _ [10, 83] 0 rfl rfl (restr_cons qRA1 (restr_cons qRA1 restr_nil)) rfl ?_
            simp only [List.getD_cons_zero, List.getD_cons_succ]
            first | exact GStep.yes rfl rfl rfl rfl rfl qRA19 | exact GStep.no rfl rfl rfl rfl rfl | exact GStep.none rfl rfl rfl | exact GStep.may rfl rfl rfl rfl qRL4 | exact GStep.may2 rfl rfl rfl rfl qRL5
          · refine Ob.mk _ [84, 83] 0 rfl rfl (restr_cons qRA1 (restr_cons qRA1 restr_nil)) rfl ?_
            simp only [List.getD_cons_zero, List.getD_cons_succ]
            first | exact GStep.yes rfl rfl rfl rfl rfl (by exact AStepD.bool (AStepD.gtr rfl rfl rfl) hg) | exact GStep.no rfl rfl rfl rfl rfl | exact GStep.none rfl rfl rfl | exact GStep.may rfl rfl rfl rfl (fun hb => by (try (apply AStepD.uncond 84 rfl (gpf hb))); exact (by exact AStepD.bool (AStepD.gtr rfl rfl rfl) hg)) | exact GStep.may2 rfl rfl rfl rfl (fun _ hb => by (try (apply AStepD.uncond 84 rfl (gpf hb))); exact (by exact AStepD.bool (AStepD.gtr rfl rfl rfl) hg))
          · refine Ob.mk _ [85, 83] 0 rfl rfl (restr_cons qRA1 (restr_cons qRA1 restr_nil)) rfl ?_
            simp only [List.getD_cons_zero, List.getD_cons_succ]
            first | exact GStep.yes rfl rfl rfl rfl rfl qRA19 | exact GStep.no rfl rfl rfl rfl rfl | exact GStep.none rfl rfl rfl | exact GStep.may rfl rfl rfl rfl qRL6 | exact GStep.may2 rfl rfl rfl rfl qRL7
          · refine Ob.mk _ [8, 86] 0 rfl rfl (restr_cons qRA1 (restr_cons qRA1 restr_nil)) rfl ?_
            simp only [List.getD_cons_zero, List.getD_cons_succ]
            first | exact GStep.yes rfl rfl rfl rfl rfl qRA19 | exact GStep.no rfl rfl rfl rfl rfl | exact GStep.none rfl rfl rfl | exact GStep.may rfl rfl rfl rfl qRL8 | exact GStep.may2 rfl rfl rfl rfl qRL9
          · refine Ob.mk _ [10, 86] 0 rfl rfl (restr_cons qRA1 (restr_cons qRA1 restr_nil)) rfl ?_
            simp only [List.getD_cons_zero, List.getD_cons_succ]
            first | exact GStep.yes rfl rfl rfl rfl rfl qRA19 | exact GStep.no rfl rfl rfl rfl rfl | exact GStep.none rfl rfl rfl | exact GStep.may rfl rfl rfl rfl qRL4 | exact GStep.may2 rfl rfl rfl rfl qRL5
          · refine Ob.mk _ [88, 86] 0 rfl rfl (restr_cons qRA1 (restr_cons qRA1 restr_nil)) rfl ?_
            simp only [List.getD_cons_zero, List.getD_cons_succ]
            first | exact GStep.yes rfl rfl rfl rfl rfl qRJ10 | exact GStep.no rfl rfl rfl rfl rfl | exact GStep.none rfl rfl rfl | exact GStep.may rfl rfl rfl rfl qRL10 | exact GStep.may2 rfl rfl rfl rfl qRL11
          · refine Ob.mk _ [87, 89, 86] 0 rfl rfl (restr_cons qRA1 (restr_cons qRA1 (restr_cons qRA1 restr_nil))) rfl ?_
            simp only [List.getD_cons_zero, List.getD_cons_succ]
            first | exact GStep.yes rfl rfl rfl rfl rfl qRA24 | exact GStep.no rfl rfl rfl rfl rfl | exact GStep.none rfl rfl rfl | exact GStep.may rfl rfl rfl rfl (fun hb => by (try (apply AStepD.uncond 87 rfl (gpf hb))); (try (apply AStepD.uncond 89 rfl (gpf hb))); exact qRA24) | exact GStep.may2 rfl rfl rfl rfl (fun _ hb => by (try (apply AStepD.uncond 87 rfl (gpf hb))); (try (apply AStepD.uncond 89 rfl (gpf hb))); exact qRA24)
          · refine Ob.mk _ [90, 86] 0 rfl rfl (restr_cons qRA1 (restr_cons qRA1 restr_nil)) rfl ?_
            simp only [List.getD_cons_zero, List.getD_cons_succ]
            first | exact GStep.yes rfl rfl rfl rfl rfl qRB18 | exact GStep.no rfl rfl rfl rfl rfl | exact GStep.none rfl rfl rfl | exact GStep.may rfl rfl rfl rfl qRL12 | exact GStep.may2 rfl rfl rfl rfl qRL13
          · refine Ob.mk _ [91, 86] 0 rfl rfl (restr_cons qRA1 (restr_cons qRA1 restr_nil)) rfl ?_
            simp only [List.getD_cons_zero, List.getD_cons_succ]
            first | exact GStep.yes rfl rfl rfl rfl rfl qRB5 | exact GStep.no rfl rfl rfl rfl rfl | exact GStep.none rfl rfl rfl | exact GStep.may rfl rfl rfl rfl qRL14 | exact GStep.may2 rfl rfl rfl rfl qRL15
          · refine Ob.mk _ [11, 86] 0 rfl rfl (restr_cons qRA1 (restr_cons qRA1 restr_nil)) rfl ?_
            simp only [List.getD_cons_zero, List.getD_cons_succ]
            first | exact GStep.yes rfl rfl rfl rfl rfl qRB18 | exact GStep.no rfl rfl rfl rfl rfl | exact GStep.none rfl rfl rfl | exact GStep.may rfl rfl rfl rfl qRL16 | exact GStep.may2 rfl rfl rfl rfl qRL17
          · refine Ob.mk _ [93, 86] 0 rfl rfl (restr_cons qRA1 (restr_cons qRA1 restr_nil)) rfl ?_
            simp only [List.getD_cons_zero, List.getD_cons_succ]
            first | exact GStep.yes rfl rfl rfl rfl rfl qRB5 | exact GStep.no rfl rfl rfl rfl rfl | exact GStep.none rfl rfl rfl | exact GStep.may rfl rfl rfl rfl qRL18 | exact GStep.may2 rfl rfl rfl rfl qRL19
          · refine Ob.mk _ [92, 94, 86] 0 rfl rfl (restr_cons qRA1 (restr_cons qRA1 (restr_cons qRA1 restr_nil))) rfl ?_
            simp only [List.getD_cons_zero, List.getD_cons_succ]
            first | exact GStep.yes rfl rfl rfl rfl rfl qRB1 | exact GStep.no rfl rfl rfl rfl rfl | exact GStep.none rfl rfl rfl | exact GStep.may rfl rfl rfl rfl qRL20 | exact GStep.may2 rfl rfl rfl rfl qRL21
          · refine Ob.mk _ [86, 95, 83] 0 rfl rfl (restr_cons qRA1 (restr_cons qRA1 (restr_cons qRA1 restr_nil))) rfl ?_
            simp only [List.getD_cons_zero, List.getD_cons_succ]
            first | exact GStep.yes rfl rfl rfl rfl rfl qRA28 | exact GStep.no rfl rfl rfl rfl rfl | exact GStep.none rfl rfl rfl | exact GStep.may rfl rfl rfl rfl qRL22 | exact GStep.may2 rfl rfl rfl rfl qRL23
          · refine Ob.mk _ [83, 96] 0 rfl rfl (restr_cons qRA1 (restr_cons qRA1 restr_nil)) rfl ?_
            simp only [List.getD_cons_zero, List.getD_cons_succ]
            exact GStep.plain rfl qRA28
        refine hK _ _ ?_; clear hK K
        refine AW.frame qRC7 qRC8 ?_
        refine AW.cond_false rfl rfl (AW.skip ?_)
        refine hK1 _ _ ?_; clear hK1 K1
        refine AW.region ?_
        refine AL.step rfl rfl rfl qRA22 ?_
        refine AL.step rfl rfl rfl qRA19 ?_
        refine AL.nil ?_
        refine ⟨j + 1, ?_, qRA21, hjl⟩
        show ms.length - (j + 1) < ms.length - j
        omega
      · have hg : decide ((0 : Int) < (j : Int)) = true := by simp; omega
        have hj1 : j - 1 < ms.length := by omega
        have hfa1 := flat_id ms (j - 1) hj1
        have hlt := hsrt.lt hjl (a := j - 1) (by omega)
        refine AW.seq_k (fun K hK => ?_)
        apply AW.draw mixed [_, _, _, _, _, _, _, _, _, _, _, _, _, _, _, _, _, _, _, _, _] [] [_] [(0, 0), (1, 0), (2, 0), (3, 0), (4, 0), (5, 0), (6, 0), (7, 0), (8, 0), (9, 0), (10, 0), (11, 0), (12, 0), (13, 0), (14, 0), (15, 0), (16, 0), (17, 0), (18, 0), (19, 0), (20, 0)] rfl rfl rfl qRC6
        · refine ⟨?_, ?_, ?_, ?_, ?_, ?_, ?_, ?_, ?_, ?_, ?_, ?_, ?_, ?_, ?_, ?_, ?_, ?_, ?_, ?_, ?_⟩
          · refine Ob.mk _ [11] 0 rfl rfl (restr_cons qRA1 restr_nil) rfl ?_
            simp only [List.getD_cons_zero, List.getD_cons_succ]
            exact GStep.plain rfl qRA25
          · refine Ob.mk _ [9] 0 rfl rfl (restr_cons qRA1 restr_nil) rfl ?_
            simp only [List.getD_cons_zero, List.getD_cons_succ]
            exact GStep.plain rfl qRA19
          · refine Ob.mk _ [10] 0 rfl rfl (restr_cons qRA1 restr_nil) rfl ?_
            simp only [List.getD_cons_zero, List.getD_cons_succ]
            exact GStep.plain rfl qRA19
          · refine Ob.mk _ [78, 79] 0 rfl rfl (restr_cons qRA1 (restr_cons qRA1 restr_nil)) rfl ?_
            simp only [List.getD_cons_zero, List.getD_cons_succ]
            exact GStep.plain rfl qRA24
          · refine Ob.mk _ [80] 0 rfl rfl (restr_cons qRA1 restr_nil) rfl ?_
            simp only [List.getD_cons_zero, List.getD_cons_succ]
            exact GStep.plain rfl qRA25
          · refine Ob.mk _ [77, 81] 0 rfl rfl (restr_cons qRA1 (restr_cons qRA1 restr_nil)) rfl ?_
            simp only [List.getD_cons_zero, List.getD_cons_succ]
            exact GStep.plain rfl (by exact AStepD.struct_eq (xs := (ms[j]).zs) (ys := (ms[j]).zs) tok .neq (.inr rfl) rfl rfl rfl rfl rfl st34 eg34 (fi34 _ rfl) rfl rfl (c := false) (by simp))
          · refine Ob.mk _ [82] 0 rfl rfl (restr_cons qRA1 restr_nil) rfl ?_
            simp only [List.getD_cons_zero, List.getD_cons_succ]
            exact GStep.plain rfl qRA19
          · refine Ob.mk _ [10, 83] 0 rfl rfl (restr_cons qRA1 (restr_cons qRA1 restr_nil)) rfl ?_
            simp only [List.getD_cons_zero, List.getD_cons_succ]
            first | exact GStep.yes rfl rfl rfl rfl rfl qRA19 | exact GStep.no rfl rfl rfl rfl rfl | exact GStep.none rfl rfl rfl | exact GStep.may rfl rfl rfl rfl qRL4 | exact GStep.may2 rfl rfl rfl rfl qRL5
          · refine Ob.mk _ [84, 83] 0 rfl rfl (restr_cons qRA1 (restr_cons qRA1 restr_nil)) rfl ?_
            simp only [List.getD_cons_zero, List.getD_cons_succ]
            first | exact GStep.yes rfl rfl rfl rfl rfl (by exact AStepD.bool (AStepD.gtr rfl rfl rfl) hg) | exact GStep.no rfl rfl rfl rfl rfl | exact GStep.none rfl rfl rfl | exact GStep.may rfl rfl rfl rfl (fun hb => by (try (apply AStepD.uncond 84 rfl (gpf hb))); exact (by exact AStepD.bool (AStepD.gtr rfl rfl rfl) hg)) | exact GStep.may2 rfl rfl rfl rfl (fun _ hb => by (try (apply AStepD.uncond 84 rfl (gpf hb))); exact (by exact AStepD.bool (AStepD.gtr rfl rfl rfl) hg))
          · refine Ob.mk _ [85, 83] 0 rfl rfl (restr_cons qRA1 (restr_cons qRA1 restr_nil)) rfl ?_
            simp only [List.getD_cons_zero, List.getD_cons_succ]
            first | exact GStep.yes rfl rfl rfl rfl rfl qRA19 | exact GStep.no rfl rfl rfl rfl rfl | exact GStep.none rfl rfl rfl | exact GStep.may rfl rfl rfl rfl qRL6 | exact GStep.may2 rfl rfl rfl rfl qRL7
          · refine Ob.mk _ [8, 86] 0 rfl rfl (restr_cons qRA1 (restr_cons qRA1 restr_nil)) rfl ?_
            simp only [List.getD_cons_zero, List.getD_cons_succ]
            first | exact GStep.yes rfl rfl rfl rfl rfl qRA19 | exact GStep.no rfl rfl rfl rfl rfl | exact GStep.none rfl rfl rfl | exact GStep.may rfl rfl rfl rfl qRL8 | exact GStep.may2 rfl rfl rfl rfl qRL9
          · refine Ob.mk _ [10, 86] 0 rfl rfl (restr_cons qRA1 (restr_cons qRA1 restr_nil)) rfl ?_
            simp only [List.getD_cons_zero, List.getD_cons_succ]
            first | exact GStep.yes rfl rfl rfl rfl rfl qRA19 | exact GStep.no rfl rfl rfl rfl rfl | exact GStep.none rfl rfl rfl | exact GStep.may rfl rfl rfl rfl qRL4 | exact GStep.may2 rfl rfl rfl rfl qRL5
          · refine Ob.mk _ [88, 86] 0 rfl rfl (restr_cons qRA1 (restr_cons qRA1 restr_nil)) rfl ?_
            simp only [List.getD_cons_zero, List.getD_cons_succ]
            first | exact GStep.yes rfl rfl rfl rfl rfl qRJ10 | exact GStep.no rfl rfl rfl rfl rfl | exact GStep.none rfl rfl rfl | exact GStep.may rfl rfl rfl rfl qRL10 | exact GStep.may2 rfl rfl rfl rfl qRL11
          · refine Ob.mk _ [87, 89, 86] 0 rfl rfl (restr_cons qRA1 (restr_cons qRA1 (restr_cons qRA1 restr_nil))) rfl ?_
            simp only [List.getD_cons_zero, List.getD_cons_succ]
            first | exact GStep.yes rfl rfl rfl rfl rfl (by exact AStepD.indexAddr_vec' (i := j - 1) tok rfl rfl rfl rfl rfl rfl (show _ = 5 from rfl) (by omega) hj1) | exact GStep.no rfl rfl rfl rfl rfl | exact GStep.none rfl rfl rfl | exact GStep.may rfl rfl rfl rfl (fun hb => by (try (apply AStepD.uncond 87 rfl (gpf hb))); (try (apply AStepD.uncond 89 rfl (gpf hb))); exact (by exact AStepD.indexAddr_vec' (i := j - 1) tok rfl rfl rfl rfl rfl rfl (show _ = 5 from rfl) (by omega) hj1)) | exact GStep.may2 rfl rfl rfl rfl (fun _ hb => by (try (apply AStepD.uncond 87 rfl (gpf hb))); (try (apply AStepD.uncond 89 rfl (gpf hb))); exact (by exact AStepD.indexAddr_vec' (i := j - 1) tok rfl rfl rfl rfl rfl rfl (show _ = 5 from rfl) (by omega) hj1))
          · refine Ob.mk _ [90, 86] 0 rfl rfl (restr_cons qRA1 (restr_cons qRA1 restr_nil)) rfl ?_
            simp only [List.getD_cons_zero, List.getD_cons_succ]
            first | exact GStep.yes rfl rfl rfl rfl rfl qRB18 | exact GStep.no rfl rfl rfl rfl rfl | exact GStep.none rfl rfl rfl | exact GStep.may rfl rfl rfl rfl qRL12 | exact GStep.may2 rfl rfl rfl rfl qRL13
          · refine Ob.mk _ [91, 86] 0 rfl rfl (restr_cons qRA1 (restr_cons qRA1 restr_nil)) rfl ?_
            simp only [List.getD_cons_zero, List.getD_cons_succ]
            first | exact GStep.yes rfl rfl rfl rfl rfl qRB5 | exact GStep.no rfl rfl rfl rfl rfl | exact GStep.none rfl rfl rfl | exact GStep.may rfl rfl rfl rfl qRL14 | exact GStep.may2 rfl rfl rfl rfl qRL15
          · refine Ob.mk _ [11, 86] 0 rfl rfl (restr_cons qRA1 (restr_cons qRA1 restr_nil)) rfl ?_
            simp only [List.getD_cons_zero, List.getD_cons_succ]
            first | exact GStep.yes rfl rfl rfl rfl rfl qRB18 | exact GStep.no rfl rfl rfl rfl rfl | exact GStep.none rfl rfl rfl | exact GStep.may rfl rfl rfl rfl qRL16 | exact GStep.may2 rfl rfl rfl rfl qRL17
          · refine Ob.mk _ [93, 86] 0 rfl rfl (restr_cons qRA1 (restr_cons qRA1 restr_nil)) rfl ?_
            simp only [List.getD_cons_zero, List.getD_cons_succ]
            first | exact GStep.yes rfl rfl rfl rfl rfl qRB5 | exact GStep.no rfl rfl rfl rfl rfl | exact GStep.none rfl rfl rfl | exact GStep.may rfl rfl rfl rfl qRL18 | exact GStep.may2 rfl rfl rfl rfl qRL19
          · refine Ob.mk _ [92, 94, 86] 0 rfl rfl (restr_cons qRA1 (restr_cons qRA1 (restr_cons qRA1 restr_nil))) rfl ?_
            simp only [List.getD_cons_zero, List.getD_cons_succ]
            first | exact GStep.yes rfl rfl rfl rfl rfl qRB1 | exact GStep.no rfl rfl rfl rfl rfl | exact GStep.none rfl rfl rfl | exact GStep.may rfl rfl rfl rfl qRL20 | exact GStep.may2 rfl rfl rfl rfl qRL21
          · refine Ob.mk _ [86, 95, 83] 0 rfl rfl (restr_cons qRA1 (restr_cons qRA1 (restr_cons qRA1 restr_nil))) rfl ?_
            simp only [List.getD_cons_zero, List.getD_cons_succ]
            first | exact GStep.yes rfl rfl rfl rfl rfl qRA28 | exact GStep.no rfl rfl rfl rfl rfl | exact GStep.none rfl rfl rfl | exact GStep.may rfl rfl rfl rfl qRL22 | exact GStep.may2 rfl rfl rfl rfl qRL23
          · refine Ob.mk _ [83, 96] 0 rfl rfl (restr_cons qRA1 (restr_cons qRA1 restr_nil)) rfl ?_
            simp only [List.getD_cons_zero, List.getD_cons_succ]
            exact GStep.plain rfl qRA28
        refine hK _ _ ?_; clear hK K
        refine AW.frame qRC7 qRC8 ?_
        refine AW.cond_false rfl (decide_eq_false (by omega)) (AW.skip ?_)
        refine hK1 _ _ ?_; clear hK1 K1
        refine AW.region ?_
        refine AL.step rfl rfl rfl qRA22 ?_
        refine AL.step rfl rfl rfl qRA19 ?_
        refine AL.nil ?_
        refine ⟨j + 1, ?_, qRA21, hjl⟩
        show ms.length - (j + 1) < ms.length - j
        omega
    · refine AW.exit ?_
      refine hK _ _ ?_; clear hK1 K1 hK K
      refine AW.seq_region (fun K hK => ?_)
      refine AL.step rfl rfl rfl qRA18 ?_
      refine AL.nil_then (hK _ _ ?_); clear hK K
      exact AW.ret (RetQ.mk (.inr rfl) (retA_tmp rfl qRA1 retA_nil) rfl)
end Go.Proofs.Ytjiifddmcmbbnaa
