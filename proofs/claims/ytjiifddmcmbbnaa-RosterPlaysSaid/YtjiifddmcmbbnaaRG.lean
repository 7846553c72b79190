/- The walk of the statement that there are never more than fifteen members. -/
import Derived.Test.YtjiifddmcmbbnaaRF
namespace Go.Proofs.Ytjiifddmcmbbnaa
open Go.Ax
theorem qRG1 {p : Prop} (h : p := by exact AStepD.gtr rfl rfl rfl) : p := h
theorem qRG2 {p : Prop} (h : p := by exact (fun hb => by (try (apply AStepD.uncond 44 rfl (gpf hb))); exact qRA22)) : p := h
theorem qRG3 {p : Prop} (h : p := by exact (fun _ hb => by (try (apply AStepD.uncond 44 rfl (gpf hb))); exact qRA22)) : p := h
theorem qRG4 {p : Prop} (h : p := by exact (fun hb => by (try (apply AStepD.uncond 46 rfl (gpf hb))); exact qRA19)) : p := h
theorem qRG5 {p : Prop} (h : p := by exact (fun _ hb => by (try (apply AStepD.uncond 46 rfl (gpf hb))); exact qRA19)) : p := h
theorem qRG6 {p : Prop} (h : p := by exact (fun hb => by (try (apply AStepD.uncond 47 rfl (gpf hb))); (try (apply AStepD.uncond 49 rfl (gpf hb))); exact qRA28)) : p := h
theorem qRG7 {p : Prop} (h : p := by exact (fun _ hb => by (try (apply AStepD.uncond 47 rfl (gpf hb))); (try (apply AStepD.uncond 49 rfl (gpf hb))); exact qRA28)) : p := h
theorem qRG8 {p : Prop} (h : p := by exact (fun hb => by (try (apply AStepD.uncond 8 rfl (gpf hb))); exact qRA19)) : p := h
theorem qRG9 {p : Prop} (h : p := by exact (fun _ hb => by (try (apply AStepD.uncond 8 rfl (gpf hb))); exact qRA19)) : p := h
theorem qRG10 {p : Prop} (h : p := by exact (fun hb => by (try (apply AStepD.uncond 54 rfl (gpf hb))); exact qRA19)) : p := h
theorem qRG11 {p : Prop} (h : p := by exact (fun _ hb => by (try (apply AStepD.uncond 54 rfl (gpf hb))); exact qRA19)) : p := h
theorem qRG12 {p : Prop} (h : p := by exact (fun hb => by (try (apply AStepD.uncond 55 rfl (gpf hb))); (try (apply AStepD.uncond 58 rfl (gpf hb))); exact qRA28)) : p := h
theorem qRG13 {p : Prop} (h : p := by exact (fun _ hb => by (try (apply AStepD.uncond 55 rfl (gpf hb))); (try (apply AStepD.uncond 58 rfl (gpf hb))); exact qRA28)) : p := h
theorem qRG14 {p : Prop} (h : p := by exact (fun hb => by (try (apply AStepD.uncond 63 rfl (gpf hb))); exact qRA19)) : p := h
theorem qRG15 {p : Prop} (h : p := by exact (fun _ hb => by (try (apply AStepD.uncond 63 rfl (gpf hb))); exact qRA19)) : p := h
theorem qRG16 {p : Prop} (h : p := by exact (fun hb => by (try (apply AStepD.uncond 65 rfl (gpf hb))); exact qRA2)) : p := h
theorem qRG17 {p : Prop} (h : p := by exact (fun _ hb => by (try (apply AStepD.uncond 65 rfl (gpf hb))); exact qRA2)) : p := h
theorem qRG18 {p : Prop} (h : p := by exact (fun hb => by (try (apply AStepD.uncond 64 rfl (gpf hb))); (try (apply AStepD.uncond 66 rfl (gpf hb))); exact qRA28)) : p := h
theorem qRG19 {p : Prop} (h : p := by exact (fun _ hb => by (try (apply AStepD.uncond 64 rfl (gpf hb))); (try (apply AStepD.uncond 66 rfl (gpf hb))); exact qRA28)) : p := h
set_option linter.unusedSimpArgs false
set_option linter.unusedVariables false

theorem addE_full {r : Ros} {w t : Int} (h : addE r w t = 31) : r.ms.length = 15 := by
  unfold addE at h
  split at h
  · rename_i h1
    unfold asked at h
    split at h
    · cases h
    · split at h <;> cases h
  · split at h
    · cases h
    · split at h
      · cases h
      · split at h
        · assumption
        · cases h

theorem bounds_law (ids : List Int) : ACalls Try.prog 3 [.vec ids.length (intsA ids)] AHeap.empty (fun v _ => v = .v (.bool true)) := by
  have hil := intsA_length ids
  refine ACalls.of_body tok Try.func3 rfl Try.ntmps3 (Nat.le_of_ble_eq_true rfl) ?_
  refine AW.seq_region (fun K hK => ?_)
  refine AL.step rfl rfl rfl qRA18 ?_
  refine AL.nil_then (hK _ _ ?_); clear hK K
  refine AW.seq_k (fun K hK => ?_)
  refine AW.seq_region (fun K hK => ?_)
  refine AL.step rfl rfl rfl (by exact AStepD.callf rfl en10 rfl (anchor_calls _)) ?_
  refine AL.step rfl rfl rfl qRB9 ?_
  refine AL.nil_then (hK _ _ ?_); clear hK K
  refine AW.cond_false rfl rfl (AW.skip (hK _ _ ?_)); clear hK K
  refine AW.seq_region (fun K hK => ?_)
  refine AL.call rfl rfl rfl (AStep.callf' rfl en11 rfl (new_ok _ 1 rfl)) ?_; rintro _ H1 ⟨rfl, hR1, hk1, hx1⟩
  refine AL.step rfl rfl rfl qRA19 ?_
  refine AL.step rfl rfl rfl qRB6 ?_
  refine AL.step rfl rfl rfl qRB6 ?_
  refine AL.step rfl rfl rfl qRA18 ?_
  refine AL.step rfl rfl rfl qRA18 ?_
  refine AL.nil_then (hK _ _ ?_); clear hK K
  refine AW.seq_k (fun K hK => ?_)
  refine AW.seq_region (fun K hK => ?_)
  refine AL.step rfl rfl rfl qRA19 ?_
  refine AL.step rfl rfl rfl qRA2 ?_
  refine AL.step rfl rfl rfl qRA19 ?_
  first | refine AL.gstep rfl rfl rfl rfl rfl rfl rfl qRA19 ?_ | refine AL.gskip rfl rfl rfl rfl rfl rfl rfl ?_ | refine AL.gnone rfl rfl rfl rfl rfl ?_ | refine AL.gmay rfl rfl rfl rfl rfl rfl qRA32 ?_ | refine AL.gmay2 rfl rfl rfl rfl rfl rfl qRA33 ?_
  first | refine AL.gstep rfl rfl rfl rfl rfl rfl rfl qRC9 ?_ | refine AL.gskip rfl rfl rfl rfl rfl rfl rfl ?_ | refine AL.gnone rfl rfl rfl rfl rfl ?_ | refine AL.gmay rfl rfl rfl rfl rfl rfl (fun hb => by (try (apply AStepD.uncond 19 rfl (gpf hb))); exact qRC9) ?_ | refine AL.gmay2 rfl rfl rfl rfl rfl rfl (fun _ hb => by (try (apply AStepD.uncond 19 rfl (gpf hb))); exact qRC9) ?_
  first | refine AL.gstep rfl rfl rfl rfl rfl rfl rfl qRG1 ?_ | refine AL.gskip rfl rfl rfl rfl rfl rfl rfl ?_ | refine AL.gnone rfl rfl rfl rfl rfl ?_ | refine AL.gmay rfl rfl rfl rfl rfl rfl (fun hb => by (try (apply AStepD.uncond 20 rfl (gpf hb))); exact qRG1) ?_ | refine AL.gmay2 rfl rfl rfl rfl rfl rfl (fun _ hb => by (try (apply AStepD.uncond 20 rfl (gpf hb))); exact qRG1) ?_
  refine AL.step rfl rfl rfl qRA28 ?_
  refine AL.nil_then (hK _ _ ?_); clear hK K
  refine AW.cond _ rfl (fun hc => ?_) (fun hc => ?_)
  · refine AW.seq_region (fun K hK => ?_)
    refine AL.step rfl rfl rfl qRA19 ?_
    refine AL.step rfl rfl rfl qRA16 ?_
    refine AL.step rfl rfl rfl qRA18 ?_
    refine AL.nil_then (hK _ _ ?_); clear hK K
    exact AW.ret (RetQ.mk (.inr rfl) (retA_tmp rfl qRA1 retA_nil) rfl)
  · refine AW.skip (hK _ _ ?_); clear hK K
    have hll : ids.length ≤ 100 := by
      simp only [Bool.or_eq_false_iff, decide_eq_false_iff_not] at hc
      omega
    clear hc
    refine AW.sub (T' := [(3, .ptr (AHeap.empty.next + 1) 0), (0, .vec ids.length (intsA ids))]) qRA21 ?_
    clear hk1 hx1
    generalize AHeap.empty.next + 1 = n at hR1 ⊢
    generalize AHeap.empty.next = B at hR1 ⊢
    refine AW.seq_k (fun K hK => ?_)
    refine AW.seq_region (fun K hK => ?_)
    refine AL.step rfl rfl rfl qRA19 ?_
    refine AL.step rfl rfl rfl qRC9 ?_
    refine AL.step rfl rfl rfl qRA19 ?_
    refine AL.nil_then (hK _ _ ?_); clear hK K
    refine AW.block ?_
    refine AW.loop_at (ι := Nat × Nat × Ros) (fun x => [(27, .v (.int .i64 x.1)), (26, .v (.int .i64 ids.length)), (25, .vec ids.length (intsA ids)), (3, .ptr n 0)])
      (fun x H' => x.1 ≤ ids.length ∧ Inv x.2.2 ∧ RosAt H' n x.2.1 B x.2.2) (fun x => ids.length - x.1) (0, n, ⟨1, [], [], 0⟩) qRA21 ⟨Nat.zero_le _, Inv.new 1, hR1⟩ ?_
    rintro ⟨i, L, r⟩ H2 ⟨hi, hI, hR⟩
    dsimp only at hi hI hR ⊢
    have h15 := hI.2
    refine AW.seq_region (fun K hK => ?_)
    refine AL.step rfl rfl rfl qRA3 ?_
    refine AL.nil_then (hK _ _ ?_); clear hK K
    refine AW.seq_k (fun K1 hK1 => ?_)
    refine AW.cond _ rfl (fun hc => ?_) (fun hc => ?_)
    · refine AW.skip (hK1 _ _ ?_); clear hK1 K1
      have hil2 : i < ids.length := by have := of_decide_eq_true hc; omega
      have hat : ((intsA ids).drop (i * 1))[0]? = some (.v (.int .i64 ids[i])) := by rw [Nat.mul_one, List.getElem?_drop, Nat.add_zero]; exact intsA_at ids i hil2
      refine AW.seq_k (fun K1 hK1 => ?_)
      refine AW.block ?_
      refine AW.seq_region (fun K hK => ?_)
      refine AL.step rfl rfl rfl qRE4 ?_
      refine AL.step rfl rfl rfl qRB5 ?_
      refine AL.step rfl rfl rfl qRA18 ?_
      refine AL.nil_then (hK _ _ ?_); clear hK K
      refine AW.seq_region (fun K hK => ?_)
      refine AL.step rfl rfl rfl qRA19 ?_
      refine AL.step rfl rfl rfl (by exact AStepD.callf rfl en12 rfl (list_calls _ n L B r hR (by omega))) ?_
      refine AL.step rfl rfl rfl qRC9 ?_
      refine AL.step rfl rfl rfl qRA18 ?_
      refine AL.nil_then (hK _ _ ?_); clear hK K
      refine AW.seq_region (fun K hK => ?_)
      refine AL.step rfl rfl rfl qRA19 ?_
      refine AL.step rfl rfl rfl qRA19 ?_
      refine AL.call rfl rfl rfl (AStep.callf' rfl en13 rfl (add_calls _ n L B r ids[i] 0 hR hI.1 hI.2)) ?_; rintro _ H3 ⟨L3, rfl, hR3, hO3⟩
      refine AL.step rfl rfl rfl qRA18 ?_
      refine AL.nil_then (hK _ _ ?_); clear hK K
      by_cases he : addE r ids[i] 0 = 0
      · rw [if_pos he] at hR3
        have hI3 := hI.add he
        have hal := addR_length r ids[i]
        have ha15 := hI3.2
        refine AW.seq_region (fun K hK => ?_)
        refine AL.step rfl rfl rfl qRA19 ?_
        refine AL.step rfl rfl rfl (by exact AStepD.callf rfl en12 rfl (list_calls _ n L3 B _ hR3 (by omega))) ?_
        refine AL.step rfl rfl rfl qRC9 ?_
        refine AL.step rfl rfl rfl qRA18 ?_
        refine AL.nil_then (hK _ _ ?_); clear hK K
        refine AW.seq_region (fun K hK => ?_)
        refine AL.step rfl rfl rfl qRA19 ?_
        refine AL.step rfl rfl rfl (by exact AStepD.bool (AStepD.eql rfl rfl rfl) (decide_eq_true he)) ?_
        refine AL.step rfl rfl rfl qRA19 ?_
        first | refine AL.gstep rfl rfl rfl rfl rfl rfl rfl qRA19 ?_ | refine AL.gskip rfl rfl rfl rfl rfl rfl rfl ?_ | refine AL.gnone rfl rfl rfl rfl rfl ?_ | refine AL.gmay rfl rfl rfl rfl rfl rfl qRA34 ?_ | refine AL.gmay2 rfl rfl rfl rfl rfl rfl qRA35 ?_
        first | refine AL.gstep rfl rfl rfl rfl rfl rfl rfl qRA19 ?_ | refine AL.gskip rfl rfl rfl rfl rfl rfl rfl ?_ | refine AL.gnone rfl rfl rfl rfl rfl ?_ | refine AL.gmay rfl rfl rfl rfl rfl rfl qRB7 ?_ | refine AL.gmay2 rfl rfl rfl rfl rfl rfl qRB8 ?_
        first | refine AL.gstep rfl rfl rfl rfl rfl rfl rfl qRA22 ?_ | refine AL.gskip rfl rfl rfl rfl rfl rfl rfl ?_ | refine AL.gnone rfl rfl rfl rfl rfl ?_ | refine AL.gmay rfl rfl rfl rfl rfl rfl qRG2 ?_ | refine AL.gmay2 rfl rfl rfl rfl rfl rfl qRG3 ?_
        first | refine AL.gstep rfl rfl rfl rfl rfl rfl rfl (by exact AStepD.bool (AStepD.neq rfl rfl rfl) (c := false) (by simp [hal])) ?_ | refine AL.gskip rfl rfl rfl rfl rfl rfl rfl ?_ | refine AL.gnone rfl rfl rfl rfl rfl ?_ | refine AL.gmay rfl rfl rfl rfl rfl rfl (fun hb => by (try (apply AStepD.uncond 43 rfl (gpf hb))); (try (apply AStepD.uncond 45 rfl (gpf hb))); exact (by exact AStepD.bool (AStepD.neq rfl rfl rfl) (c := false) (by simp [hal]))) ?_ | refine AL.gmay2 rfl rfl rfl rfl rfl rfl (fun _ hb => by (try (apply AStepD.uncond 43 rfl (gpf hb))); (try (apply AStepD.uncond 45 rfl (gpf hb))); exact (by exact AStepD.bool (AStepD.neq rfl rfl rfl) (c := false) (by simp [hal]))) ?_
        first | refine AL.gstep rfl rfl rfl rfl rfl rfl rfl qRA19 ?_ | refine AL.gskip rfl rfl rfl rfl rfl rfl rfl ?_ | refine AL.gnone rfl rfl rfl rfl rfl ?_ | refine AL.gmay rfl rfl rfl rfl rfl rfl qRG4 ?_ | refine AL.gmay2 rfl rfl rfl rfl rfl rfl qRG5 ?_
        first | refine AL.gstep rfl rfl rfl rfl rfl rfl rfl qRA19 ?_ | refine AL.gskip rfl rfl rfl rfl rfl rfl rfl ?_ | refine AL.gnone rfl rfl rfl rfl rfl ?_ | refine AL.gmay rfl rfl rfl rfl rfl rfl qRA34 ?_ | refine AL.gmay2 rfl rfl rfl rfl rfl rfl qRA35 ?_
        first | refine AL.gstep rfl rfl rfl rfl rfl rfl rfl (by exact AStepD.bool (AStepD.gtr rfl rfl rfl) (c := false) (by simp; omega)) ?_ | refine AL.gskip rfl rfl rfl rfl rfl rfl rfl ?_ | refine AL.gnone rfl rfl rfl rfl rfl ?_ | refine AL.gmay rfl rfl rfl rfl rfl rfl (fun hb => by (try (apply AStepD.uncond 48 rfl (gpf hb))); exact (by exact AStepD.bool (AStepD.gtr rfl rfl rfl) (c := false) (by simp; omega))) ?_ | refine AL.gmay2 rfl rfl rfl rfl rfl rfl (fun _ hb => by (try (apply AStepD.uncond 48 rfl (gpf hb))); exact (by exact AStepD.bool (AStepD.gtr rfl rfl rfl) (c := false) (by simp; omega))) ?_
        first | refine AL.gstep rfl rfl rfl rfl rfl rfl rfl qRA28 ?_ | refine AL.gskip rfl rfl rfl rfl rfl rfl rfl ?_ | refine AL.gnone rfl rfl rfl rfl rfl ?_ | refine AL.gmay rfl rfl rfl rfl rfl rfl qRG6 ?_ | refine AL.gmay2 rfl rfl rfl rfl rfl rfl qRG7 ?_
        refine AL.step rfl rfl rfl qRA28 ?_
        refine AL.step rfl rfl rfl qRA19 ?_
        first | refine AL.gstep rfl rfl rfl rfl rfl rfl rfl qRA19 ?_ | refine AL.gskip rfl rfl rfl rfl rfl rfl rfl ?_ | refine AL.gnone rfl rfl rfl rfl rfl ?_ | refine AL.gmay rfl rfl rfl rfl rfl rfl qRG8 ?_ | refine AL.gmay2 rfl rfl rfl rfl rfl rfl qRG9 ?_
        first | refine AL.gstep rfl rfl rfl rfl rfl rfl rfl (by exact AStepD.bool (AStepD.neq rfl rfl rfl) (c := false) (by simp [he])) ?_ | refine AL.gskip rfl rfl rfl rfl rfl rfl rfl ?_ | refine AL.gnone rfl rfl rfl rfl rfl ?_ | refine AL.gmay rfl rfl rfl rfl rfl rfl (fun hb => by (try (apply AStepD.uncond 53 rfl (gpf hb))); exact (by exact AStepD.bool (AStepD.neq rfl rfl rfl) (c := false) (by simp [he]))) ?_ | refine AL.gmay2 rfl rfl rfl rfl rfl rfl (fun _ hb => by (try (apply AStepD.uncond 53 rfl (gpf hb))); exact (by exact AStepD.bool (AStepD.neq rfl rfl rfl) (c := false) (by simp [he]))) ?_
        first | refine AL.gstep rfl rfl rfl rfl rfl rfl rfl qRA19 ?_ | refine AL.gskip rfl rfl rfl rfl rfl rfl rfl ?_ | refine AL.gnone rfl rfl rfl rfl rfl ?_ | refine AL.gmay rfl rfl rfl rfl rfl rfl qRG10 ?_ | refine AL.gmay2 rfl rfl rfl rfl rfl rfl qRG11 ?_
        first | refine AL.gstep rfl rfl rfl rfl rfl rfl rfl qRA19 ?_ | refine AL.gskip rfl rfl rfl rfl rfl rfl rfl ?_ | refine AL.gnone rfl rfl rfl rfl rfl ?_ | refine AL.gmay rfl rfl rfl rfl rfl rfl qRA34 ?_ | refine AL.gmay2 rfl rfl rfl rfl rfl rfl qRA35 ?_
        first | refine AL.gstep rfl rfl rfl rfl rfl rfl rfl qRA19 ?_ | refine AL.gskip rfl rfl rfl rfl rfl rfl rfl ?_ | refine AL.gnone rfl rfl rfl rfl rfl ?_ | refine AL.gmay rfl rfl rfl rfl rfl rfl qRB7 ?_ | refine AL.gmay2 rfl rfl rfl rfl rfl rfl qRB8 ?_
        first | refine AL.gstep rfl rfl rfl rfl rfl rfl rfl qRA2 ?_ | refine AL.gskip rfl rfl rfl rfl rfl rfl rfl ?_ | refine AL.gnone rfl rfl rfl rfl rfl ?_ | refine AL.gmay rfl rfl rfl rfl rfl rfl (fun hb => by (try (apply AStepD.uncond 56 rfl (gpf hb))); (try (apply AStepD.uncond 57 rfl (gpf hb))); exact qRA2) ?_ | refine AL.gmay2 rfl rfl rfl rfl rfl rfl (fun _ hb => by (try (apply AStepD.uncond 56 rfl (gpf hb))); (try (apply AStepD.uncond 57 rfl (gpf hb))); exact qRA2) ?_
        first | refine AL.gstep rfl rfl rfl rfl rfl rfl rfl qRA28 ?_ | refine AL.gskip rfl rfl rfl rfl rfl rfl rfl ?_ | refine AL.gnone rfl rfl rfl rfl rfl ?_ | refine AL.gmay rfl rfl rfl rfl rfl rfl qRG12 ?_ | refine AL.gmay2 rfl rfl rfl rfl rfl rfl qRG13 ?_
        refine AL.step rfl rfl rfl qRA28 ?_
        refine AL.step rfl rfl rfl qRA19 ?_
        first | refine AL.gstep rfl rfl rfl rfl rfl rfl rfl qRA19 ?_ | refine AL.gskip rfl rfl rfl rfl rfl rfl rfl ?_ | refine AL.gnone rfl rfl rfl rfl rfl ?_ | refine AL.gmay rfl rfl rfl rfl rfl rfl qRG8 ?_ | refine AL.gmay2 rfl rfl rfl rfl rfl rfl qRG9 ?_
        first | refine AL.gstep rfl rfl rfl rfl rfl rfl rfl (by exact AStepD.bool (AStepD.eql rfl rfl rfl) (c := false) (by simp [he])) ?_ | refine AL.gskip rfl rfl rfl rfl rfl rfl rfl ?_ | refine AL.gnone rfl rfl rfl rfl rfl ?_ | refine AL.gmay rfl rfl rfl rfl rfl rfl (fun hb => by (try (apply AStepD.uncond 62 rfl (gpf hb))); exact (by exact AStepD.bool (AStepD.eql rfl rfl rfl) (c := false) (by simp [he]))) ?_ | refine AL.gmay2 rfl rfl rfl rfl rfl rfl (fun _ hb => by (try (apply AStepD.uncond 62 rfl (gpf hb))); exact (by exact AStepD.bool (AStepD.eql rfl rfl rfl) (c := false) (by simp [he]))) ?_
        first | refine AL.gstep rfl rfl rfl rfl rfl rfl rfl qRA19 ?_ | refine AL.gskip rfl rfl rfl rfl rfl rfl rfl ?_ | refine AL.gnone rfl rfl rfl rfl rfl ?_ | refine AL.gmay rfl rfl rfl rfl rfl rfl qRG14 ?_ | refine AL.gmay2 rfl rfl rfl rfl rfl rfl qRG15 ?_
        first | refine AL.gstep rfl rfl rfl rfl rfl rfl rfl qRA19 ?_ | refine AL.gskip rfl rfl rfl rfl rfl rfl rfl ?_ | refine AL.gnone rfl rfl rfl rfl rfl ?_ | refine AL.gmay rfl rfl rfl rfl rfl rfl qRB7 ?_ | refine AL.gmay2 rfl rfl rfl rfl rfl rfl qRB8 ?_
        first | refine AL.gstep rfl rfl rfl rfl rfl rfl rfl qRA2 ?_ | refine AL.gskip rfl rfl rfl rfl rfl rfl rfl ?_ | refine AL.gnone rfl rfl rfl rfl rfl ?_ | refine AL.gmay rfl rfl rfl rfl rfl rfl qRG16 ?_ | refine AL.gmay2 rfl rfl rfl rfl rfl rfl qRG17 ?_
        first | refine AL.gstep rfl rfl rfl rfl rfl rfl rfl qRA28 ?_ | refine AL.gskip rfl rfl rfl rfl rfl rfl rfl ?_ | refine AL.gnone rfl rfl rfl rfl rfl ?_ | refine AL.gmay rfl rfl rfl rfl rfl rfl qRG18 ?_ | refine AL.gmay2 rfl rfl rfl rfl rfl rfl qRG19 ?_
        refine AL.step rfl rfl rfl qRA28 ?_
        refine AL.nil_then (hK _ _ ?_); clear hK K
        refine AW.cond_false rfl rfl (AW.skip ?_)
        refine hK1 _ _ ?_; clear hK1 K1
        refine AW.region ?_
        refine AL.step rfl rfl rfl qRA22 ?_
        refine AL.step rfl rfl rfl qRA19 ?_
        refine AL.nil ?_
        refine ⟨(i + 1, L3, addR r ids[i]), ?_, qRA21, hil2, hI3, hR3⟩
        show ids.length - (i + 1) < ids.length - i
        omega
      · rw [if_neg he] at hR3
        refine AW.seq_region (fun K hK => ?_)
        refine AL.step rfl rfl rfl qRA19 ?_
        refine AL.step rfl rfl rfl (by exact AStepD.callf rfl en12 rfl (list_calls _ n L3 B _ hR3 (by omega))) ?_
        refine AL.step rfl rfl rfl qRC9 ?_
        refine AL.step rfl rfl rfl qRA18 ?_
        refine AL.nil_then (hK _ _ ?_); clear hK K
        have hfull : decide (addE r ids[i] 0 = 31) = true → decide ((r.ms.length : Int) ≠ 15) = false := by
          intro h
          have := addE_full (of_decide_eq_true h)
          simp [this]
        refine AW.seq_region (fun K hK => ?_)
        refine AL.step rfl rfl rfl qRA19 ?_
        refine AL.step rfl rfl rfl (by exact AStepD.bool (AStepD.eql rfl rfl rfl) (decide_eq_false he)) ?_
        refine AL.step rfl rfl rfl qRA19 ?_
        first | refine AL.gstep rfl rfl rfl rfl rfl rfl rfl qRA19 ?_ | refine AL.gskip rfl rfl rfl rfl rfl rfl rfl ?_ | refine AL.gnone rfl rfl rfl rfl rfl ?_ | refine AL.gmay rfl rfl rfl rfl rfl rfl qRA34 ?_ | refine AL.gmay2 rfl rfl rfl rfl rfl rfl qRA35 ?_
        first | refine AL.gstep rfl rfl rfl rfl rfl rfl rfl qRA19 ?_ | refine AL.gskip rfl rfl rfl rfl rfl rfl rfl ?_ | refine AL.gnone rfl rfl rfl rfl rfl ?_ | refine AL.gmay rfl rfl rfl rfl rfl rfl qRB7 ?_ | refine AL.gmay2 rfl rfl rfl rfl rfl rfl qRB8 ?_
        first | refine AL.gstep rfl rfl rfl rfl rfl rfl rfl qRA22 ?_ | refine AL.gskip rfl rfl rfl rfl rfl rfl rfl ?_ | refine AL.gnone rfl rfl rfl rfl rfl ?_ | refine AL.gmay rfl rfl rfl rfl rfl rfl qRG2 ?_ | refine AL.gmay2 rfl rfl rfl rfl rfl rfl qRG3 ?_
        first | refine AL.gstep rfl rfl rfl rfl rfl rfl rfl qRA2 ?_ | refine AL.gskip rfl rfl rfl rfl rfl rfl rfl ?_ | refine AL.gnone rfl rfl rfl rfl rfl ?_ | refine AL.gmay rfl rfl rfl rfl rfl rfl (fun hb => by (try (apply AStepD.uncond 43 rfl (gpf hb))); (try (apply AStepD.uncond 45 rfl (gpf hb))); exact qRA2) ?_ | refine AL.gmay2 rfl rfl rfl rfl rfl rfl (fun _ hb => by (try (apply AStepD.uncond 43 rfl (gpf hb))); (try (apply AStepD.uncond 45 rfl (gpf hb))); exact qRA2) ?_
        first | refine AL.gstep rfl rfl rfl rfl rfl rfl rfl qRA19 ?_ | refine AL.gskip rfl rfl rfl rfl rfl rfl rfl ?_ | refine AL.gnone rfl rfl rfl rfl rfl ?_ | refine AL.gmay rfl rfl rfl rfl rfl rfl qRG4 ?_ | refine AL.gmay2 rfl rfl rfl rfl rfl rfl qRG5 ?_
        first | refine AL.gstep rfl rfl rfl rfl rfl rfl rfl qRA19 ?_ | refine AL.gskip rfl rfl rfl rfl rfl rfl rfl ?_ | refine AL.gnone rfl rfl rfl rfl rfl ?_ | refine AL.gmay rfl rfl rfl rfl rfl rfl qRA34 ?_ | refine AL.gmay2 rfl rfl rfl rfl rfl rfl qRA35 ?_
        first | refine AL.gstep rfl rfl rfl rfl rfl rfl rfl qRG1 ?_ | refine AL.gskip rfl rfl rfl rfl rfl rfl rfl ?_ | refine AL.gnone rfl rfl rfl rfl rfl ?_ | refine AL.gmay rfl rfl rfl rfl rfl rfl (fun hb => by (try (apply AStepD.uncond 48 rfl (gpf hb))); exact qRG1) ?_ | refine AL.gmay2 rfl rfl rfl rfl rfl rfl (fun _ hb => by (try (apply AStepD.uncond 48 rfl (gpf hb))); exact qRG1) ?_
        first | refine AL.gstep rfl rfl rfl rfl rfl rfl rfl qRA28 ?_ | refine AL.gskip rfl rfl rfl rfl rfl rfl rfl ?_ | refine AL.gnone rfl rfl rfl rfl rfl ?_ | refine AL.gmay rfl rfl rfl rfl rfl rfl qRG6 ?_ | refine AL.gmay2 rfl rfl rfl rfl rfl rfl qRG7 ?_
        refine AL.step rfl rfl rfl qRA28 ?_
        refine AL.step rfl rfl rfl qRA19 ?_
        first | refine AL.gstep rfl rfl rfl rfl rfl rfl rfl qRA19 ?_ | refine AL.gskip rfl rfl rfl rfl rfl rfl rfl ?_ | refine AL.gnone rfl rfl rfl rfl rfl ?_ | refine AL.gmay rfl rfl rfl rfl rfl rfl qRG8 ?_ | refine AL.gmay2 rfl rfl rfl rfl rfl rfl qRG9 ?_
        first | refine AL.gstep rfl rfl rfl rfl rfl rfl rfl (by exact AStepD.bool (AStepD.neq rfl rfl rfl) (decide_eq_true he)) ?_ | refine AL.gskip rfl rfl rfl rfl rfl rfl rfl ?_ | refine AL.gnone rfl rfl rfl rfl rfl ?_ | refine AL.gmay rfl rfl rfl rfl rfl rfl (fun hb => by (try (apply AStepD.uncond 53 rfl (gpf hb))); exact (by exact AStepD.bool (AStepD.neq rfl rfl rfl) (decide_eq_true he))) ?_ | refine AL.gmay2 rfl rfl rfl rfl rfl rfl (fun _ hb => by (try (apply AStepD.uncond 53 rfl (gpf hb))); exact (by exact AStepD.bool (AStepD.neq rfl rfl rfl) (decide_eq_true he))) ?_
        first | refine AL.gstep rfl rfl rfl rfl rfl rfl rfl qRA19 ?_ | refine AL.gskip rfl rfl rfl rfl rfl rfl rfl ?_ | refine AL.gnone rfl rfl rfl rfl rfl ?_ | refine AL.gmay rfl rfl rfl rfl rfl rfl qRG10 ?_ | refine AL.gmay2 rfl rfl rfl rfl rfl rfl qRG11 ?_
        first | refine AL.gstep rfl rfl rfl rfl rfl rfl rfl qRA19 ?_ | refine AL.gskip rfl rfl rfl rfl rfl rfl rfl ?_ | refine AL.gnone rfl rfl rfl rfl rfl ?_ | refine AL.gmay rfl rfl rfl rfl rfl rfl qRA34 ?_ | refine AL.gmay2 rfl rfl rfl rfl rfl rfl qRA35 ?_
        first | refine AL.gstep rfl rfl rfl rfl rfl rfl rfl qRA19 ?_ | refine AL.gskip rfl rfl rfl rfl rfl rfl rfl ?_ | refine AL.gnone rfl rfl rfl rfl rfl ?_ | refine AL.gmay rfl rfl rfl rfl rfl rfl qRB7 ?_ | refine AL.gmay2 rfl rfl rfl rfl rfl rfl qRB8 ?_
        first | refine AL.gstep rfl rfl rfl rfl rfl rfl rfl (by exact AStepD.bool (AStepD.neq rfl rfl rfl) (c := false) (by simp)) ?_ | refine AL.gskip rfl rfl rfl rfl rfl rfl rfl ?_ | refine AL.gnone rfl rfl rfl rfl rfl ?_ | refine AL.gmay rfl rfl rfl rfl rfl rfl (fun hb => by (try (apply AStepD.uncond 56 rfl (gpf hb))); (try (apply AStepD.uncond 57 rfl (gpf hb))); exact (by exact AStepD.bool (AStepD.neq rfl rfl rfl) (c := false) (by simp))) ?_ | refine AL.gmay2 rfl rfl rfl rfl rfl rfl (fun _ hb => by (try (apply AStepD.uncond 56 rfl (gpf hb))); (try (apply AStepD.uncond 57 rfl (gpf hb))); exact (by exact AStepD.bool (AStepD.neq rfl rfl rfl) (c := false) (by simp))) ?_
        first | refine AL.gstep rfl rfl rfl rfl rfl rfl rfl qRA28 ?_ | refine AL.gskip rfl rfl rfl rfl rfl rfl rfl ?_ | refine AL.gnone rfl rfl rfl rfl rfl ?_ | refine AL.gmay rfl rfl rfl rfl rfl rfl qRG12 ?_ | refine AL.gmay2 rfl rfl rfl rfl rfl rfl qRG13 ?_
        refine AL.step rfl rfl rfl qRA28 ?_
        refine AL.step rfl rfl rfl qRA19 ?_
        first | refine AL.gstep rfl rfl rfl rfl rfl rfl rfl qRA19 ?_ | refine AL.gskip rfl rfl rfl rfl rfl rfl rfl ?_ | refine AL.gnone rfl rfl rfl rfl rfl ?_ | refine AL.gmay rfl rfl rfl rfl rfl rfl qRG8 ?_ | refine AL.gmay2 rfl rfl rfl rfl rfl rfl qRG9 ?_
        first | refine AL.gstep rfl rfl rfl rfl rfl rfl rfl qRA16 ?_ | refine AL.gskip rfl rfl rfl rfl rfl rfl rfl ?_ | refine AL.gnone rfl rfl rfl rfl rfl ?_ | refine AL.gmay rfl rfl rfl rfl rfl rfl (fun hb => by (try (apply AStepD.uncond 62 rfl (gpf hb))); exact qRA16) ?_ | refine AL.gmay2 rfl rfl rfl rfl rfl rfl (fun _ hb => by (try (apply AStepD.uncond 62 rfl (gpf hb))); exact qRA16) ?_
        first | refine AL.gstep rfl rfl rfl rfl rfl rfl rfl qRA19 ?_ | refine AL.gskip rfl rfl rfl rfl rfl rfl rfl ?_ | refine AL.gnone rfl rfl rfl rfl rfl ?_ | refine AL.gmay rfl rfl rfl rfl rfl rfl qRG14 ?_ | refine AL.gmay2 rfl rfl rfl rfl rfl rfl qRG15 ?_
        first | refine AL.gstep rfl rfl rfl rfl rfl rfl rfl qRA19 ?_ | refine AL.gskip rfl rfl rfl rfl rfl rfl rfl ?_ | refine AL.gnone rfl rfl rfl rfl rfl ?_ | refine AL.gmay rfl rfl rfl rfl rfl rfl qRB7 ?_ | refine AL.gmay2 rfl rfl rfl rfl rfl rfl qRB8 ?_
        first | refine AL.gstep rfl rfl rfl rfl rfl rfl rfl qRA2 ?_ | refine AL.gskip rfl rfl rfl rfl rfl rfl rfl ?_ | refine AL.gnone rfl rfl rfl rfl rfl ?_ | refine AL.gmay rfl rfl rfl rfl rfl rfl qRG16 ?_ | refine AL.gmay2 rfl rfl rfl rfl rfl rfl qRG17 ?_
        first | refine AL.gstep rfl rfl rfl rfl rfl rfl rfl qRA28 ?_ | refine AL.gskip rfl rfl rfl rfl rfl rfl rfl ?_ | refine AL.gnone rfl rfl rfl rfl rfl ?_ | refine AL.gmay rfl rfl rfl rfl rfl rfl qRG18 ?_ | refine AL.gmay2 rfl rfl rfl rfl rfl rfl qRG19 ?_
        refine AL.step rfl rfl rfl qRA28 ?_
        refine AL.nil_then (hK _ _ ?_); clear hK K
        refine AW.cond_false rfl (by cases hd : decide (addE r ids[i] 0 = 31) with | false => rfl | true => (rw [hfull hd]; rfl)) (AW.skip ?_)
        refine hK1 _ _ ?_; clear hK1 K1
        refine AW.region ?_
        refine AL.step rfl rfl rfl qRA22 ?_
        refine AL.step rfl rfl rfl qRA19 ?_
        refine AL.nil ?_
        refine ⟨(i + 1, L3, r), ?_, qRA21, hil2, hI, hR3⟩
        show ids.length - (i + 1) < ids.length - i
        omega
    · refine AW.exit ?_
      refine hK _ _ ?_; clear hK1 K1 hK K
      refine AW.seq_region (fun K hK => ?_)
      refine AL.step rfl rfl rfl qRA18 ?_
      refine AL.nil_then (hK _ _ ?_); clear hK K
      exact AW.ret (RetQ.mk (.inr rfl) (retA_tmp rfl qRA1 retA_nil) rfl)
end Go.Proofs.Ytjiifddmcmbbnaa
