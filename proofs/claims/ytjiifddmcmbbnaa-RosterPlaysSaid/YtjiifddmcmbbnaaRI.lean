/- The walk of the statement on bans. -/
import Derived.Test.YtjiifddmcmbbnaaRH
namespace Go.Proofs.Ytjiifddmcmbbnaa
open Go.Ax
theorem qRI1 {p : Prop} (h : p := by exact AStepD.gtr rfl rfl rfl) : p := h
set_option linter.unusedSimpArgs false
set_option linter.unusedVariables false

theorem forget_ok (H : AHeap) (n L B : Nat) (r : Ros) (w t : Int) (hR : RosAt H n L B r) (hI : Inv r) (he : forE r w t = 0) :
    ACalls Try.prog 17 [.ptr n 0, .v (.int .i64 w), .v (.int .i64 t)] H (fun v H' => v = .v (.int .i64 0) ∧ RosAt H' n L B (forR r w t) ∧ Only H H' n L B L) := by
  have := forget_calls H n L B r w t hR hI
  simpa only [he, if_true] using this
theorem forget_no (H : AHeap) (n L B : Nat) (r : Ros) (w t e : Int) (hR : RosAt H n L B r) (hI : Inv r) (he : forE r w t = e) (h0 : e ≠ 0) :
    ACalls Try.prog 17 [.ptr n 0, .v (.int .i64 w), .v (.int .i64 t)] H (fun v H' => v = .v (.int .i64 e) ∧ RosAt H' n L B r ∧ Only H H' n L B L) := by
  have := forget_calls H n L B r w t hR hI
  simpa only [he, if_neg h0] using this
theorem add_no (H : AHeap) (n L B : Nat) (r : Ros) (w t e : Int) (hR : RosAt H n L B r) (hi : Inv r) (he : addE r w t = e) (h0 : e ≠ 0) :
    ACalls Try.prog 13 [.ptr n 0, .v (.int .i64 w), .v (.int .i64 t)] H (fun v H' => ∃ L', v = .v (.int .i64 e) ∧ RosAt H' n L' B r ∧ Only H H' n L B L') := by
  have := add_calls H n L B r w t hR hi.1 hi.2
  simpa only [he, if_neg h0] using this

theorem bans_law (id t u : Int) : ACalls Try.prog 7 [.v (.int .i64 id), .v (.int .i64 t), .v (.int .i64 u)] AHeap.empty (fun v _ => v = .v (.bool true)) := by
  refine ACalls.of_body tok Try.func7 rfl Try.ntmps7 (Nat.le_of_ble_eq_true rfl) ?_
  refine AW.seq_region (fun K hK => ?_)
  refine AL.step rfl rfl rfl qRA18 ?_
  refine AL.nil_then (hK _ _ ?_); clear hK K
  refine AW.seq_k (fun K hK => ?_)
  refine AW.seq_region (fun K hK => ?_)
  refine AL.step rfl rfl rfl (by exact AStepD.callf rfl en10 rfl (anchor_calls _)) ?_
  refine AL.step rfl rfl rfl qRB9 ?_
  refine AL.nil_then (hK _ _ ?_); clear hK K
  refine AW.cond_false rfl rfl (AW.skip (hK _ _ ?_)); clear hK K
  refine AW.seq_region (fun K hK => ?_)
  refine AL.call rfl rfl rfl (AStep.callf' rfl en11 rfl (new_ok _ 1 rfl)) ?_; rintro _ H1 ⟨rfl, hR1, hk1, hx1⟩
  refine AL.step rfl rfl rfl qRA19 ?_
  refine AL.step rfl rfl rfl qRB6 ?_
  refine AL.step rfl rfl rfl qRB6 ?_
  refine AL.step rfl rfl rfl qRA18 ?_
  refine AL.step rfl rfl rfl qRA18 ?_
  refine AL.nil_then (hK _ _ ?_); clear hK K
  refine AW.seq_k (fun K hK => ?_)
  refine AW.seq_region (fun K hK => ?_)
  refine AL.step rfl rfl rfl qRA19 ?_
  refine AL.step rfl rfl rfl qRA2 ?_
  refine AL.step rfl rfl rfl qRA19 ?_
  first | refine AL.gstep rfl rfl rfl rfl rfl rfl rfl qRA19 ?_ | refine AL.gskip rfl rfl rfl rfl rfl rfl rfl ?_ | refine AL.gnone rfl rfl rfl rfl rfl ?_ | refine AL.gmay rfl rfl rfl rfl rfl rfl qRA32 ?_ | refine AL.gmay2 rfl rfl rfl rfl rfl rfl qRA33 ?_
  first | refine AL.gstep rfl rfl rfl rfl rfl rfl rfl qRA3 ?_ | refine AL.gskip rfl rfl rfl rfl rfl rfl rfl ?_ | refine AL.gnone rfl rfl rfl rfl rfl ?_ | refine AL.gmay rfl rfl rfl rfl rfl rfl (fun hb => by (try (apply AStepD.uncond 19 rfl (gpf hb))); exact qRA3) ?_ | refine AL.gmay2 rfl rfl rfl rfl rfl rfl (fun _ hb => by (try (apply AStepD.uncond 19 rfl (gpf hb))); exact qRA3) ?_
  refine AL.step rfl rfl rfl qRA28 ?_
  refine AL.step rfl rfl rfl qRA19 ?_
  first | refine AL.gstep rfl rfl rfl rfl rfl rfl rfl qRA19 ?_ | refine AL.gskip rfl rfl rfl rfl rfl rfl rfl ?_ | refine AL.gnone rfl rfl rfl rfl rfl ?_ | refine AL.gmay rfl rfl rfl rfl rfl rfl qRA32 ?_ | refine AL.gmay2 rfl rfl rfl rfl rfl rfl qRA33 ?_
  first | refine AL.gstep rfl rfl rfl rfl rfl rfl rfl qRI1 ?_ | refine AL.gskip rfl rfl rfl rfl rfl rfl rfl ?_ | refine AL.gnone rfl rfl rfl rfl rfl ?_ | refine AL.gmay rfl rfl rfl rfl rfl rfl (fun hb => by (try (apply AStepD.uncond 23 rfl (gpf hb))); exact qRI1) ?_ | refine AL.gmay2 rfl rfl rfl rfl rfl rfl (fun _ hb => by (try (apply AStepD.uncond 23 rfl (gpf hb))); exact qRI1) ?_
  refine AL.step rfl rfl rfl qRA28 ?_
  refine AL.step rfl rfl rfl qRA19 ?_
  first | refine AL.gstep rfl rfl rfl rfl rfl rfl rfl qRA19 ?_ | refine AL.gskip rfl rfl rfl rfl rfl rfl rfl ?_ | refine AL.gnone rfl rfl rfl rfl rfl ?_ | refine AL.gmay rfl rfl rfl rfl rfl rfl qRA40 ?_ | refine AL.gmay2 rfl rfl rfl rfl rfl rfl qRA41 ?_
  first | refine AL.gstep rfl rfl rfl rfl rfl rfl rfl qRA3 ?_ | refine AL.gskip rfl rfl rfl rfl rfl rfl rfl ?_ | refine AL.gnone rfl rfl rfl rfl rfl ?_ | refine AL.gmay rfl rfl rfl rfl rfl rfl (fun hb => by (try (apply AStepD.uncond 27 rfl (gpf hb))); exact qRA3) ?_ | refine AL.gmay2 rfl rfl rfl rfl rfl rfl (fun _ hb => by (try (apply AStepD.uncond 27 rfl (gpf hb))); exact qRA3) ?_
  refine AL.step rfl rfl rfl qRA28 ?_
  refine AL.step rfl rfl rfl qRA19 ?_
  first | refine AL.gstep rfl rfl rfl rfl rfl rfl rfl qRA19 ?_ | refine AL.gskip rfl rfl rfl rfl rfl rfl rfl ?_ | refine AL.gnone rfl rfl rfl rfl rfl ?_ | refine AL.gmay rfl rfl rfl rfl rfl rfl qRA40 ?_ | refine AL.gmay2 rfl rfl rfl rfl rfl rfl qRA41 ?_
  first | refine AL.gstep rfl rfl rfl rfl rfl rfl rfl qRI1 ?_ | refine AL.gskip rfl rfl rfl rfl rfl rfl rfl ?_ | refine AL.gnone rfl rfl rfl rfl rfl ?_ | refine AL.gmay rfl rfl rfl rfl rfl rfl (fun hb => by (try (apply AStepD.uncond 31 rfl (gpf hb))); exact qRI1) ?_ | refine AL.gmay2 rfl rfl rfl rfl rfl rfl (fun _ hb => by (try (apply AStepD.uncond 31 rfl (gpf hb))); exact qRI1) ?_
  refine AL.step rfl rfl rfl qRA28 ?_
  refine AL.step rfl rfl rfl qRA19 ?_
  first | refine AL.gstep rfl rfl rfl rfl rfl rfl rfl qRA19 ?_ | refine AL.gskip rfl rfl rfl rfl rfl rfl rfl ?_ | refine AL.gnone rfl rfl rfl rfl rfl ?_ | refine AL.gmay rfl rfl rfl rfl rfl rfl qRA30 ?_ | refine AL.gmay2 rfl rfl rfl rfl rfl rfl qRA31 ?_
  first | refine AL.gstep rfl rfl rfl rfl rfl rfl rfl qRA19 ?_ | refine AL.gskip rfl rfl rfl rfl rfl rfl rfl ?_ | refine AL.gnone rfl rfl rfl rfl rfl ?_ | refine AL.gmay rfl rfl rfl rfl rfl rfl qRA40 ?_ | refine AL.gmay2 rfl rfl rfl rfl rfl rfl qRA41 ?_
  first | refine AL.gstep rfl rfl rfl rfl rfl rfl rfl qRA3 ?_ | refine AL.gskip rfl rfl rfl rfl rfl rfl rfl ?_ | refine AL.gnone rfl rfl rfl rfl rfl ?_ | refine AL.gmay rfl rfl rfl rfl rfl rfl (fun hb => by (try (apply AStepD.uncond 35 rfl (gpf hb))); (try (apply AStepD.uncond 36 rfl (gpf hb))); exact qRA3) ?_ | refine AL.gmay2 rfl rfl rfl rfl rfl rfl (fun _ hb => by (try (apply AStepD.uncond 35 rfl (gpf hb))); (try (apply AStepD.uncond 36 rfl (gpf hb))); exact qRA3) ?_
  refine AL.step rfl rfl rfl qRA28 ?_
  refine AL.step rfl rfl rfl qRA19 ?_
  first | refine AL.gstep rfl rfl rfl rfl rfl rfl rfl qRA19 ?_ | refine AL.gskip rfl rfl rfl rfl rfl rfl rfl ?_ | refine AL.gnone rfl rfl rfl rfl rfl ?_ | refine AL.gmay rfl rfl rfl rfl rfl rfl qRA30 ?_ | refine AL.gmay2 rfl rfl rfl rfl rfl rfl qRA31 ?_
  first | refine AL.gstep rfl rfl rfl rfl rfl rfl rfl qRI1 ?_ | refine AL.gskip rfl rfl rfl rfl rfl rfl rfl ?_ | refine AL.gnone rfl rfl rfl rfl rfl ?_ | refine AL.gmay rfl rfl rfl rfl rfl rfl (fun hb => by (try (apply AStepD.uncond 40 rfl (gpf hb))); exact qRI1) ?_ | refine AL.gmay2 rfl rfl rfl rfl rfl rfl (fun _ hb => by (try (apply AStepD.uncond 40 rfl (gpf hb))); exact qRI1) ?_
  refine AL.step rfl rfl rfl qRA28 ?_
  refine AL.nil_then (hK _ _ ?_); clear hK K
  refine AW.cond _ rfl (fun hc => ?_) (fun hc => ?_)
  · refine AW.seq_region (fun K hK => ?_)
    refine AL.step rfl rfl rfl qRA19 ?_
    refine AL.step rfl rfl rfl qRA16 ?_
    refine AL.step rfl rfl rfl qRA18 ?_
    refine AL.nil_then (hK _ _ ?_); clear hK K
    exact AW.ret (RetQ.mk (.inr rfl) (retA_tmp rfl qRA1 retA_nil) rfl)
  refine AW.skip (hK _ _ ?_); clear hK K
  have hb : 2 ≤ id ∧ id ≤ 4294967296 ∧ 0 ≤ t ∧ t ≤ 549755813888 ∧ t ≤ u ∧ u ≤ 1099511627776 := by
    simp only [Bool.or_eq_false_iff, decide_eq_false_iff_not] at hc
    omega
  clear hc
  obtain ⟨b1, b2, b3, b4, b5, b6⟩ := hb
  refine AW.sub (T' := [(7, .ptr (AHeap.empty.next + 1) 0), (0, .v (.int .i64 id)), (1, .v (.int .i64 t)), (2, .v (.int .i64 u))]) qRA21 ?_
  clear hk1 hx1
  generalize AHeap.empty.next + 1 = n at hR1 ⊢
  generalize AHeap.empty.next = B at hR1 ⊢
  have hidB : idB id = true := by simp [idB]; omega
  have htB : timeB t = true := by simp [timeB]; omega
  have huB : timeB u = true := by simp [timeB]; omega
  have a1 : asked 1 id t = 0 := by rw [asked, hidB, htB, if_neg (by decide), if_neg (by omega)]
  have a2 : asked 1 id u = 0 := by rw [asked, hidB, huB, if_neg (by decide), if_neg (by omega)]
  have e1 : addE ⟨1, [], [], 0⟩ id t = 0 := by simp [addE, a1, has, banned, getB]
  have i1 := (Inv.new 1).add e1
  have r1 : addR ⟨1, [], [], 0⟩ id = ⟨1, [fresh id], [], 0⟩ := rfl
  rw [r1] at i1
  have e2 : forE ⟨1, [fresh id], [], 0⟩ id t = 0 := by simp [forE, a1, has, fresh]
  have i2 := i1.forget (w := id) (t := t)
  have r2 : forR ⟨1, [fresh id], [], 0⟩ id t = ⟨1, [], [(id, t + 60000)], 0⟩ := by simp [forR, pos, fresh, putB]
  rw [r2] at i2
  have e3 : forE ⟨1, [], [(id, t + 60000)], 0⟩ id t = 30 := by simp [forE, a1, has]
  refine AW.seq_k (fun K hK => ?_)
  refine AW.seq_region (fun K hK => ?_)
  refine AL.step rfl rfl rfl qRA19 ?_
  refine AL.step rfl rfl rfl qRA19 ?_
  refine AL.step rfl rfl rfl qRA19 ?_
  refine AL.call rfl rfl rfl (AStep.callf' rfl en13 rfl (add_ok _ _ _ _ _ id t hR1 (Inv.new 1) e1)) ?_; rintro _ H2 ⟨L2, rfl, hR2, -⟩; rw [r1] at hR2
  refine AL.step rfl rfl rfl qRA2 ?_
  refine AL.step rfl rfl rfl qRA19 ?_
  first | refine AL.gstep rfl rfl rfl rfl rfl rfl rfl qRA19 ?_ | refine AL.gskip rfl rfl rfl rfl rfl rfl rfl ?_ | refine AL.gnone rfl rfl rfl rfl rfl ?_ | refine AL.gmay rfl rfl rfl rfl rfl rfl qRB7 ?_ | refine AL.gmay2 rfl rfl rfl rfl rfl rfl qRB8 ?_
  first | refine AL.gstep rfl rfl rfl rfl rfl rfl rfl qRA19 ?_ | refine AL.gskip rfl rfl rfl rfl rfl rfl rfl ?_ | refine AL.gnone rfl rfl rfl rfl rfl ?_ | refine AL.gmay rfl rfl rfl rfl rfl rfl qRA32 ?_ | refine AL.gmay2 rfl rfl rfl rfl rfl rfl qRA33 ?_
  first | refine AL.gstep rfl rfl rfl rfl rfl rfl rfl qRA19 ?_ | refine AL.gskip rfl rfl rfl rfl rfl rfl rfl ?_ | refine AL.gnone rfl rfl rfl rfl rfl ?_ | refine AL.gmay rfl rfl rfl rfl rfl rfl qRA40 ?_ | refine AL.gmay2 rfl rfl rfl rfl rfl rfl qRA41 ?_
  refine AL.gcall rfl rfl rfl rfl rfl rfl rfl (AStep.callf' rfl en17 rfl (forget_ok _ _ _ _ _ id t hR2 i1 e2)) ?_; rintro _ H3 ⟨rfl, hR3, -⟩; rw [r2] at hR3
  first | refine AL.gstep rfl rfl rfl rfl rfl rfl rfl qRA2 ?_ | refine AL.gskip rfl rfl rfl rfl rfl rfl rfl ?_ | refine AL.gnone rfl rfl rfl rfl rfl ?_ | refine AL.gmay rfl rfl rfl rfl rfl rfl (fun hb => by (try (apply AStepD.uncond 54 rfl (gpf hb))); exact qRA2) ?_ | refine AL.gmay2 rfl rfl rfl rfl rfl rfl (fun _ hb => by (try (apply AStepD.uncond 54 rfl (gpf hb))); exact qRA2) ?_
  refine AL.step rfl rfl rfl qRA28 ?_
  refine AL.step rfl rfl rfl qRA19 ?_
  first | refine AL.gstep rfl rfl rfl rfl rfl rfl rfl qRA19 ?_ | refine AL.gskip rfl rfl rfl rfl rfl rfl rfl ?_ | refine AL.gnone rfl rfl rfl rfl rfl ?_ | refine AL.gmay rfl rfl rfl rfl rfl rfl qRB7 ?_ | refine AL.gmay2 rfl rfl rfl rfl rfl rfl qRB8 ?_
  first | refine AL.gstep rfl rfl rfl rfl rfl rfl rfl qRA19 ?_ | refine AL.gskip rfl rfl rfl rfl rfl rfl rfl ?_ | refine AL.gnone rfl rfl rfl rfl rfl ?_ | refine AL.gmay rfl rfl rfl rfl rfl rfl qRA32 ?_ | refine AL.gmay2 rfl rfl rfl rfl rfl rfl qRA33 ?_
  first | refine AL.gstep rfl rfl rfl rfl rfl rfl rfl qRA19 ?_ | refine AL.gskip rfl rfl rfl rfl rfl rfl rfl ?_ | refine AL.gnone rfl rfl rfl rfl rfl ?_ | refine AL.gmay rfl rfl rfl rfl rfl rfl qRA40 ?_ | refine AL.gmay2 rfl rfl rfl rfl rfl rfl qRA41 ?_
  refine AL.gcall rfl rfl rfl rfl rfl rfl rfl (AStep.callf' rfl en17 rfl (forget_no _ _ _ _ _ id t 30 hR3 i2 e3 (by decide))) ?_; rintro _ H4 ⟨rfl, hR4, -⟩
  first | refine AL.gstep rfl rfl rfl rfl rfl rfl rfl qRA2 ?_ | refine AL.gskip rfl rfl rfl rfl rfl rfl rfl ?_ | refine AL.gnone rfl rfl rfl rfl rfl ?_ | refine AL.gmay rfl rfl rfl rfl rfl rfl (fun hb => by (try (apply AStepD.uncond 61 rfl (gpf hb))); exact qRA2) ?_ | refine AL.gmay2 rfl rfl rfl rfl rfl rfl (fun _ hb => by (try (apply AStepD.uncond 61 rfl (gpf hb))); exact qRA2) ?_
  refine AL.step rfl rfl rfl qRA28 ?_
  refine AL.nil_then (hK _ _ ?_); clear hK K
  refine AW.cond_false rfl rfl (AW.skip (hK _ _ ?_)); clear hK K
  by_cases hle : u ≤ t + 60000
  · have e4 : addE ⟨1, [], [(id, t + 60000)], 0⟩ id u = 34 := by simp [addE, a2, has, banned, getB, hle]
    refine AW.seq_region (fun K hK => ?_)
    refine AL.step rfl rfl rfl qRA19 ?_
    refine AL.step rfl rfl rfl qRA19 ?_
    refine AL.step rfl rfl rfl qRA19 ?_
    refine AL.call rfl rfl rfl (AStep.callf' rfl en13 rfl (add_no _ _ _ _ _ id u 34 hR4 i2 e4 (by decide))) ?_; rintro _ H5 ⟨L5, rfl, hR5, -⟩
    refine AL.step rfl rfl rfl qRA18 ?_
    refine AL.nil_then (hK _ _ ?_); clear hK K
    refine AW.seq_k (fun K hK => ?_)
    refine AW.seq_region (fun K hK => ?_)
    refine AL.step rfl rfl rfl qRA19 ?_
    refine AL.step rfl rfl rfl qRA19 ?_
    refine AL.step rfl rfl rfl qRA22 ?_
    refine AL.step rfl rfl rfl qRB2 ?_
    refine AL.nil_then (hK _ _ ?_); clear hK K
    refine AW.cond_true rfl (decide_eq_true hle) ?_
    have hbn : banned [(id, t + 60000)] id u = true := by simp [banned, getB, hle]
    have hbc := banned_calls H5 n L5 B _ id u hR5
    simp only [hbn] at hbc
    refine AW.seq_region (fun K hK => ?_)
    refine AL.step rfl rfl rfl qRA19 ?_
    refine AL.step rfl rfl rfl qRA16 ?_
    refine AL.step rfl rfl rfl qRA19 ?_
    first | refine AL.gstep rfl rfl rfl rfl rfl rfl rfl qRA19 ?_ | refine AL.gskip rfl rfl rfl rfl rfl rfl rfl ?_ | refine AL.gnone rfl rfl rfl rfl rfl ?_ | refine AL.gmay rfl rfl rfl rfl rfl rfl qRB7 ?_ | refine AL.gmay2 rfl rfl rfl rfl rfl rfl qRB8 ?_
    first | refine AL.gstep rfl rfl rfl rfl rfl rfl rfl qRA19 ?_ | refine AL.gskip rfl rfl rfl rfl rfl rfl rfl ?_ | refine AL.gnone rfl rfl rfl rfl rfl ?_ | refine AL.gmay rfl rfl rfl rfl rfl rfl qRA32 ?_ | refine AL.gmay2 rfl rfl rfl rfl rfl rfl qRA33 ?_
    first | refine AL.gstep rfl rfl rfl rfl rfl rfl rfl qRA19 ?_ | refine AL.gskip rfl rfl rfl rfl rfl rfl rfl ?_ | refine AL.gnone rfl rfl rfl rfl rfl ?_ | refine AL.gmay rfl rfl rfl rfl rfl rfl qRA30 ?_ | refine AL.gmay2 rfl rfl rfl rfl rfl rfl qRA31 ?_
    first | refine AL.gstep rfl rfl rfl rfl rfl rfl rfl (by exact AStepD.callf rfl en18 rfl hbc) ?_ | refine AL.gskip rfl rfl rfl rfl rfl rfl rfl ?_ | refine AL.gnone rfl rfl rfl rfl rfl ?_ | refine AL.gmay rfl rfl rfl rfl rfl rfl (fun hb => by (try (apply AStepD.uncond 75 rfl (gpf hb))); (try (apply AStepD.uncond 76 rfl (gpf hb))); (try (apply AStepD.uncond 77 rfl (gpf hb))); exact (by exact AStepD.callf rfl en18 rfl hbc)) ?_ | refine AL.gmay2 rfl rfl rfl rfl rfl rfl (fun _ hb => by (try (apply AStepD.uncond 75 rfl (gpf hb))); (try (apply AStepD.uncond 76 rfl (gpf hb))); (try (apply AStepD.uncond 77 rfl (gpf hb))); exact (by exact AStepD.callf rfl en18 rfl hbc)) ?_
    refine AL.step rfl rfl rfl qRA28 ?_
    refine AL.step rfl rfl rfl qRA19 ?_
    first | refine AL.gstep rfl rfl rfl rfl rfl rfl rfl qRA19 ?_ | refine AL.gskip rfl rfl rfl rfl rfl rfl rfl ?_ | refine AL.gnone rfl rfl rfl rfl rfl ?_ | refine AL.gmay rfl rfl rfl rfl rfl rfl qRB7 ?_ | refine AL.gmay2 rfl rfl rfl rfl rfl rfl qRB8 ?_
    first | refine AL.gstep rfl rfl rfl rfl rfl rfl rfl (by exact AStepD.callf rfl en12 rfl (list_calls _ n L5 B _ hR5 (by simp))) ?_ | refine AL.gskip rfl rfl rfl rfl rfl rfl rfl ?_ | refine AL.gnone rfl rfl rfl rfl rfl ?_ | refine AL.gmay rfl rfl rfl rfl rfl rfl (fun hb => by (try (apply AStepD.uncond 81 rfl (gpf hb))); exact (by exact AStepD.callf rfl en12 rfl (list_calls _ n L5 B _ hR5 (by simp)))) ?_ | refine AL.gmay2 rfl rfl rfl rfl rfl rfl (fun _ hb => by (try (apply AStepD.uncond 81 rfl (gpf hb))); exact (by exact AStepD.callf rfl en12 rfl (list_calls _ n L5 B _ hR5 (by simp)))) ?_
    first | refine AL.gstep rfl rfl rfl rfl rfl rfl rfl qRC9 ?_ | refine AL.gskip rfl rfl rfl rfl rfl rfl rfl ?_ | refine AL.gnone rfl rfl rfl rfl rfl ?_ | refine AL.gmay rfl rfl rfl rfl rfl rfl (fun hb => by (try (apply AStepD.uncond 82 rfl (gpf hb))); exact qRC9) ?_ | refine AL.gmay2 rfl rfl rfl rfl rfl rfl (fun _ hb => by (try (apply AStepD.uncond 82 rfl (gpf hb))); exact qRC9) ?_
    first | refine AL.gstep rfl rfl rfl rfl rfl rfl rfl qRA16 ?_ | refine AL.gskip rfl rfl rfl rfl rfl rfl rfl ?_ | refine AL.gnone rfl rfl rfl rfl rfl ?_ | refine AL.gmay rfl rfl rfl rfl rfl rfl (fun hb => by (try (apply AStepD.uncond 83 rfl (gpf hb))); exact qRA16) ?_ | refine AL.gmay2 rfl rfl rfl rfl rfl rfl (fun _ hb => by (try (apply AStepD.uncond 83 rfl (gpf hb))); exact qRA16) ?_
    refine AL.step rfl rfl rfl qRA28 ?_
    refine AL.step rfl rfl rfl qRA18 ?_
    refine AL.nil_then (hK _ _ ?_); clear hK K
    exact AW.ret (RetQ.mk (.inr rfl) (retA_tmp rfl qRA1 retA_nil) rfl)
  · have e4 : addE ⟨1, [], [(id, t + 60000)], 0⟩ id u = 0 := by simp [addE, a2, has, banned, getB]; omega
    have r3 : addR ⟨1, [], [(id, t + 60000)], 0⟩ id = ⟨1, [fresh id], [], 0⟩ := by simp [addR, pos, delB]
    refine AW.seq_region (fun K hK => ?_)
    refine AL.step rfl rfl rfl qRA19 ?_
    refine AL.step rfl rfl rfl qRA19 ?_
    refine AL.step rfl rfl rfl qRA19 ?_
    refine AL.call rfl rfl rfl (AStep.callf' rfl en13 rfl (add_ok _ _ _ _ _ id u hR4 i2 e4)) ?_; rintro _ H5 ⟨L5, rfl, hR5, -⟩; rw [r3] at hR5
    refine AL.step rfl rfl rfl qRA18 ?_
    refine AL.nil_then (hK _ _ ?_); clear hK K
    refine AW.seq_k (fun K hK => ?_)
    refine AW.seq_region (fun K hK => ?_)
    refine AL.step rfl rfl rfl qRA19 ?_
    refine AL.step rfl rfl rfl qRA19 ?_
    refine AL.step rfl rfl rfl qRA22 ?_
    refine AL.step rfl rfl rfl qRB2 ?_
    refine AL.nil_then (hK _ _ ?_); clear hK K
    refine AW.cond_false rfl (decide_eq_false hle) (AW.skip (hK _ _ ?_)); clear hK K
    have hbn1 : banned [] id u = false := rfl
    have hbn2 : banned [] id t = false := rfl
    have hbc1 := banned_calls H5 n L5 B _ id u hR5
    have hbc2 := banned_calls H5 n L5 B _ id t hR5
    simp only [hbn1] at hbc1
    simp only [hbn2] at hbc2
    refine AW.seq_region (fun K hK => ?_)
    refine AL.step rfl rfl rfl qRA19 ?_
    refine AL.step rfl rfl rfl qRA16 ?_
    refine AL.step rfl rfl rfl qRA19 ?_
    first | refine AL.gstep rfl rfl rfl rfl rfl rfl rfl qRA19 ?_ | refine AL.gskip rfl rfl rfl rfl rfl rfl rfl ?_ | refine AL.gnone rfl rfl rfl rfl rfl ?_ | refine AL.gmay rfl rfl rfl rfl rfl rfl qRB7 ?_ | refine AL.gmay2 rfl rfl rfl rfl rfl rfl qRB8 ?_
    first | refine AL.gstep rfl rfl rfl rfl rfl rfl rfl qRA19 ?_ | refine AL.gskip rfl rfl rfl rfl rfl rfl rfl ?_ | refine AL.gnone rfl rfl rfl rfl rfl ?_ | refine AL.gmay rfl rfl rfl rfl rfl rfl qRA32 ?_ | refine AL.gmay2 rfl rfl rfl rfl rfl rfl qRA33 ?_
    first | refine AL.gstep rfl rfl rfl rfl rfl rfl rfl qRA19 ?_ | refine AL.gskip rfl rfl rfl rfl rfl rfl rfl ?_ | refine AL.gnone rfl rfl rfl rfl rfl ?_ | refine AL.gmay rfl rfl rfl rfl rfl rfl qRA30 ?_ | refine AL.gmay2 rfl rfl rfl rfl rfl rfl qRA31 ?_
    first | refine AL.gstep rfl rfl rfl rfl rfl rfl rfl (by exact AStepD.callf rfl en18 rfl hbc1) ?_ | refine AL.gskip rfl rfl rfl rfl rfl rfl rfl ?_ | refine AL.gnone rfl rfl rfl rfl rfl ?_ | refine AL.gmay rfl rfl rfl rfl rfl rfl (fun hb => by (try (apply AStepD.uncond 89 rfl (gpf hb))); (try (apply AStepD.uncond 90 rfl (gpf hb))); (try (apply AStepD.uncond 91 rfl (gpf hb))); exact (by exact AStepD.callf rfl en18 rfl hbc1)) ?_ | refine AL.gmay2 rfl rfl rfl rfl rfl rfl (fun _ hb => by (try (apply AStepD.uncond 89 rfl (gpf hb))); (try (apply AStepD.uncond 90 rfl (gpf hb))); (try (apply AStepD.uncond 91 rfl (gpf hb))); exact (by exact AStepD.callf rfl en18 rfl hbc1)) ?_
    first | refine AL.gstep rfl rfl rfl rfl rfl rfl rfl qRB9 ?_ | refine AL.gskip rfl rfl rfl rfl rfl rfl rfl ?_ | refine AL.gnone rfl rfl rfl rfl rfl ?_ | refine AL.gmay rfl rfl rfl rfl rfl rfl (fun hb => by (try (apply AStepD.uncond 92 rfl (gpf hb))); exact qRB9) ?_ | refine AL.gmay2 rfl rfl rfl rfl rfl rfl (fun _ hb => by (try (apply AStepD.uncond 92 rfl (gpf hb))); exact qRB9) ?_
    refine AL.step rfl rfl rfl qRA28 ?_
    refine AL.step rfl rfl rfl qRA19 ?_
    first | refine AL.gstep rfl rfl rfl rfl rfl rfl rfl qRA19 ?_ | refine AL.gskip rfl rfl rfl rfl rfl rfl rfl ?_ | refine AL.gnone rfl rfl rfl rfl rfl ?_ | refine AL.gmay rfl rfl rfl rfl rfl rfl qRB7 ?_ | refine AL.gmay2 rfl rfl rfl rfl rfl rfl qRB8 ?_
    first | refine AL.gstep rfl rfl rfl rfl rfl rfl rfl qRA19 ?_ | refine AL.gskip rfl rfl rfl rfl rfl rfl rfl ?_ | refine AL.gnone rfl rfl rfl rfl rfl ?_ | refine AL.gmay rfl rfl rfl rfl rfl rfl qRA32 ?_ | refine AL.gmay2 rfl rfl rfl rfl rfl rfl qRA33 ?_
    first | refine AL.gstep rfl rfl rfl rfl rfl rfl rfl qRA19 ?_ | refine AL.gskip rfl rfl rfl rfl rfl rfl rfl ?_ | refine AL.gnone rfl rfl rfl rfl rfl ?_ | refine AL.gmay rfl rfl rfl rfl rfl rfl qRA40 ?_ | refine AL.gmay2 rfl rfl rfl rfl rfl rfl qRA41 ?_
    first | refine AL.gstep rfl rfl rfl rfl rfl rfl rfl (by exact AStepD.callf rfl en18 rfl hbc2) ?_ | refine AL.gskip rfl rfl rfl rfl rfl rfl rfl ?_ | refine AL.gnone rfl rfl rfl rfl rfl ?_ | refine AL.gmay rfl rfl rfl rfl rfl rfl (fun hb => by (try (apply AStepD.uncond 96 rfl (gpf hb))); (try (apply AStepD.uncond 97 rfl (gpf hb))); (try (apply AStepD.uncond 98 rfl (gpf hb))); exact (by exact AStepD.callf rfl en18 rfl hbc2)) ?_ | refine AL.gmay2 rfl rfl rfl rfl rfl rfl (fun _ hb => by (try (apply AStepD.uncond 96 rfl (gpf hb))); (try (apply AStepD.uncond 97 rfl (gpf hb))); (try (apply AStepD.uncond 98 rfl (gpf hb))); exact (by exact AStepD.callf rfl en18 rfl hbc2)) ?_
    first | refine AL.gstep rfl rfl rfl rfl rfl rfl rfl qRB9 ?_ | refine AL.gskip rfl rfl rfl rfl rfl rfl rfl ?_ | refine AL.gnone rfl rfl rfl rfl rfl ?_ | refine AL.gmay rfl rfl rfl rfl rfl rfl (fun hb => by (try (apply AStepD.uncond 99 rfl (gpf hb))); exact qRB9) ?_ | refine AL.gmay2 rfl rfl rfl rfl rfl rfl (fun _ hb => by (try (apply AStepD.uncond 99 rfl (gpf hb))); exact qRB9) ?_
    refine AL.step rfl rfl rfl qRA28 ?_
    refine AL.step rfl rfl rfl qRA19 ?_
    first | refine AL.gstep rfl rfl rfl rfl rfl rfl rfl qRA19 ?_ | refine AL.gskip rfl rfl rfl rfl rfl rfl rfl ?_ | refine AL.gnone rfl rfl rfl rfl rfl ?_ | refine AL.gmay rfl rfl rfl rfl rfl rfl qRB7 ?_ | refine AL.gmay2 rfl rfl rfl rfl rfl rfl qRB8 ?_
    first | refine AL.gstep rfl rfl rfl rfl rfl rfl rfl (by exact AStepD.callf rfl en12 rfl (list_calls _ n L5 B _ hR5 (by simp))) ?_ | refine AL.gskip rfl rfl rfl rfl rfl rfl rfl ?_ | refine AL.gnone rfl rfl rfl rfl rfl ?_ | refine AL.gmay rfl rfl rfl rfl rfl rfl (fun hb => by (try (apply AStepD.uncond 103 rfl (gpf hb))); exact (by exact AStepD.callf rfl en12 rfl (list_calls _ n L5 B _ hR5 (by simp)))) ?_ | refine AL.gmay2 rfl rfl rfl rfl rfl rfl (fun _ hb => by (try (apply AStepD.uncond 103 rfl (gpf hb))); exact (by exact AStepD.callf rfl en12 rfl (list_calls _ n L5 B _ hR5 (by simp)))) ?_
    first | refine AL.gstep rfl rfl rfl rfl rfl rfl rfl qRC9 ?_ | refine AL.gskip rfl rfl rfl rfl rfl rfl rfl ?_ | refine AL.gnone rfl rfl rfl rfl rfl ?_ | refine AL.gmay rfl rfl rfl rfl rfl rfl (fun hb => by (try (apply AStepD.uncond 104 rfl (gpf hb))); exact qRC9) ?_ | refine AL.gmay2 rfl rfl rfl rfl rfl rfl (fun _ hb => by (try (apply AStepD.uncond 104 rfl (gpf hb))); exact qRC9) ?_
    first | refine AL.gstep rfl rfl rfl rfl rfl rfl rfl qRA16 ?_ | refine AL.gskip rfl rfl rfl rfl rfl rfl rfl ?_ | refine AL.gnone rfl rfl rfl rfl rfl ?_ | refine AL.gmay rfl rfl rfl rfl rfl rfl (fun hb => by (try (apply AStepD.uncond 105 rfl (gpf hb))); exact qRA16) ?_ | refine AL.gmay2 rfl rfl rfl rfl rfl rfl (fun _ hb => by (try (apply AStepD.uncond 105 rfl (gpf hb))); exact qRA16) ?_
    refine AL.step rfl rfl rfl qRA28 ?_
    refine AL.step rfl rfl rfl qRA18 ?_
    refine AL.nil_then (hK _ _ ?_); clear hK K
    exact AW.ret (RetQ.mk (.inr rfl) (retA_tmp rfl qRA1 retA_nil) rfl)
end Go.Proofs.Ytjiifddmcmbbnaa
