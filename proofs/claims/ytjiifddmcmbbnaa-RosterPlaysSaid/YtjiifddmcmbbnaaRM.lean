/- The walks of the roster's Set. -/
import Derived.Test.YtjiifddmcmbbnaaRL
namespace Go.Proofs.Ytjiifddmcmbbnaa
open Go.Ax
theorem qRM1 {p : Prop} (h : p := by exact AStepD.box rfl qRA1 qRA4) : p := h
theorem qRM2 {p : Prop} (h : p := by exact (fun hb => by (try (apply AStepD.uncond 1 rfl (gpf hb))); exact qRD9)) : p := h
theorem qRM3 {p : Prop} (h : p := by exact (fun _ hb => by (try (apply AStepD.uncond 1 rfl (gpf hb))); exact qRD9)) : p := h
theorem qRM4 {p : Prop} (h : p := by exact (fun hb => by (try (apply AStepD.uncond 1 rfl (gpf hb))); exact qRB17)) : p := h
theorem qRM5 {p : Prop} (h : p := by exact (fun _ hb => by (try (apply AStepD.uncond 1 rfl (gpf hb))); exact qRB17)) : p := h
theorem qRM6 {p : Prop} (h : p := by exact (fun hb => by (try (apply AStepD.uncond 1 rfl (gpf hb))); exact qRE6)) : p := h
theorem qRM7 {p : Prop} (h : p := by exact (fun _ hb => by (try (apply AStepD.uncond 1 rfl (gpf hb))); exact qRE6)) : p := h
theorem qRM8 {p : Prop} (h : p := by first | exact Nat.zero_add 4 | exact (show _ + 4 = _ from qRB4) | exact (show _ + 4 = _ + 4 from rfl) | exact rfl) : p := h
theorem qRM9 {p : Prop} (h : p := by first | exact AStepD.fieldAddr' tok rfl rfl rfl rfl rfl rfl rfl qRM8 | exact AStepD.fieldAddr_ip' tok rfl rfl rfl rfl rfl rfl rfl (show List.drop 4 _ = _ from rfl)) : p := h
theorem qRM10 {p : Prop} (h : p := by exact (fun hb => by (try (apply AStepD.uncond 1 rfl (gpf hb))); exact qRM9)) : p := h
theorem qRM11 {p : Prop} (h : p := by exact (fun _ hb => by (try (apply AStepD.uncond 1 rfl (gpf hb))); exact qRM9)) : p := h
set_option linter.unusedSimpArgs false
set_option linter.unusedVariables false

def rightB (m : Mem) : Bool :=
  (decide (m.ma = 0) || (idB m.ma && decide (m.ma ≠ m.i))) && decide (0 ≤ m.co) && decide (m.co ≤ 281474976710656) && decide (0 ≤ m.op) && decide (m.op ≤ 281474976710656) && (decide (m.fa = -1) || timeB m.fa)

theorem right_calls (H : AHeap) (m : Mem) : ACalls Try.prog 32 [.agg m.cells] H (fun v H' => v = .v (.bool (rightB m)) ∧ H' = H) := by
  refine ACalls.quiet_keep ?_ (.v _)
  refine ACalls.lts fun hlt => ?_
  have hone := m.one
  refine ACalls.of_body tok Try.func32 rfl Try.ntmps32 (Nat.le_of_ble_eq_true rfl) ?_
  refine AW.seq_region (fun K hK => ?_)
  refine AL.step rfl rfl rfl qRM1 ?_
  refine AL.step rfl rfl rfl qRA18 ?_
  refine AL.nil_then (hK _ _ ?_); clear hK K
  refine AW.seq_region (fun K hK => ?_)
  refine AL.step rfl rfl rfl qRD9 ?_
  refine AL.step rfl rfl rfl qRB5 ?_
  refine AL.step rfl rfl rfl qRA16 ?_
  refine AL.step rfl rfl rfl qRA19 ?_
  first | refine AL.gstep rfl rfl rfl rfl rfl rfl rfl qRD9 ?_ | refine AL.gskip rfl rfl rfl rfl rfl rfl rfl ?_ | refine AL.gnone rfl rfl rfl rfl rfl ?_ | refine AL.gmay rfl rfl rfl rfl rfl rfl qRM2 ?_ | refine AL.gmay2 rfl rfl rfl rfl rfl rfl qRM3 ?_
  first | refine AL.gstep rfl rfl rfl rfl rfl rfl rfl qRB5 ?_ | refine AL.gskip rfl rfl rfl rfl rfl rfl rfl ?_ | refine AL.gnone rfl rfl rfl rfl rfl ?_ | refine AL.gmay rfl rfl rfl rfl rfl rfl (fun hb => by (try (apply AStepD.uncond 7 rfl (gpf hb))); exact qRB5) ?_ | refine AL.gmay2 rfl rfl rfl rfl rfl rfl (fun _ hb => by (try (apply AStepD.uncond 7 rfl (gpf hb))); exact qRB5) ?_
  first | refine AL.gstep rfl rfl rfl rfl rfl rfl rfl (by exact AStepD.callf rfl en27 rfl (id_calls _ m.ma)) ?_ | refine AL.gskip rfl rfl rfl rfl rfl rfl rfl ?_ | refine AL.gnone rfl rfl rfl rfl rfl ?_ | refine AL.gmay rfl rfl rfl rfl rfl rfl (fun hb => by (try (apply AStepD.uncond 8 rfl (gpf hb))); exact (by exact AStepD.callf rfl en27 rfl (id_calls _ m.ma))) ?_ | refine AL.gmay2 rfl rfl rfl rfl rfl rfl (fun _ hb => by (try (apply AStepD.uncond 8 rfl (gpf hb))); exact (by exact AStepD.callf rfl en27 rfl (id_calls _ m.ma))) ?_
  first | refine AL.gstep rfl rfl rfl rfl rfl rfl rfl qRA19 ?_ | refine AL.gskip rfl rfl rfl rfl rfl rfl rfl ?_ | refine AL.gnone rfl rfl rfl rfl rfl ?_ | refine AL.gmay rfl rfl rfl rfl rfl rfl qRA34 ?_ | refine AL.gmay2 rfl rfl rfl rfl rfl rfl qRA35 ?_
  first | refine AL.gstep rfl rfl rfl rfl rfl rfl rfl qRD9 ?_ | refine AL.gskip rfl rfl rfl rfl rfl rfl rfl ?_ | refine AL.gnone rfl rfl rfl rfl rfl ?_ | refine AL.gmay rfl rfl rfl rfl rfl rfl qRM2 ?_ | refine AL.gmay2 rfl rfl rfl rfl rfl rfl qRM3 ?_
  first | refine AL.gstep rfl rfl rfl rfl rfl rfl rfl qRB5 ?_ | refine AL.gskip rfl rfl rfl rfl rfl rfl rfl ?_ | refine AL.gnone rfl rfl rfl rfl rfl ?_ | refine AL.gmay rfl rfl rfl rfl rfl rfl (fun hb => by (try (apply AStepD.uncond 11 rfl (gpf hb))); exact qRB5) ?_ | refine AL.gmay2 rfl rfl rfl rfl rfl rfl (fun _ hb => by (try (apply AStepD.uncond 11 rfl (gpf hb))); exact qRB5) ?_
  first | refine AL.gstep rfl rfl rfl rfl rfl rfl rfl qRB18 ?_ | refine AL.gskip rfl rfl rfl rfl rfl rfl rfl ?_ | refine AL.gnone rfl rfl rfl rfl rfl ?_ | refine AL.gmay rfl rfl rfl rfl rfl rfl (fun hb => by (try (apply AStepD.uncond 1 rfl (gpf hb))); exact qRB18) ?_ | refine AL.gmay2 rfl rfl rfl rfl rfl rfl (fun _ hb => by (try (apply AStepD.uncond 1 rfl (gpf hb))); exact qRB18) ?_
  first | refine AL.gstep rfl rfl rfl rfl rfl rfl rfl qRB5 ?_ | refine AL.gskip rfl rfl rfl rfl rfl rfl rfl ?_ | refine AL.gnone rfl rfl rfl rfl rfl ?_ | refine AL.gmay rfl rfl rfl rfl rfl rfl (fun hb => by (try (apply AStepD.uncond 13 rfl (gpf hb))); exact qRB5) ?_ | refine AL.gmay2 rfl rfl rfl rfl rfl rfl (fun _ hb => by (try (apply AStepD.uncond 13 rfl (gpf hb))); exact qRB5) ?_
  first | refine AL.gstep rfl rfl rfl rfl rfl rfl rfl qRA2 ?_ | refine AL.gskip rfl rfl rfl rfl rfl rfl rfl ?_ | refine AL.gnone rfl rfl rfl rfl rfl ?_ | refine AL.gmay rfl rfl rfl rfl rfl rfl (fun hb => by (try (apply AStepD.uncond 12 rfl (gpf hb))); (try (apply AStepD.uncond 14 rfl (gpf hb))); exact qRA2) ?_ | refine AL.gmay2 rfl rfl rfl rfl rfl rfl (fun _ hb => by (try (apply AStepD.uncond 12 rfl (gpf hb))); (try (apply AStepD.uncond 14 rfl (gpf hb))); exact qRA2) ?_
  first | refine AL.gstep rfl rfl rfl rfl rfl rfl rfl qRA28 ?_ | refine AL.gskip rfl rfl rfl rfl rfl rfl rfl ?_ | refine AL.gnone rfl rfl rfl rfl rfl ?_ | refine AL.gmay rfl rfl rfl rfl rfl rfl (fun hb => by (try (apply AStepD.uncond 10 rfl (gpf hb))); (try (apply AStepD.uncond 15 rfl (gpf hb))); exact qRA28) ?_ | refine AL.gmay2 rfl rfl rfl rfl rfl rfl (fun _ hb => by (try (apply AStepD.uncond 10 rfl (gpf hb))); (try (apply AStepD.uncond 15 rfl (gpf hb))); exact qRA28) ?_
  refine AL.step rfl rfl rfl qRA28 ?_
  refine AL.step rfl rfl rfl qRA19 ?_
  first | refine AL.gstep rfl rfl rfl rfl rfl rfl rfl qRB17 ?_ | refine AL.gskip rfl rfl rfl rfl rfl rfl rfl ?_ | refine AL.gnone rfl rfl rfl rfl rfl ?_ | refine AL.gmay rfl rfl rfl rfl rfl rfl qRM4 ?_ | refine AL.gmay2 rfl rfl rfl rfl rfl rfl qRM5 ?_
  first | refine AL.gstep rfl rfl rfl rfl rfl rfl rfl qRB5 ?_ | refine AL.gskip rfl rfl rfl rfl rfl rfl rfl ?_ | refine AL.gnone rfl rfl rfl rfl rfl ?_ | refine AL.gmay rfl rfl rfl rfl rfl rfl (fun hb => by (try (apply AStepD.uncond 19 rfl (gpf hb))); exact qRB5) ?_ | refine AL.gmay2 rfl rfl rfl rfl rfl rfl (fun _ hb => by (try (apply AStepD.uncond 19 rfl (gpf hb))); exact qRB5) ?_
  first | refine AL.gstep rfl rfl rfl rfl rfl rfl rfl qRB1 ?_ | refine AL.gskip rfl rfl rfl rfl rfl rfl rfl ?_ | refine AL.gnone rfl rfl rfl rfl rfl ?_ | refine AL.gmay rfl rfl rfl rfl rfl rfl (fun hb => by (try (apply AStepD.uncond 20 rfl (gpf hb))); exact qRB1) ?_ | refine AL.gmay2 rfl rfl rfl rfl rfl rfl (fun _ hb => by (try (apply AStepD.uncond 20 rfl (gpf hb))); exact qRB1) ?_
  refine AL.step rfl rfl rfl qRA28 ?_
  refine AL.step rfl rfl rfl qRA19 ?_
  first | refine AL.gstep rfl rfl rfl rfl rfl rfl rfl qRB17 ?_ | refine AL.gskip rfl rfl rfl rfl rfl rfl rfl ?_ | refine AL.gnone rfl rfl rfl rfl rfl ?_ | refine AL.gmay rfl rfl rfl rfl rfl rfl qRM4 ?_ | refine AL.gmay2 rfl rfl rfl rfl rfl rfl qRM5 ?_
  first | refine AL.gstep rfl rfl rfl rfl rfl rfl rfl qRB5 ?_ | refine AL.gskip rfl rfl rfl rfl rfl rfl rfl ?_ | refine AL.gnone rfl rfl rfl rfl rfl ?_ | refine AL.gmay rfl rfl rfl rfl rfl rfl (fun hb => by (try (apply AStepD.uncond 24 rfl (gpf hb))); exact qRB5) ?_ | refine AL.gmay2 rfl rfl rfl rfl rfl rfl (fun _ hb => by (try (apply AStepD.uncond 24 rfl (gpf hb))); exact qRB5) ?_
  first | refine AL.gstep rfl rfl rfl rfl rfl rfl rfl qRB2 ?_ | refine AL.gskip rfl rfl rfl rfl rfl rfl rfl ?_ | refine AL.gnone rfl rfl rfl rfl rfl ?_ | refine AL.gmay rfl rfl rfl rfl rfl rfl (fun hb => by (try (apply AStepD.uncond 25 rfl (gpf hb))); exact qRB2) ?_ | refine AL.gmay2 rfl rfl rfl rfl rfl rfl (fun _ hb => by (try (apply AStepD.uncond 25 rfl (gpf hb))); exact qRB2) ?_
  refine AL.step rfl rfl rfl qRA28 ?_
  refine AL.step rfl rfl rfl qRA19 ?_
  first | refine AL.gstep rfl rfl rfl rfl rfl rfl rfl qRE6 ?_ | refine AL.gskip rfl rfl rfl rfl rfl rfl rfl ?_ | refine AL.gnone rfl rfl rfl rfl rfl ?_ | refine AL.gmay rfl rfl rfl rfl rfl rfl qRM6 ?_ | refine AL.gmay2 rfl rfl rfl rfl rfl rfl qRM7 ?_
  first | refine AL.gstep rfl rfl rfl rfl rfl rfl rfl qRB5 ?_ | refine AL.gskip rfl rfl rfl rfl rfl rfl rfl ?_ | refine AL.gnone rfl rfl rfl rfl rfl ?_ | refine AL.gmay rfl rfl rfl rfl rfl rfl (fun hb => by (try (apply AStepD.uncond 29 rfl (gpf hb))); exact qRB5) ?_ | refine AL.gmay2 rfl rfl rfl rfl rfl rfl (fun _ hb => by (try (apply AStepD.uncond 29 rfl (gpf hb))); exact qRB5) ?_
  first | refine AL.gstep rfl rfl rfl rfl rfl rfl rfl qRB1 ?_ | refine AL.gskip rfl rfl rfl rfl rfl rfl rfl ?_ | refine AL.gnone rfl rfl rfl rfl rfl ?_ | refine AL.gmay rfl rfl rfl rfl rfl rfl (fun hb => by (try (apply AStepD.uncond 30 rfl (gpf hb))); exact qRB1) ?_ | refine AL.gmay2 rfl rfl rfl rfl rfl rfl (fun _ hb => by (try (apply AStepD.uncond 30 rfl (gpf hb))); exact qRB1) ?_
  refine AL.step rfl rfl rfl qRA28 ?_
  refine AL.step rfl rfl rfl qRA19 ?_
  first | refine AL.gstep rfl rfl rfl rfl rfl rfl rfl qRE6 ?_ | refine AL.gskip rfl rfl rfl rfl rfl rfl rfl ?_ | refine AL.gnone rfl rfl rfl rfl rfl ?_ | refine AL.gmay rfl rfl rfl rfl rfl rfl qRM6 ?_ | refine AL.gmay2 rfl rfl rfl rfl rfl rfl qRM7 ?_
  first | refine AL.gstep rfl rfl rfl rfl rfl rfl rfl qRB5 ?_ | refine AL.gskip rfl rfl rfl rfl rfl rfl rfl ?_ | refine AL.gnone rfl rfl rfl rfl rfl ?_ | refine AL.gmay rfl rfl rfl rfl rfl rfl (fun hb => by (try (apply AStepD.uncond 34 rfl (gpf hb))); exact qRB5) ?_ | refine AL.gmay2 rfl rfl rfl rfl rfl rfl (fun _ hb => by (try (apply AStepD.uncond 34 rfl (gpf hb))); exact qRB5) ?_
  first | refine AL.gstep rfl rfl rfl rfl rfl rfl rfl qRB2 ?_ | refine AL.gskip rfl rfl rfl rfl rfl rfl rfl ?_ | refine AL.gnone rfl rfl rfl rfl rfl ?_ | refine AL.gmay rfl rfl rfl rfl rfl rfl (fun hb => by (try (apply AStepD.uncond 35 rfl (gpf hb))); exact qRB2) ?_ | refine AL.gmay2 rfl rfl rfl rfl rfl rfl (fun _ hb => by (try (apply AStepD.uncond 35 rfl (gpf hb))); exact qRB2) ?_
  refine AL.step rfl rfl rfl qRA28 ?_
  refine AL.step rfl rfl rfl qRA19 ?_
  first | refine AL.gstep rfl rfl rfl rfl rfl rfl rfl qRM9 ?_ | refine AL.gskip rfl rfl rfl rfl rfl rfl rfl ?_ | refine AL.gnone rfl rfl rfl rfl rfl ?_ | refine AL.gmay rfl rfl rfl rfl rfl rfl qRM10 ?_ | refine AL.gmay2 rfl rfl rfl rfl rfl rfl qRM11 ?_
  first | refine AL.gstep rfl rfl rfl rfl rfl rfl rfl qRB5 ?_ | refine AL.gskip rfl rfl rfl rfl rfl rfl rfl ?_ | refine AL.gnone rfl rfl rfl rfl rfl ?_ | refine AL.gmay rfl rfl rfl rfl rfl rfl (fun hb => by (try (apply AStepD.uncond 39 rfl (gpf hb))); exact qRB5) ?_ | refine AL.gmay2 rfl rfl rfl rfl rfl rfl (fun _ hb => by (try (apply AStepD.uncond 39 rfl (gpf hb))); exact qRB5) ?_
  first | refine AL.gstep rfl rfl rfl rfl rfl rfl rfl qRA16 ?_ | refine AL.gskip rfl rfl rfl rfl rfl rfl rfl ?_ | refine AL.gnone rfl rfl rfl rfl rfl ?_ | refine AL.gmay rfl rfl rfl rfl rfl rfl (fun hb => by (try (apply AStepD.uncond 40 rfl (gpf hb))); exact qRA16) ?_ | refine AL.gmay2 rfl rfl rfl rfl rfl rfl (fun _ hb => by (try (apply AStepD.uncond 40 rfl (gpf hb))); exact qRA16) ?_
  first | refine AL.gstep rfl rfl rfl rfl rfl rfl rfl qRA19 ?_ | refine AL.gskip rfl rfl rfl rfl rfl rfl rfl ?_ | refine AL.gnone rfl rfl rfl rfl rfl ?_ | refine AL.gmay rfl rfl rfl rfl rfl rfl (fun hb => by (try (apply AStepD.uncond 41 rfl (gpf hb))); exact qRA19) ?_ | refine AL.gmay2 rfl rfl rfl rfl rfl rfl (fun _ hb => by (try (apply AStepD.uncond 41 rfl (gpf hb))); exact qRA19) ?_
  first | refine AL.gstep rfl rfl rfl rfl rfl rfl rfl qRM9 ?_ | refine AL.gskip rfl rfl rfl rfl rfl rfl rfl ?_ | refine AL.gnone rfl rfl rfl rfl rfl ?_ | refine AL.gmay rfl rfl rfl rfl rfl rfl qRM10 ?_ | refine AL.gmay2 rfl rfl rfl rfl rfl rfl qRM11 ?_
  first | refine AL.gstep rfl rfl rfl rfl rfl rfl rfl qRB5 ?_ | refine AL.gskip rfl rfl rfl rfl rfl rfl rfl ?_ | refine AL.gnone rfl rfl rfl rfl rfl ?_ | refine AL.gmay rfl rfl rfl rfl rfl rfl (fun hb => by (try (apply AStepD.uncond 43 rfl (gpf hb))); exact qRB5) ?_ | refine AL.gmay2 rfl rfl rfl rfl rfl rfl (fun _ hb => by (try (apply AStepD.uncond 43 rfl (gpf hb))); exact qRB5) ?_
  first | refine AL.gstep rfl rfl rfl rfl rfl rfl rfl (by exact AStepD.callf rfl en41 rfl (time_calls _ m.fa)) ?_ | refine AL.gskip rfl rfl rfl rfl rfl rfl rfl ?_ | refine AL.gnone rfl rfl rfl rfl rfl ?_ | refine AL.gmay rfl rfl rfl rfl rfl rfl (fun hb => by (try (apply AStepD.uncond 44 rfl (gpf hb))); exact (by exact AStepD.callf rfl en41 rfl (time_calls _ m.fa))) ?_ | refine AL.gmay2 rfl rfl rfl rfl rfl rfl (fun _ hb => by (try (apply AStepD.uncond 44 rfl (gpf hb))); exact (by exact AStepD.callf rfl en41 rfl (time_calls _ m.fa))) ?_
  first | refine AL.gstep rfl rfl rfl rfl rfl rfl rfl qRA28 ?_ | refine AL.gskip rfl rfl rfl rfl rfl rfl rfl ?_ | refine AL.gnone rfl rfl rfl rfl rfl ?_ | refine AL.gmay rfl rfl rfl rfl rfl rfl (fun hb => by (try (apply AStepD.uncond 42 rfl (gpf hb))); (try (apply AStepD.uncond 45 rfl (gpf hb))); exact qRA28) ?_ | refine AL.gmay2 rfl rfl rfl rfl rfl rfl (fun _ hb => by (try (apply AStepD.uncond 42 rfl (gpf hb))); (try (apply AStepD.uncond 45 rfl (gpf hb))); exact qRA28) ?_
  refine AL.step rfl rfl rfl qRA28 ?_
  refine AL.step rfl rfl rfl qRA18 ?_
  refine AL.nil_then (hK _ _ ?_); clear hK K
  refine AW.ret (RetQ.mk (.inr rfl) (retA_tmp rfl qRA1 retA_nil) ⟨?_, qRA8⟩)
  rfl

def setE (r : Ros) (m : Mem) : Int := if has r.ms m.i then (if rightB m then 0 else 10) else 30
def setR (r : Ros) (m : Mem) : Ros := ⟨r.self, r.ms.set (pos r.ms m.i) m, r.bs, r.cur⟩
theorem flat_set (ms : List Mem) (p : Nat) (m : Mem) (h : p < ms.length) : (flat ms).take (p * 5) ++ m.cells ++ (flat ms).drop (p * 5 + 5) = flat (ms.set p m) := by
  rw [flat_take, show p * 5 + 5 = (p + 1) * 5 by omega, flat_drop, List.set_eq_take_append_cons_drop, if_pos h, flat_append, flat_cons, List.append_assoc]

theorem set_calls (H : AHeap) (n L B : Nat) (r : Ros) (m : Mem) (hR : RosAt H n L B r) (hI : Inv r) :
    ACalls Try.prog 15 [.ptr n 0, .agg m.cells] H (fun v H' => v = .v (.int .i64 (setE r m)) ∧ RosAt H' n L B (if setE r m = 0 then setR r m else r) ∧ Only H H' n L B L) := by
  have h15 := hI.2
  refine ACalls.lts fun hlt => ?_
  have hone := m.one
  have hR0 := hR
  refine ACalls.of_body tok Try.func15 rfl Try.ntmps15 (Nat.le_of_ble_eq_true rfl) ?_
  refine AW.seq_region (fun K hK => ?_)
  refine AL.step rfl rfl rfl qRM1 ?_
  refine AL.step rfl rfl rfl qRA18 ?_
  refine AL.nil_then (hK _ _ ?_); clear hK K
  have hR1 := hR0.keep hlt (show Keep H (H.new (.cells 34 m.cells)) from qRA8)
  refine AW.seq_region (fun K hK => ?_)
  refine AL.step rfl rfl rfl qRA19 ?_
  refine AL.step rfl rfl rfl qRB18 ?_
  refine AL.step rfl rfl rfl qRB5 ?_
  refine AL.step rfl rfl rfl (by exact AStepD.callf rfl en29 rfl (find_calls _ n L B r m.i hR1 hI.1 (by omega))) ?_
  refine AL.step rfl rfl rfl qRA19 ?_
  refine AL.step rfl rfl rfl qRB6 ?_
  refine AL.step rfl rfl rfl qRB6 ?_
  refine AL.step rfl rfl rfl qRA18 ?_
  refine AL.step rfl rfl rfl qRA18 ?_
  refine AL.nil_then (hK _ _ ?_); clear hK K
  refine AW.seq_k (fun K hK => ?_)
  refine AW.block ?_
  refine AW.seq_region (fun K hK => ?_)
  refine AL.step rfl rfl rfl qRA19 ?_
  refine AL.step rfl rfl rfl qRB9 ?_
  refine AL.step rfl rfl rfl qRA18 ?_
  refine AL.nil_then (hK _ _ ?_); clear hK K
  have hno : ∀ e : Int, setE r m = e → e ≠ 0 → AV.v (.int .i64 e) = .v (.int .i64 (setE r m)) ∧ RosAt (H.new (.cells 34 m.cells)) n L B (if setE r m = 0 then setR r m else r) ∧ Only H (H.new (.cells 34 m.cells)) n L B L := by
    intro e he h0
    subst he
    refine ⟨rfl, by rw [if_neg h0]; exact hR1, qRC3, fun q h1 _ _ _ => qRC4, .inl rfl⟩
  refine AW.cond _ rfl (fun hc => ?_) (fun hc => ?_)
  · have hc : has r.ms m.i = false := by simpa using hc
    refine AW.seq_region (fun K hK => ?_)
    refine AL.step rfl rfl rfl qRA18 ?_
    refine AL.nil_then (hK _ _ ?_); clear hK K
    exact AW.ret (RetQ.mk (.inr rfl) (retA_tmp rfl qRA1 retA_nil) (hno _ (by rw [setE, hc]; rfl) (by decide)))
  have hc : has r.ms m.i = true := by simpa using hc
  refine AW.seq_region (fun K hK => ?_)
  refine AL.step rfl rfl rfl qRA25 ?_
  refine AL.step rfl rfl rfl (by exact AStepD.callf rfl en32 rfl (right_calls _ m)) ?_
  refine AL.step rfl rfl rfl qRB9 ?_
  refine AL.step rfl rfl rfl qRA18 ?_
  refine AL.nil_then (hK _ _ ?_); clear hK K
  refine AW.cond _ rfl (fun hc2 => ?_) (fun hc2 => ?_)
  · have hc2 : rightB m = false := by simpa using hc2
    refine AW.seq_region (fun K hK => ?_)
    refine AL.step rfl rfl rfl qRA18 ?_
    refine AL.nil_then (hK _ _ ?_); clear hK K
    exact AW.ret (RetQ.mk (.inr rfl) (retA_tmp rfl qRA1 retA_nil) (hno _ (by rw [setE, hc, hc2]; rfl) (by decide)))
  have hc2 : rightB m = true := by simpa using hc2
  refine AW.skip (hK _ _ ?_); clear hK K
  have he : setE r m = 0 := by rw [setE, hc, hc2]; rfl
  obtain ⟨hp, -⟩ := (has_at hI.1 m.i).1 hc
  obtain ⟨x0, hn, hM, hB⟩ := hR
  obtain ⟨rfl, hH⟩ := hM.at hp
  have hnl := hlt _ _ hn
  have hBl := hlt _ _ hB
  have hLl := hlt _ _ hH
  have hLn : L ≠ n := by rintro rfl; rw [hn] at hH; simp at hH
  have hLB : L ≠ B := by rintro rfl; rw [hB] at hH; simp at hH
  have hfl := flat_length r.ms
  generalize hpp : pos r.ms m.i = p at hp
  refine AW.seq_k (fun K hK => ?_)
  apply AW.draw mixed [_, _, _, _, _, _, _, _] [7] [_, _] [(0, 0), (1, 0), (2, 0), (3, 0), (4, 0), (5, 0), (6, 0), (7, 0)] rfl rfl rfl qRC6
  · refine ⟨?_, ?_, ?_, ?_, ?_, ?_, ?_, ?_⟩
    · refine Ob.mk _ [0] 0 rfl rfl (restr_cons qRA1 restr_nil) rfl ?_
      simp only [List.getD_cons_zero, List.getD_cons_succ]
      exact GStep.plain rfl qRA19
    · refine Ob.mk _ [21] 0 rfl rfl (restr_cons qRA1 restr_nil) rfl ?_
      simp only [List.getD_cons_zero, List.getD_cons_succ]
      exact GStep.plain rfl qRB3
    · refine Ob.mk _ [22] 0 rfl rfl (restr_cons qRA1 restr_nil) rfl ?_
      simp only [List.getD_cons_zero, List.getD_cons_succ]
      exact GStep.plain rfl qRD9
    · refine Ob.mk _ [23] 0 rfl rfl (restr_cons qRA1 restr_nil) rfl ?_
      simp only [List.getD_cons_zero, List.getD_cons_succ]
      exact GStep.plain rfl qRB5
    · refine Ob.mk _ [5] 0 rfl rfl (restr_cons qRA1 restr_nil) rfl ?_
      simp only [List.getD_cons_zero, List.getD_cons_succ]
      exact GStep.plain rfl qRA19
    · refine Ob.mk _ [3] 0 rfl rfl (restr_cons qRA1 restr_nil) rfl ?_
      simp only [List.getD_cons_zero, List.getD_cons_succ]
      exact GStep.plain rfl qRA25
    · refine Ob.mk _ [24, 25] 0 rfl rfl (restr_cons qRA1 (restr_cons qRA1 restr_nil)) rfl ?_
      simp only [List.getD_cons_zero, List.getD_cons_succ]
      exact GStep.plain rfl qRA24
    · refine Ob.mk _ [27, 26] 1 rfl rfl (restr_cons qRA1 (restr_cons qRA1 restr_nil)) rfl ?_
      simp only [List.getD_cons_zero, List.getD_cons_succ]
      exact GStep.plain rfl qRE5
  refine hK _ _ ?_; clear hK K
  refine AW.frame qRC7 qRC8 ?_
  refine AW.seq_region (fun K hK => ?_)
  refine AL.step rfl rfl rfl qRA18 ?_
  refine AL.nil_then (hK _ _ ?_); clear hK K
  refine AW.ret (RetQ.mk (.inr rfl) (retA_tmp rfl qRA1 retA_nil) ⟨by rw [he]; rfl, ?_, ?_, ?_, .inl rfl⟩)
  · rw [if_pos he]
    refine ⟨_, qRA6, MemsAt.mk (cs := (flat r.ms).take (p * 5) ++ m.cells ++ (flat r.ms).drop (p * 5 + 5)) ?_ ?_ ?_, qRA6⟩
    · exact qRA6
    · rw [flat_set r.ms p m hp]; simp [setR, hpp]
    · simp [setR]
  · exact qRC3
  · intro q h1 h2 h3 h4
    exact qRC4

theorem set_ids {ms : List Mem} {m : Mem} {p : Nat} (hp : p < ms.length) (he : ms[p].i = m.i) (j : Nat) (hj : j < (ms.set p m).length) : (ms.set p m)[j].i = (ms[j]'(by simpa using hj)).i := by
  rw [List.getElem_set]
  split
  · rename_i e; subst e; exact he.symm
  · rfl
theorem setR_facts {r : Ros} {m : Mem} (hI : Inv r) (h : setE r m = 0) : Inv (setR r m) ∧ (setR r m).ms.length = r.ms.length ∧ has (setR r m).ms m.i = true ∧ getM (setR r m).ms m.i = m ∧ pos r.ms m.i < r.ms.length ∧
    (∀ (j : Nat) (hj : j < r.ms.length), (j = pos r.ms m.i → r.ms[j].i = m.i) ∧ (j ≠ pos r.ms m.i → r.ms[j].i ≠ m.i)) := by
  have hh : has r.ms m.i = true := by
    unfold setE at h
    split at h
    · assumption
    · cases h
  obtain ⟨hp, he⟩ := (has_at hI.1 m.i).1 hh
  have hl : (r.ms.set (pos r.ms m.i) m).length = r.ms.length := List.length_set
  have hs : Sorted (r.ms.set (pos r.ms m.i) m) := by
    refine List.pairwise_iff_getElem.2 fun a b ha hb hab => ?_
    rw [set_ids hp he a ha, set_ids hp he b hb]
    exact hI.1.lt (by omega) hab
  have hpos : pos (r.ms.set (pos r.ms m.i) m) m.i = pos r.ms m.i := by
    refine pos_eq _ _ _ (by omega) (fun j hj hjp => ?_) (fun hj => ?_)
    · rw [set_ids hp he j hj]; exact pos_lt _ _ _ _ hjp
    · rw [set_ids hp he _ hj]; omega
  have hg : (r.ms.set (pos r.ms m.i) m)[pos r.ms m.i]'(by omega) = m := by rw [List.getElem_set]; simp
  have hhs : has (setR r m).ms m.i = true := has_mem.2 ⟨m, by have := List.getElem_mem (l := r.ms.set (pos r.ms m.i) m) (n := pos r.ms m.i) (by omega); rwa [hg] at this, rfl⟩
  refine ⟨⟨hs, by simp [setR]; exact hI.2⟩, hl, hhs, ?_, hp, fun j hj => ⟨fun e => by subst e; exact he, fun hne e => hne ?_⟩⟩
  · have : has (setR r m).ms m.i = true ∧ pos (setR r m).ms m.i < (setR r m).ms.length := ⟨hhs, by show pos (r.ms.set _ m) m.i < (r.ms.set _ m).length; omega⟩
    rw [getM, dif_pos this]
    show (r.ms.set (pos r.ms m.i) m)[pos (r.ms.set (pos r.ms m.i) m) m.i]'_ = m
    simp only [hpos]
    exact hg
  · rcases Nat.lt_trichotomy j (pos r.ms m.i) with h1 | h1 | h1
    · have := hI.1.lt hp h1; omega
    · exact h1
    · have := hI.1.lt hj h1; omega
end Go.Proofs.Ytjiifddmcmbbnaa
