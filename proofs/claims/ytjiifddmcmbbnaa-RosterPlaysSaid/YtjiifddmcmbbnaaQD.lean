/- The walk of the reference's Set. -/
import Derived.Test.YtjiifddmcmbbnaaQC
namespace Go.Proofs.Ytjiifddmcmbbnaa
open Go.Ax
theorem qQD1 {p : Prop} (h : p := by exact (fun hb => by (try (apply AStepD.uncond 3 rfl (gpf hb))); exact qRE6)) : p := h
theorem qQD2 {p : Prop} (h : p := by exact (fun _ hb => by (try (apply AStepD.uncond 3 rfl (gpf hb))); exact qRE6)) : p := h
theorem qQD3 {p : Prop} (h : p := by exact (fun hb => by (try (apply AStepD.uncond 3 rfl (gpf hb))); exact qRM9)) : p := h
theorem qQD4 {p : Prop} (h : p := by exact (fun _ hb => by (try (apply AStepD.uncond 3 rfl (gpf hb))); exact qRM9)) : p := h
set_option linter.unusedSimpArgs false
set_option linter.unusedVariables false

theorem rset_calls (H : AHeap) (r : Ros) (m : Mem) (hI : Inv r) :
    ACalls Try.prog 22 [.agg (refC r), .agg m.cells] H (fun v H' => v = .tup [.agg (refC (if setE r m = 0 then setR r m else r)), .v (.int .i64 (setE r m))] ∧ H' = H) := by
  refine ACalls.quiet_keep ?_ (.tup (by simp only [List.forall_mem_cons]; exact ⟨.agg (refC_plain _), .v _, fun _ h => absurd h List.not_mem_nil⟩))
  refine ACalls.lts fun hlt => ?_
  have hone := refC_one r
  have hone2 := m.one
  have h15 := hI.2
  have hfl := flat_length r.ms
  have hno : ∀ e : Int, setE r m = e → e ≠ 0 → AV.tup [.agg (refC r), .v (.int .i64 e)] = .tup [.agg (refC (if setE r m = 0 then setR r m else r)), .v (.int .i64 (setE r m))] := by
    intro e he h0
    subst he
    rw [if_neg h0]
  refine ACalls.of_body tok Try.func22 rfl Try.ntmps22 (Nat.le_of_ble_eq_true rfl) ?_
  refine AW.seq_region (fun K hK => ?_)
  refine AL.step rfl rfl rfl qRM1 ?_
  refine AL.step rfl rfl rfl qRM1 ?_
  refine AL.step rfl rfl rfl qRJ1 ?_
  refine AL.step rfl rfl rfl qRA18 ?_
  refine AL.nil_then (hK _ _ ?_); clear hK K
  refine AW.seq_region (fun K hK => ?_)
  refine AL.step rfl rfl rfl qQB1 ?_
  refine AL.step rfl rfl rfl qRB18 ?_
  refine AL.step rfl rfl rfl qRB5 ?_
  refine AL.step rfl rfl rfl (by exact AStepD.callf rfl en35 rfl (rfind_calls _ r m.i hI)) ?_
  refine AL.step rfl rfl rfl qRA18 ?_
  refine AL.nil_then (hK _ _ ?_); clear hK K
  refine AW.seq_k (fun K hK => ?_)
  refine AW.seq_region (fun K hK => ?_)
  refine AL.step rfl rfl rfl qRA19 ?_
  refine AL.step rfl rfl rfl qRA3 ?_
  refine AL.nil_then (hK _ _ ?_); clear hK K
  refine AW.cond _ rfl (fun hc3 => ?_) (fun hc3 => ?_)
  · have hh : has r.ms m.i = false := by
      have hc3 := of_decide_eq_true hc3
      unfold findZ at hc3
      split at hc3
      · omega
      · rename_i h; simpa using h
    clear hc3
    refine AW.seq_region (fun K hK => ?_)
    refine AL.step rfl rfl rfl qQB1 ?_
    refine AL.step0 rfl rfl qRE5 ?_
    refine AL.step rfl rfl rfl qRA18 ?_
    refine AL.nil_then (hK _ _ ?_); clear hK K
    refine AW.ret (RetQ.mk (.inr rfl) qQB2 ⟨?_, qRA8⟩)
    exact hno 30 (by rw [setE, hh]; rfl) (by decide)
  have hh : has r.ms m.i = true := by
    have hc3 := of_decide_eq_false hc3
    unfold findZ at hc3
    split at hc3
    · assumption
    · omega
  clear hc3
  refine AW.skip (hK _ _ ?_); clear hK K
  obtain ⟨hp, -⟩ := (has_at hI.1 m.i).1 hh
  have hfz : findZ r m.i = (pos r.ms m.i : Int) := by rw [findZ, if_pos hh]
  generalize hpp : pos r.ms m.i = k at hp hfz
  refine AW.seq_k (fun K hK => ?_)
  refine AW.seq_region (fun K hK => ?_)
  refine AL.step rfl rfl rfl qRD9 ?_
  refine AL.step rfl rfl rfl qRB5 ?_
  refine AL.step rfl rfl rfl qRA2 ?_
  refine AL.step rfl rfl rfl qRA19 ?_
  first | refine AL.gstep rfl rfl rfl rfl rfl rfl rfl qRD9 ?_ | refine AL.gskip rfl rfl rfl rfl rfl rfl rfl ?_ | refine AL.gnone rfl rfl rfl rfl rfl ?_ | refine AL.gmay rfl rfl rfl rfl rfl rfl qQB3 ?_ | refine AL.gmay2 rfl rfl rfl rfl rfl rfl qQB4 ?_
  first | refine AL.gstep rfl rfl rfl rfl rfl rfl rfl qRB5 ?_ | refine AL.gskip rfl rfl rfl rfl rfl rfl rfl ?_ | refine AL.gnone rfl rfl rfl rfl rfl ?_ | refine AL.gmay rfl rfl rfl rfl rfl rfl (fun hb => by (try (apply AStepD.uncond 18 rfl (gpf hb))); exact qRB5) ?_ | refine AL.gmay2 rfl rfl rfl rfl rfl rfl (fun _ hb => by (try (apply AStepD.uncond 18 rfl (gpf hb))); exact qRB5) ?_
  first | refine AL.gstep rfl rfl rfl rfl rfl rfl rfl (by exact AStepD.callf rfl en19 rfl (rid_calls _ m.ma)) ?_ | refine AL.gskip rfl rfl rfl rfl rfl rfl rfl ?_ | refine AL.gnone rfl rfl rfl rfl rfl ?_ | refine AL.gmay rfl rfl rfl rfl rfl rfl (fun hb => by (try (apply AStepD.uncond 19 rfl (gpf hb))); exact (by exact AStepD.callf rfl en19 rfl (rid_calls _ m.ma))) ?_ | refine AL.gmay2 rfl rfl rfl rfl rfl rfl (fun _ hb => by (try (apply AStepD.uncond 19 rfl (gpf hb))); exact (by exact AStepD.callf rfl en19 rfl (rid_calls _ m.ma))) ?_
  first | refine AL.gstep rfl rfl rfl rfl rfl rfl rfl qRB9 ?_ | refine AL.gskip rfl rfl rfl rfl rfl rfl rfl ?_ | refine AL.gnone rfl rfl rfl rfl rfl ?_ | refine AL.gmay rfl rfl rfl rfl rfl rfl (fun hb => by (try (apply AStepD.uncond 20 rfl (gpf hb))); exact qRB9) ?_ | refine AL.gmay2 rfl rfl rfl rfl rfl rfl (fun _ hb => by (try (apply AStepD.uncond 20 rfl (gpf hb))); exact qRB9) ?_
  first | refine AL.gstep rfl rfl rfl rfl rfl rfl rfl qRA19 ?_ | refine AL.gskip rfl rfl rfl rfl rfl rfl rfl ?_ | refine AL.gnone rfl rfl rfl rfl rfl ?_ | refine AL.gmay rfl rfl rfl rfl rfl rfl (fun hb => by (try (apply AStepD.uncond 21 rfl (gpf hb))); exact qRA19) ?_ | refine AL.gmay2 rfl rfl rfl rfl rfl rfl (fun _ hb => by (try (apply AStepD.uncond 21 rfl (gpf hb))); exact qRA19) ?_
  first | refine AL.gstep rfl rfl rfl rfl rfl rfl rfl qRD9 ?_ | refine AL.gskip rfl rfl rfl rfl rfl rfl rfl ?_ | refine AL.gnone rfl rfl rfl rfl rfl ?_ | refine AL.gmay rfl rfl rfl rfl rfl rfl qQB3 ?_ | refine AL.gmay2 rfl rfl rfl rfl rfl rfl qQB4 ?_
  first | refine AL.gstep rfl rfl rfl rfl rfl rfl rfl qRB5 ?_ | refine AL.gskip rfl rfl rfl rfl rfl rfl rfl ?_ | refine AL.gnone rfl rfl rfl rfl rfl ?_ | refine AL.gmay rfl rfl rfl rfl rfl rfl (fun hb => by (try (apply AStepD.uncond 23 rfl (gpf hb))); exact qRB5) ?_ | refine AL.gmay2 rfl rfl rfl rfl rfl rfl (fun _ hb => by (try (apply AStepD.uncond 23 rfl (gpf hb))); exact qRB5) ?_
  first | refine AL.gstep rfl rfl rfl rfl rfl rfl rfl qRB18 ?_ | refine AL.gskip rfl rfl rfl rfl rfl rfl rfl ?_ | refine AL.gnone rfl rfl rfl rfl rfl ?_ | refine AL.gmay rfl rfl rfl rfl rfl rfl (fun hb => by (try (apply AStepD.uncond 3 rfl (gpf hb))); exact qRB18) ?_ | refine AL.gmay2 rfl rfl rfl rfl rfl rfl (fun _ hb => by (try (apply AStepD.uncond 3 rfl (gpf hb))); exact qRB18) ?_
  first | refine AL.gstep rfl rfl rfl rfl rfl rfl rfl qRB5 ?_ | refine AL.gskip rfl rfl rfl rfl rfl rfl rfl ?_ | refine AL.gnone rfl rfl rfl rfl rfl ?_ | refine AL.gmay rfl rfl rfl rfl rfl rfl (fun hb => by (try (apply AStepD.uncond 25 rfl (gpf hb))); exact qRB5) ?_ | refine AL.gmay2 rfl rfl rfl rfl rfl rfl (fun _ hb => by (try (apply AStepD.uncond 25 rfl (gpf hb))); exact qRB5) ?_
  first | refine AL.gstep rfl rfl rfl rfl rfl rfl rfl qRA16 ?_ | refine AL.gskip rfl rfl rfl rfl rfl rfl rfl ?_ | refine AL.gnone rfl rfl rfl rfl rfl ?_ | refine AL.gmay rfl rfl rfl rfl rfl rfl (fun hb => by (try (apply AStepD.uncond 24 rfl (gpf hb))); (try (apply AStepD.uncond 26 rfl (gpf hb))); exact qRA16) ?_ | refine AL.gmay2 rfl rfl rfl rfl rfl rfl (fun _ hb => by (try (apply AStepD.uncond 24 rfl (gpf hb))); (try (apply AStepD.uncond 26 rfl (gpf hb))); exact qRA16) ?_
  first | refine AL.gstep rfl rfl rfl rfl rfl rfl rfl qRA28 ?_ | refine AL.gskip rfl rfl rfl rfl rfl rfl rfl ?_ | refine AL.gnone rfl rfl rfl rfl rfl ?_ | refine AL.gmay rfl rfl rfl rfl rfl rfl (fun hb => by (try (apply AStepD.uncond 22 rfl (gpf hb))); (try (apply AStepD.uncond 27 rfl (gpf hb))); exact qRA28) ?_ | refine AL.gmay2 rfl rfl rfl rfl rfl rfl (fun _ hb => by (try (apply AStepD.uncond 22 rfl (gpf hb))); (try (apply AStepD.uncond 27 rfl (gpf hb))); exact qRA28) ?_
  refine AL.step rfl rfl rfl qRA28 ?_
  refine AL.nil_then (hK _ _ ?_); clear hK K
  refine AW.cond _ rfl (fun hc4 => ?_) (fun hc4 => ?_)
  · refine AW.seq_region (fun K hK => ?_)
    refine AL.step rfl rfl rfl qQB1 ?_
    refine AL.step0 rfl rfl qRE5 ?_
    refine AL.step rfl rfl rfl qRA18 ?_
    refine AL.nil_then (hK _ _ ?_); clear hK K
    have hrb : rightB m = false := by
      unfold rightB
      revert hc4
      cases idB m.ma <;> simp <;> intros <;> simp_all
    refine AW.ret (RetQ.mk (.inr rfl) qQB2 ⟨?_, qRA8⟩)
    exact hno 10 (by rw [setE, if_pos hh, hrb]; rfl) (by decide)
  refine AW.skip (hK _ _ ?_); clear hK K
  refine AW.seq_k (fun K hK => ?_)
  refine AW.seq_region (fun K hK => ?_)
  refine AL.step rfl rfl rfl qRB17 ?_
  refine AL.step rfl rfl rfl qRB5 ?_
  refine AL.step rfl rfl rfl qRA3 ?_
  refine AL.step rfl rfl rfl qRA19 ?_
  first | refine AL.gstep rfl rfl rfl rfl rfl rfl rfl qRB17 ?_ | refine AL.gskip rfl rfl rfl rfl rfl rfl rfl ?_ | refine AL.gnone rfl rfl rfl rfl rfl ?_ | refine AL.gmay rfl rfl rfl rfl rfl rfl (fun hb => by (try (apply AStepD.uncond 3 rfl (gpf hb))); exact qRB17) ?_ | refine AL.gmay2 rfl rfl rfl rfl rfl rfl (fun _ hb => by (try (apply AStepD.uncond 3 rfl (gpf hb))); exact qRB17) ?_
  first | refine AL.gstep rfl rfl rfl rfl rfl rfl rfl qRB5 ?_ | refine AL.gskip rfl rfl rfl rfl rfl rfl rfl ?_ | refine AL.gnone rfl rfl rfl rfl rfl ?_ | refine AL.gmay rfl rfl rfl rfl rfl rfl (fun hb => by (try (apply AStepD.uncond 35 rfl (gpf hb))); exact qRB5) ?_ | refine AL.gmay2 rfl rfl rfl rfl rfl rfl (fun _ hb => by (try (apply AStepD.uncond 35 rfl (gpf hb))); exact qRB5) ?_
  first | refine AL.gstep rfl rfl rfl rfl rfl rfl rfl qRI1 ?_ | refine AL.gskip rfl rfl rfl rfl rfl rfl rfl ?_ | refine AL.gnone rfl rfl rfl rfl rfl ?_ | refine AL.gmay rfl rfl rfl rfl rfl rfl (fun hb => by (try (apply AStepD.uncond 36 rfl (gpf hb))); exact qRI1) ?_ | refine AL.gmay2 rfl rfl rfl rfl rfl rfl (fun _ hb => by (try (apply AStepD.uncond 36 rfl (gpf hb))); exact qRI1) ?_
  refine AL.step rfl rfl rfl qRA28 ?_
  refine AL.step rfl rfl rfl qRA19 ?_
  first | refine AL.gstep rfl rfl rfl rfl rfl rfl rfl qRE6 ?_ | refine AL.gskip rfl rfl rfl rfl rfl rfl rfl ?_ | refine AL.gnone rfl rfl rfl rfl rfl ?_ | refine AL.gmay rfl rfl rfl rfl rfl rfl qQD1 ?_ | refine AL.gmay2 rfl rfl rfl rfl rfl rfl qQD2 ?_
  first | refine AL.gstep rfl rfl rfl rfl rfl rfl rfl qRB5 ?_ | refine AL.gskip rfl rfl rfl rfl rfl rfl rfl ?_ | refine AL.gnone rfl rfl rfl rfl rfl ?_ | refine AL.gmay rfl rfl rfl rfl rfl rfl (fun hb => by (try (apply AStepD.uncond 40 rfl (gpf hb))); exact qRB5) ?_ | refine AL.gmay2 rfl rfl rfl rfl rfl rfl (fun _ hb => by (try (apply AStepD.uncond 40 rfl (gpf hb))); exact qRB5) ?_
  first | refine AL.gstep rfl rfl rfl rfl rfl rfl rfl qRA3 ?_ | refine AL.gskip rfl rfl rfl rfl rfl rfl rfl ?_ | refine AL.gnone rfl rfl rfl rfl rfl ?_ | refine AL.gmay rfl rfl rfl rfl rfl rfl (fun hb => by (try (apply AStepD.uncond 41 rfl (gpf hb))); exact qRA3) ?_ | refine AL.gmay2 rfl rfl rfl rfl rfl rfl (fun _ hb => by (try (apply AStepD.uncond 41 rfl (gpf hb))); exact qRA3) ?_
  refine AL.step rfl rfl rfl qRA28 ?_
  refine AL.step rfl rfl rfl qRA19 ?_
  first | refine AL.gstep rfl rfl rfl rfl rfl rfl rfl qRE6 ?_ | refine AL.gskip rfl rfl rfl rfl rfl rfl rfl ?_ | refine AL.gnone rfl rfl rfl rfl rfl ?_ | refine AL.gmay rfl rfl rfl rfl rfl rfl qQD1 ?_ | refine AL.gmay2 rfl rfl rfl rfl rfl rfl qQD2 ?_
  first | refine AL.gstep rfl rfl rfl rfl rfl rfl rfl qRB5 ?_ | refine AL.gskip rfl rfl rfl rfl rfl rfl rfl ?_ | refine AL.gnone rfl rfl rfl rfl rfl ?_ | refine AL.gmay rfl rfl rfl rfl rfl rfl (fun hb => by (try (apply AStepD.uncond 45 rfl (gpf hb))); exact qRB5) ?_ | refine AL.gmay2 rfl rfl rfl rfl rfl rfl (fun _ hb => by (try (apply AStepD.uncond 45 rfl (gpf hb))); exact qRB5) ?_
  first | refine AL.gstep rfl rfl rfl rfl rfl rfl rfl qRI1 ?_ | refine AL.gskip rfl rfl rfl rfl rfl rfl rfl ?_ | refine AL.gnone rfl rfl rfl rfl rfl ?_ | refine AL.gmay rfl rfl rfl rfl rfl rfl (fun hb => by (try (apply AStepD.uncond 46 rfl (gpf hb))); exact qRI1) ?_ | refine AL.gmay2 rfl rfl rfl rfl rfl rfl (fun _ hb => by (try (apply AStepD.uncond 46 rfl (gpf hb))); exact qRI1) ?_
  refine AL.step rfl rfl rfl qRA28 ?_
  refine AL.step rfl rfl rfl qRA19 ?_
  first | refine AL.gstep rfl rfl rfl rfl rfl rfl rfl qRM9 ?_ | refine AL.gskip rfl rfl rfl rfl rfl rfl rfl ?_ | refine AL.gnone rfl rfl rfl rfl rfl ?_ | refine AL.gmay rfl rfl rfl rfl rfl rfl qQD3 ?_ | refine AL.gmay2 rfl rfl rfl rfl rfl rfl qQD4 ?_
  first | refine AL.gstep rfl rfl rfl rfl rfl rfl rfl qRB5 ?_ | refine AL.gskip rfl rfl rfl rfl rfl rfl rfl ?_ | refine AL.gnone rfl rfl rfl rfl rfl ?_ | refine AL.gmay rfl rfl rfl rfl rfl rfl (fun hb => by (try (apply AStepD.uncond 50 rfl (gpf hb))); exact qRB5) ?_ | refine AL.gmay2 rfl rfl rfl rfl rfl rfl (fun _ hb => by (try (apply AStepD.uncond 50 rfl (gpf hb))); exact qRB5) ?_
  first | refine AL.gstep rfl rfl rfl rfl rfl rfl rfl qRA2 ?_ | refine AL.gskip rfl rfl rfl rfl rfl rfl rfl ?_ | refine AL.gnone rfl rfl rfl rfl rfl ?_ | refine AL.gmay rfl rfl rfl rfl rfl rfl (fun hb => by (try (apply AStepD.uncond 51 rfl (gpf hb))); exact qRA2) ?_ | refine AL.gmay2 rfl rfl rfl rfl rfl rfl (fun _ hb => by (try (apply AStepD.uncond 51 rfl (gpf hb))); exact qRA2) ?_
  first | refine AL.gstep rfl rfl rfl rfl rfl rfl rfl qRA19 ?_ | refine AL.gskip rfl rfl rfl rfl rfl rfl rfl ?_ | refine AL.gnone rfl rfl rfl rfl rfl ?_ | refine AL.gmay rfl rfl rfl rfl rfl rfl (fun hb => by (try (apply AStepD.uncond 52 rfl (gpf hb))); exact qRA19) ?_ | refine AL.gmay2 rfl rfl rfl rfl rfl rfl (fun _ hb => by (try (apply AStepD.uncond 52 rfl (gpf hb))); exact qRA19) ?_
  first | refine AL.gstep rfl rfl rfl rfl rfl rfl rfl qRM9 ?_ | refine AL.gskip rfl rfl rfl rfl rfl rfl rfl ?_ | refine AL.gnone rfl rfl rfl rfl rfl ?_ | refine AL.gmay rfl rfl rfl rfl rfl rfl qQD3 ?_ | refine AL.gmay2 rfl rfl rfl rfl rfl rfl qQD4 ?_
  first | refine AL.gstep rfl rfl rfl rfl rfl rfl rfl qRB5 ?_ | refine AL.gskip rfl rfl rfl rfl rfl rfl rfl ?_ | refine AL.gnone rfl rfl rfl rfl rfl ?_ | refine AL.gmay rfl rfl rfl rfl rfl rfl (fun hb => by (try (apply AStepD.uncond 54 rfl (gpf hb))); exact qRB5) ?_ | refine AL.gmay2 rfl rfl rfl rfl rfl rfl (fun _ hb => by (try (apply AStepD.uncond 54 rfl (gpf hb))); exact qRB5) ?_
  first | refine AL.gstep rfl rfl rfl rfl rfl rfl rfl (by exact AStepD.callf rfl en34 rfl (rtime_calls _ m.fa)) ?_ | refine AL.gskip rfl rfl rfl rfl rfl rfl rfl ?_ | refine AL.gnone rfl rfl rfl rfl rfl ?_ | refine AL.gmay rfl rfl rfl rfl rfl rfl (fun hb => by (try (apply AStepD.uncond 55 rfl (gpf hb))); exact (by exact AStepD.callf rfl en34 rfl (rtime_calls _ m.fa))) ?_ | refine AL.gmay2 rfl rfl rfl rfl rfl rfl (fun _ hb => by (try (apply AStepD.uncond 55 rfl (gpf hb))); exact (by exact AStepD.callf rfl en34 rfl (rtime_calls _ m.fa))) ?_
  first | refine AL.gstep rfl rfl rfl rfl rfl rfl rfl qRB9 ?_ | refine AL.gskip rfl rfl rfl rfl rfl rfl rfl ?_ | refine AL.gnone rfl rfl rfl rfl rfl ?_ | refine AL.gmay rfl rfl rfl rfl rfl rfl (fun hb => by (try (apply AStepD.uncond 56 rfl (gpf hb))); exact qRB9) ?_ | refine AL.gmay2 rfl rfl rfl rfl rfl rfl (fun _ hb => by (try (apply AStepD.uncond 56 rfl (gpf hb))); exact qRB9) ?_
  first | refine AL.gstep rfl rfl rfl rfl rfl rfl rfl qRA28 ?_ | refine AL.gskip rfl rfl rfl rfl rfl rfl rfl ?_ | refine AL.gnone rfl rfl rfl rfl rfl ?_ | refine AL.gmay rfl rfl rfl rfl rfl rfl (fun hb => by (try (apply AStepD.uncond 53 rfl (gpf hb))); (try (apply AStepD.uncond 57 rfl (gpf hb))); exact qRA28) ?_ | refine AL.gmay2 rfl rfl rfl rfl rfl rfl (fun _ hb => by (try (apply AStepD.uncond 53 rfl (gpf hb))); (try (apply AStepD.uncond 57 rfl (gpf hb))); exact qRA28) ?_
  refine AL.step rfl rfl rfl qRA28 ?_
  refine AL.nil_then (hK _ _ ?_); clear hK K
  refine AW.cond _ rfl (fun hc5 => ?_) (fun hc5 => ?_)
  · refine AW.seq_region (fun K hK => ?_)
    refine AL.step rfl rfl rfl qQB1 ?_
    refine AL.step0 rfl rfl qRE5 ?_
    refine AL.step rfl rfl rfl qRA18 ?_
    refine AL.nil_then (hK _ _ ?_); clear hK K
    have hrb : rightB m = false := by
      simp only [Bool.or_eq_true, Bool.and_eq_true, decide_eq_true_eq, Bool.not_eq_true'] at hc5
      cases hr : rightB m with
      | false => rfl
      | true =>
        simp only [rightB, Bool.or_eq_true, Bool.and_eq_true, decide_eq_true_eq] at hr
        obtain ⟨⟨⟨⟨⟨_, h2⟩, h3⟩, h4⟩, h5⟩, h6⟩ := hr
        rcases hc5 with (((h | h) | h) | h) | ⟨h, h'⟩
        · omega
        · omega
        · omega
        · omega
        · rcases h6 with h6 | h6
          · exact (h h6).elim
          · rw [h'] at h6; cases h6
    refine AW.ret (RetQ.mk (.inr rfl) qQB2 ⟨?_, qRA8⟩)
    exact hno 10 (by rw [setE, if_pos hh, hrb]; rfl) (by decide)
  refine AW.skip (hK _ _ ?_); clear hK K
  have hrb : rightB m = true := by
    have h1 : (decide (m.ma = 0) || (idB m.ma && decide (m.ma ≠ m.i))) = true := by
      by_cases e : m.ma = 0
      · simp [e]
      · have e1 : decide (m.ma ≠ 0) = true := by simp [e]
        rw [e1, Bool.true_and, Bool.or_eq_false_iff] at hc4
        have h2 : idB m.ma = true := by simpa using hc4.1
        have h3 : m.ma ≠ m.i := by simpa using hc4.2
        simp [h2, h3]
    simp only [Bool.or_eq_false_iff, decide_eq_false_iff_not] at hc5
    obtain ⟨⟨⟨⟨g1, g2⟩, g3⟩, g4⟩, g5⟩ := hc5
    have h2 : (decide (m.fa = -1) || timeB m.fa) = true := by
      by_cases e : m.fa = -1
      · simp [e]
      · have e1 : decide (m.fa ≠ -1) = true := by simp [e]
        rw [e1, Bool.true_and] at g5
        have h3 : timeB m.fa = true := by simpa using g5
        simp [h3]
    rw [rightB, h1, h2]
    simp
    omega
  have he : setE r m = 0 := by rw [setE, if_pos hh, hrb]; rfl
  refine AW.abs (fun T' H' => ∃ X Y Z : Nat, SubT T' [(6, .v (.int .i64 k)), (2, .ptr X 0), (3, .ptr Z 0), (4, .ptr Y 0)] ∧ H'.get X = some (.cells 47 (refC r)) ∧ H'.get Z = some (.cells 53 m.cells) ∧ H'.get Y = some (.cells 47 (AV.ofV (tt 47).zero)) ∧ Keep H H' ∧ H.next ≤ X ∧ H.next ≤ Y ∧ X ≠ Y ∧ X ≠ Z ∧ Y ≠ Z) ⟨H.next, H.next + 2, H.next + 1, by rw [← hfz]; exact qRA21, qRA6, qRA6, qRA6, qRA8, Nat.le_refl _, by omega, by omega, by omega, by omega⟩ ?_
  rintro T2 H3 ⟨X, Y, Z, hs2, hX, hZ, hY, hk2, hXn, hYn, hXY, hXZ, hYZ⟩
  refine AW.sub hs2 ?_
  clear hs2 hfz hno
  refine AW.lts fun hlt3 => ?_
  have hXl := hlt3 _ _ hX
  have hYl := hlt3 _ _ hY
  have hZl := hlt3 _ _ hZ
  have hX' : H3.get X = some (.cells 47 [.v (.int .i64 r.self), .vec r.ms.length (flat r.ms), .vec r.bs.length (flatB r.bs), .v (.int .i64 (r.cur : Nat))]) := hX
  clear hX
  have hfo := flat_ones r.ms
  have hk2n := hk2.1
  refine AW.seq_region (fun K hK => ?_)
  refine AL.step rfl rfl rfl qRD8 ?_
  refine AL.step rfl rfl rfl qRD9 ?_
  refine AL.step rfl rfl rfl qRB5 ?_
  refine AL.step rfl rfl rfl (by exact AStepD.append' (bk := 64) (n := r.ms.length) (ys := flat r.ms) tok rfl rfl rfl rfl rfl rfl rfl rfl (show _ = 5 from rfl) rfl qRA6 rfl qRA11 Src.vec hfl hfo (by omega) (by omega) (Nat.zero_add _) (List.nil_append _)) ?_
  refine AL.step rfl rfl rfl qRD9 ?_
  refine AL.step0 rfl rfl qRE5 ?_
  refine AL.nil_then (hK _ _ ?_); clear hK K
  refine AW.seq_region (fun K hK => ?_)
  refine AL.step rfl rfl rfl qRD9 ?_
  refine AL.step rfl rfl rfl qRB5 ?_
  refine AL.step rfl rfl rfl qRA19 ?_
  refine AL.step rfl rfl rfl qRA25 ?_
  refine AL.step rfl rfl rfl (by exact AStepD.indexAddr_sl' (i := k) tok rfl rfl rfl rfl rfl rfl (show _ = 5 from rfl) rfl hp (Nat.zero_add _)) ?_
  refine AL.step0 rfl rfl qRE5 ?_
  refine AL.nil_then (hK _ _ ?_); clear hK K
  refine AW.abs (fun T' H' => ∃ D : Nat, SubT T' [(2, .ptr X 0), (4, .ptr Y 0)] ∧ H'.get X = some (.cells 47 [.v (.int .i64 r.self), .sl D 0 r.ms.length 5, .vec r.bs.length (flatB r.bs), .v (.int .i64 (r.cur : Nat))]) ∧ H'.get D = some (.cells 53 (flat (r.ms.set k m))) ∧ H'.get Y = some (.cells 47 (AV.ofV (tt 47).zero)) ∧ Keep H H' ∧ H.next ≤ D ∧ X ≠ D ∧ Y ≠ D) ?_ ?_
  · refine Exists.intro ?eD ⟨?es, ?ex, ?ed, ?ey, ?ek, ?ea, ?eb, ?ec⟩
    case ed => rw [← flat_set _ _ _ hp]; exact AHeap.get_set_same _ _ _
    case es => exact qRA21
    case ex => exact qRA6
    case ey => exact qRA6
    case ek => exact qQC1
    case ea => (simp only [za, zb, zc]; omega)
    case eb => (simp only [za, zb, zc]; omega)
    case ec => (simp only [za, zb, zc]; omega)
  rintro T4 H4 ⟨D, hs4, hX4, hD4, hY4, hk4, hDn, hXD, hYD⟩
  refine AW.sub hs4 ?_
  clear hs4
  have hls : (r.ms.set k m).length = r.ms.length := List.length_set
  have hfs := flat_length (r.ms.set k m)
  have hY4' : (H4.del D).get Y = some (.cells 47 (AV.ofV (tt 47).zero)) := by rw [AHeap.get_del_ne _ hYD]; exact hY4
  refine AW.freeze_cell (l := D) (X := X) (bs := refC (setR r m)) hD4 hX4 hXD rfl ?_ ?_
  · intro i a b ha hb
    match i with
    | 0 => cases ha; cases hb; exact .same _
    | 1 =>
      cases ha; cases hb
      have := Frz.sl (l := D) (cs := flat (r.ms.set k m)) (off := 0) (len := r.ms.length) (k := 5) (by omega)
      rw [List.drop_zero, List.take_of_length_le (by omega)] at this
      simp only [setR, hpp]
      rw [hls]
      exact this
    | 2 => cases ha; cases hb; exact .same _
    | 3 => cases ha; cases hb; exact .same _
    | i + 4 => simp at ha
  refine AW.abs (fun T' H' => T' = [(2, .ptr X 0), (4, .ptr Y 0)] ∧ H'.get X = some (.cells 47 (refC (setR r m))) ∧ H'.get Y = some (.cells 47 (AV.ofV (tt 47).zero)) ∧ Keep H H') ⟨rfl, AHeap.get_set_same _ _ _, by rw [AHeap.get_set_ne _ _ (Ne.symm hXY)]; exact hY4', Keep.set (Keep.del hk4 hDn) hXn⟩ ?_
  rintro T5 H5 ⟨rfl, hX5, hY5, hk5⟩
  have hone5 := refC_one (setR r m)
  refine AW.seq_region (fun K hK => ?_)
  refine AL.step rfl rfl rfl qQB1 ?_
  refine AL.step0 rfl rfl qRE5 ?_
  refine AL.step rfl rfl rfl qRA18 ?_
  refine AL.nil_then (hK _ _ ?_); clear hK K
  refine AW.ret (RetQ.mk (.inr rfl) qQB2 ⟨?_, Keep.set hk5 hYn⟩)
  rw [if_pos he, he]
  rfl
end Go.Proofs.Ytjiifddmcmbbnaa
