/- The walk of the question whether a roster is the document's. -/
import Derived.Test.YtjiifddmcmbbnaaQE
namespace Go.Proofs.Ytjiifddmcmbbnaa
open Go.Ax
theorem qQF1 {p : Prop} (h : p := by exact (fun hb => by (try (apply AStepD.uncond 3 rfl (gpf hb))); exact qRA19)) : p := h
theorem qQF2 {p : Prop} (h : p := by exact (fun _ hb => by (try (apply AStepD.uncond 3 rfl (gpf hb))); exact qRA19)) : p := h
set_option linter.unusedSimpArgs false
set_option linter.unusedVariables false

theorem st53 : Try.prog.stoodInHeld 53 = false := by kernel_rfl
theorem eg53 : Try.prog.eqGuardType Try.prog.depth 53 = false := by kernel_rfl
theorem fi53 : ∀ fs, (tt 53).und = .struct fs → flatInts tt 0 fs.toList = true := by
  intro fs h
  cases h
  rfl
theorem getM_at {r : Ros} (hI : Inv r) {j : Nat} (h : j < r.ms.length) : has r.ms r.ms[j].i = true ∧ getM r.ms r.ms[j].i = r.ms[j] := by
  have hh : has r.ms r.ms[j].i = true := has_mem.2 ⟨_, List.getElem_mem h, rfl⟩
  have hp : pos r.ms r.ms[j].i = j := pos_eq _ _ _ (by omega) (fun q hq hqj => hI.1.lt h hqj) (fun _ => by omega)
  refine ⟨hh, ?_⟩
  rw [getM, dif_pos ⟨hh, by omega⟩]
  congr 1

theorem like_calls (H : AHeap) (n L B : Nat) (r : Ros) (bs : List (Int × Int)) (cur : Nat) (a t : Int) (hR : RosAt H n L B r) (hI : Inv r) (hb : refB bs a t = banned r.bs a t) (hbl : bs.length ≤ 1000000) :
    ACalls Try.prog 25 [.ptr n 0, .agg (refC ⟨r.self, r.ms, bs, cur⟩), .v (.int .i64 a), .v (.int .i64 t)] H (fun v H' => v = .v (.bool true) ∧ H' = H) := by
  refine ACalls.quiet_keep ?_ (.v _)
  refine ACalls.lts fun hlt => ?_
  have hone := refC_one ⟨r.self, r.ms, bs, cur⟩
  have h15 := hI.2
  have hfl := flat_length r.ms
  refine ACalls.of_body tok Try.func25 rfl Try.ntmps25 (Nat.le_of_ble_eq_true rfl) ?_
  refine AW.seq_region (fun K hK => ?_)
  refine AL.step rfl rfl rfl qRM1 ?_
  refine AL.step rfl rfl rfl qRA18 ?_
  refine AL.nil_then (hK _ _ ?_); clear hK K
  refine AW.abs (fun T' H' => ∃ X : Nat, SubT T' [(0, .ptr n 0), (5, .ptr X 0), (2, .v (.int .i64 a)), (3, .v (.int .i64 t))] ∧ H'.get X = some (.cells 47 [.v (.int .i64 r.self), .vec r.ms.length (flat r.ms), .vec bs.length (flatB bs), .v (.int .i64 (cur : Nat))]) ∧ RosAt H' n L B r ∧ Keep H H') ⟨H.next, qRA21, AHeap.get_new_same _ _, hR.keep hlt qRA8, qRA8⟩ ?_
  rintro T0 H0 ⟨X, hs0, hX0, hR0, hk0⟩
  refine AW.sub hs0 ?_
  clear hs0
  refine AW.lts fun hlt0 => ?_
  have hXl0 := hlt0 _ _ hX0
  refine AW.seq_region (fun K hK => ?_)
  refine AL.step rfl rfl rfl qRA19 ?_
  refine AL.step rfl rfl rfl (by exact AStepD.callf rfl en12 rfl (list_calls _ n L B r hR0 (by omega))) ?_
  refine AL.step rfl rfl rfl qRA18 ?_
  refine AL.nil_then (hK _ _ ?_); clear hK K
  have hbc := rbanned_calls H0 ⟨r.self, r.ms, bs, cur⟩ a t hbl
  simp only [hb] at hbc
  have hbc2 := banned_calls H0 n L B r a t hR0
  generalize banned r.bs a t = bb at hbc hbc2
  refine AW.seq_k (fun K hK => ?_)
  refine AW.seq_k (fun K hK => ?_)
  apply AW.draw mixed [_, _, _, _, _, _, _, _, _, _, _, _, _, _, _, _, _, _, _, _, _, _, _, _] [] [_] [(0, 0), (1, 0), (2, 0), (3, 0), (4, 0), (5, 0), (6, 0), (7, 0), (8, 0), (9, 0), (10, 0), (11, 0), (12, 0), (13, 0), (14, 0), (15, 0), (16, 0), (17, 0), (18, 0), (19, 0), (20, 0), (21, 0), (22, 0), (23, 0)] rfl rfl rfl qRC6
  · refine ⟨?_, ?_, ?_, ?_, ?_, ?_, ?_, ?_, ?_, ?_, ?_, ?_, ?_, ?_, ?_, ?_, ?_, ?_, ?_, ?_, ?_, ?_, ?_, ?_⟩
    · refine Ob.mk _ [9] 0 rfl rfl (restr_cons qRA1 restr_nil) rfl ?_
      simp only [List.getD_cons_zero, List.getD_cons_succ]
      exact GStep.plain rfl qRA19
    · refine Ob.mk _ [18] 0 rfl rfl (restr_cons qRA1 restr_nil) rfl ?_
      simp only [List.getD_cons_zero, List.getD_cons_succ]
      exact GStep.plain rfl qRC9
    · refine Ob.mk _ [5] 0 rfl rfl (restr_cons qRA1 restr_nil) rfl ?_
      simp only [List.getD_cons_zero, List.getD_cons_succ]
      exact GStep.plain rfl qRD9
    · refine Ob.mk _ [20] 0 rfl rfl (restr_cons qRA1 restr_nil) rfl ?_
      simp only [List.getD_cons_zero, List.getD_cons_succ]
      exact GStep.plain rfl qRB5
    · refine Ob.mk _ [21] 0 rfl rfl (restr_cons qRA1 restr_nil) rfl ?_
      simp only [List.getD_cons_zero, List.getD_cons_succ]
      exact GStep.plain rfl qRC9
    · refine Ob.mk _ [19, 22] 0 rfl rfl (restr_cons qRA1 (restr_cons qRA1 restr_nil)) rfl ?_
      simp only [List.getD_cons_zero, List.getD_cons_succ]
      exact GStep.plain rfl (by exact AStepD.bool (AStepD.neq rfl rfl rfl) (c := false) (by simp))
    · refine Ob.mk _ [23] 0 rfl rfl (restr_cons qRA1 restr_nil) rfl ?_
      simp only [List.getD_cons_zero, List.getD_cons_succ]
      exact GStep.plain rfl qRA19
    · refine Ob.mk _ [0, 24] 0 rfl rfl (restr_cons qRA1 (restr_cons qRA1 restr_nil)) rfl ?_
      simp only [List.getD_cons_zero, List.getD_cons_succ]
      first | exact GStep.yes rfl rfl rfl rfl rfl qRA19 | exact GStep.no rfl rfl rfl rfl rfl | exact GStep.none rfl rfl rfl | exact GStep.may rfl rfl rfl rfl qRA32 | exact GStep.may2 rfl rfl rfl rfl qRA33
    · refine Ob.mk _ [25, 24] 0 rfl rfl (restr_cons qRA1 (restr_cons qRA1 restr_nil)) rfl ?_
      simp only [List.getD_cons_zero, List.getD_cons_succ]
      first | exact GStep.yes rfl rfl rfl rfl rfl (by exact AStepD.callf rfl en26 rfl (self_calls _ n L B r hR0)) | exact GStep.no rfl rfl rfl rfl rfl | exact GStep.none rfl rfl rfl | exact GStep.may rfl rfl rfl rfl (fun hb => by (try (apply AStepD.uncond 25 rfl (gpf hb))); exact (by exact AStepD.callf rfl en26 rfl (self_calls _ n L B r hR0))) | exact GStep.may2 rfl rfl rfl rfl (fun _ hb => by (try (apply AStepD.uncond 25 rfl (gpf hb))); exact (by exact AStepD.callf rfl en26 rfl (self_calls _ n L B r hR0)))
    · refine Ob.mk _ [5, 24] 0 rfl rfl (restr_cons qRA1 (restr_cons qRA1 restr_nil)) rfl ?_
      simp only [List.getD_cons_zero, List.getD_cons_succ]
      first | exact GStep.yes rfl rfl rfl rfl rfl qRB18 | exact GStep.no rfl rfl rfl rfl rfl | exact GStep.none rfl rfl rfl | exact GStep.may rfl rfl rfl rfl (fun hb => by (try (apply AStepD.uncond 5 rfl (gpf hb))); exact qRB18) | exact GStep.may2 rfl rfl rfl rfl (fun _ hb => by (try (apply AStepD.uncond 5 rfl (gpf hb))); exact qRB18)
    · refine Ob.mk _ [27, 24] 0 rfl rfl (restr_cons qRA1 (restr_cons qRA1 restr_nil)) rfl ?_
      simp only [List.getD_cons_zero, List.getD_cons_succ]
      first | exact GStep.yes rfl rfl rfl rfl rfl qRB5 | exact GStep.no rfl rfl rfl rfl rfl | exact GStep.none rfl rfl rfl | exact GStep.may rfl rfl rfl rfl (fun hb => by (try (apply AStepD.uncond 27 rfl (gpf hb))); exact qRB5) | exact GStep.may2 rfl rfl rfl rfl (fun _ hb => by (try (apply AStepD.uncond 27 rfl (gpf hb))); exact qRB5)
    · refine Ob.mk _ [26, 28, 24] 0 rfl rfl (restr_cons qRA1 (restr_cons qRA1 (restr_cons qRA1 restr_nil))) rfl ?_
      simp only [List.getD_cons_zero, List.getD_cons_succ]
      first | exact GStep.yes rfl rfl rfl rfl rfl (by exact AStepD.bool (AStepD.neq rfl rfl rfl) (c := false) (by simp)) | exact GStep.no rfl rfl rfl rfl rfl | exact GStep.none rfl rfl rfl | exact GStep.may rfl rfl rfl rfl (fun hb => by (try (apply AStepD.uncond 26 rfl (gpf hb))); (try (apply AStepD.uncond 28 rfl (gpf hb))); exact (by exact AStepD.bool (AStepD.neq rfl rfl rfl) (c := false) (by simp))) | exact GStep.may2 rfl rfl rfl rfl (fun _ hb => by (try (apply AStepD.uncond 26 rfl (gpf hb))); (try (apply AStepD.uncond 28 rfl (gpf hb))); exact (by exact AStepD.bool (AStepD.neq rfl rfl rfl) (c := false) (by simp)))
    · refine Ob.mk _ [24, 29] 0 rfl rfl (restr_cons qRA1 (restr_cons qRA1 restr_nil)) rfl ?_
      simp only [List.getD_cons_zero, List.getD_cons_succ]
      exact GStep.plain rfl qRA28
    · refine Ob.mk _ [30] 0 rfl rfl (restr_cons qRA1 restr_nil) rfl ?_
      simp only [List.getD_cons_zero, List.getD_cons_succ]
      exact GStep.plain rfl qRA19
    · refine Ob.mk _ [0, 31] 0 rfl rfl (restr_cons qRA1 (restr_cons qRA1 restr_nil)) rfl ?_
      simp only [List.getD_cons_zero, List.getD_cons_succ]
      first | exact GStep.yes rfl rfl rfl rfl rfl qRA19 | exact GStep.no rfl rfl rfl rfl rfl | exact GStep.none rfl rfl rfl | exact GStep.may rfl rfl rfl rfl qRA32 | exact GStep.may2 rfl rfl rfl rfl qRA33
    · refine Ob.mk _ [2, 31] 0 rfl rfl (restr_cons qRA1 (restr_cons qRA1 restr_nil)) rfl ?_
      simp only [List.getD_cons_zero, List.getD_cons_succ]
      first | exact GStep.yes rfl rfl rfl rfl rfl qRA19 | exact GStep.no rfl rfl rfl rfl rfl | exact GStep.none rfl rfl rfl | exact GStep.may rfl rfl rfl rfl qRA30 | exact GStep.may2 rfl rfl rfl rfl qRA31
    · refine Ob.mk _ [3, 31] 0 rfl rfl (restr_cons qRA1 (restr_cons qRA1 restr_nil)) rfl ?_
      simp only [List.getD_cons_zero, List.getD_cons_succ]
      first | exact GStep.yes rfl rfl rfl rfl rfl qRA19 | exact GStep.no rfl rfl rfl rfl rfl | exact GStep.none rfl rfl rfl | exact GStep.may rfl rfl rfl rfl qQF1 | exact GStep.may2 rfl rfl rfl rfl qQF2
    · refine Ob.mk _ [32, 33, 34, 31] 0 rfl rfl (restr_cons qRA1 (restr_cons qRA1 (restr_cons qRA1 (restr_cons qRA1 restr_nil)))) rfl ?_
      simp only [List.getD_cons_zero, List.getD_cons_succ]
      first | exact GStep.yes rfl rfl rfl rfl rfl (by exact AStepD.callf rfl en18 rfl hbc2) | exact GStep.no rfl rfl rfl rfl rfl | exact GStep.none rfl rfl rfl | exact GStep.may rfl rfl rfl rfl (fun hb => by (try (apply AStepD.uncond 32 rfl (gpf hb))); (try (apply AStepD.uncond 33 rfl (gpf hb))); (try (apply AStepD.uncond 34 rfl (gpf hb))); exact (by exact AStepD.callf rfl en18 rfl hbc2)) | exact GStep.may2 rfl rfl rfl rfl (fun _ hb => by (try (apply AStepD.uncond 32 rfl (gpf hb))); (try (apply AStepD.uncond 33 rfl (gpf hb))); (try (apply AStepD.uncond 34 rfl (gpf hb))); exact (by exact AStepD.callf rfl en18 rfl hbc2))
    · refine Ob.mk _ [5, 31] 0 rfl rfl (restr_cons qRA1 (restr_cons qRA1 restr_nil)) rfl ?_
      simp only [List.getD_cons_zero, List.getD_cons_succ]
      first | exact GStep.yes rfl rfl rfl rfl rfl qQB1 | exact GStep.no rfl rfl rfl rfl rfl | exact GStep.none rfl rfl rfl | exact GStep.may rfl rfl rfl rfl (fun hb => by (try (apply AStepD.uncond 5 rfl (gpf hb))); exact qQB1) | exact GStep.may2 rfl rfl rfl rfl (fun _ hb => by (try (apply AStepD.uncond 5 rfl (gpf hb))); exact qQB1)
    · refine Ob.mk _ [2, 31] 0 rfl rfl (restr_cons qRA1 (restr_cons qRA1 restr_nil)) rfl ?_
      simp only [List.getD_cons_zero, List.getD_cons_succ]
      first | exact GStep.yes rfl rfl rfl rfl rfl qRA19 | exact GStep.no rfl rfl rfl rfl rfl | exact GStep.none rfl rfl rfl | exact GStep.may rfl rfl rfl rfl qRA30 | exact GStep.may2 rfl rfl rfl rfl qRA31
    · refine Ob.mk _ [3, 31] 0 rfl rfl (restr_cons qRA1 (restr_cons qRA1 restr_nil)) rfl ?_
      simp only [List.getD_cons_zero, List.getD_cons_succ]
      first | exact GStep.yes rfl rfl rfl rfl rfl qRA19 | exact GStep.no rfl rfl rfl rfl rfl | exact GStep.none rfl rfl rfl | exact GStep.may rfl rfl rfl rfl qQF1 | exact GStep.may2 rfl rfl rfl rfl qQF2
    · refine Ob.mk _ [36, 37, 38, 31] 0 rfl rfl (restr_cons qRA1 (restr_cons qRA1 (restr_cons qRA1 (restr_cons qRA1 restr_nil)))) rfl ?_
      simp only [List.getD_cons_zero, List.getD_cons_succ]
      first | exact GStep.yes rfl rfl rfl rfl rfl (by exact AStepD.callf rfl en36 rfl hbc) | exact GStep.no rfl rfl rfl rfl rfl | exact GStep.none rfl rfl rfl | exact GStep.may rfl rfl rfl rfl (fun hb => by (try (apply AStepD.uncond 36 rfl (gpf hb))); (try (apply AStepD.uncond 37 rfl (gpf hb))); (try (apply AStepD.uncond 38 rfl (gpf hb))); exact (by exact AStepD.callf rfl en36 rfl hbc)) | exact GStep.may2 rfl rfl rfl rfl (fun _ hb => by (try (apply AStepD.uncond 36 rfl (gpf hb))); (try (apply AStepD.uncond 37 rfl (gpf hb))); (try (apply AStepD.uncond 38 rfl (gpf hb))); exact (by exact AStepD.callf rfl en36 rfl hbc))
    · refine Ob.mk _ [35, 39, 31] 0 rfl rfl (restr_cons qRA1 (restr_cons qRA1 (restr_cons qRA1 restr_nil))) rfl ?_
      simp only [List.getD_cons_zero, List.getD_cons_succ]
      first | exact GStep.yes rfl rfl rfl rfl rfl qRA2 | exact GStep.no rfl rfl rfl rfl rfl | exact GStep.none rfl rfl rfl | exact GStep.may rfl rfl rfl rfl (fun hb => by (try (apply AStepD.uncond 35 rfl (gpf hb))); (try (apply AStepD.uncond 39 rfl (gpf hb))); exact qRA2) | exact GStep.may2 rfl rfl rfl rfl (fun _ hb => by (try (apply AStepD.uncond 35 rfl (gpf hb))); (try (apply AStepD.uncond 39 rfl (gpf hb))); exact qRA2)
    · refine Ob.mk _ [31, 40] 0 rfl rfl (restr_cons qRA1 (restr_cons qRA1 restr_nil)) rfl ?_
      simp only [List.getD_cons_zero, List.getD_cons_succ]
      exact GStep.plain rfl qRA28
  refine hK _ _ ?_; clear hK K
  refine AW.frame qRC7 qRC8 ?_
  refine AW.cond_false rfl (by cases bb <;> rfl) (AW.skip (hK _ _ ?_)); clear hK K
  refine AW.seq_k (fun K hK => ?_)
  refine AW.seq_region (fun K hK => ?_)
  refine AL.step rfl rfl rfl qRA19 ?_
  refine AL.step rfl rfl rfl qRC9 ?_
  refine AL.step rfl rfl rfl qRA19 ?_
  refine AL.nil_then (hK _ _ ?_); clear hK K
  refine AW.block ?_
  refine AW.loop_at (ι := Nat) (fun x => [(44, .v (.int .i64 x)), (43, .v (.int .i64 r.ms.length)), (42, .vec r.ms.length (flat r.ms)), (0, .ptr n 0), (5, .ptr X 0), (2, .v (.int .i64 a)), (3, .v (.int .i64 t))])
    (fun x H' => x ≤ r.ms.length ∧ H'.get X = some (.cells 47 [.v (.int .i64 r.self), .vec r.ms.length (flat r.ms), .vec bs.length (flatB bs), .v (.int .i64 (cur : Nat))]) ∧ RosAt H' n L B r ∧ Keep H H') (fun x => r.ms.length - x) 0 qRA21 ⟨Nat.zero_le _, hX0, hR0, hk0⟩ ?_
  rintro i H1 ⟨hi, hX1, hR1, hk1⟩
  refine AW.lts fun hlt1 => ?_
  have hXl1 := hlt1 _ _ hX1
  refine AW.seq_region (fun K hK => ?_)
  refine AL.step rfl rfl rfl qRA3 ?_
  refine AL.nil_then (hK _ _ ?_); clear hK K
  refine AW.seq_k (fun K1 hK1 => ?_)
  refine AW.cond _ rfl (fun hc2 => ?_) (fun hc2 => ?_)
  · refine AW.skip (hK1 _ _ ?_); clear hK1 K1
    have hil : i < r.ms.length := by have := of_decide_eq_true hc2; omega
    have hfa := flat_at r.ms i hil
    obtain ⟨hh, hg⟩ := getM_at hI hil
    have hgc : ∀ H', RosAt H' n L B r → ACalls Try.prog 16 [.ptr n 0, .v (.int .i64 r.ms[i].i)] H' (fun v H'' => v = .tup [.agg r.ms[i].cells, .v (.bool true)] ∧ H'' = H') := by
      intro H' hR'
      have := get_calls H' n L B r r.ms[i].i hR' hI
      rw [hh, hg] at this
      exact this
    clear hh hg
    generalize r.ms[i] = x at hfa hgc
    have hxo := x.one
    refine AW.seq_k (fun K1 hK1 => ?_)
    refine AW.block ?_
    refine AW.seq_region (fun K hK => ?_)
    refine AL.step rfl rfl rfl qRA19 ?_
    refine AL.step rfl rfl rfl qRA24 ?_
    refine AL.step rfl rfl rfl qRA25 ?_
    refine AL.step rfl rfl rfl qRJ1 ?_
    refine AL.step rfl rfl rfl qRA18 ?_
    refine AL.step0 rfl rfl qRE5 ?_
    refine AL.nil_then (hK _ _ ?_); clear hK K
    refine AW.seq_region (fun K hK => ?_)
    refine AL.step rfl rfl rfl qRA19 ?_
    refine AL.step rfl rfl rfl qRB18 ?_
    refine AL.step rfl rfl rfl qRB5 ?_
    refine AL.step rfl rfl rfl (by exact AStepD.callf rfl en16 rfl (hgc _ (hR1.keep hlt1 qRA8))) ?_
    refine AL.step rfl rfl rfl qRA19 ?_
    refine AL.step rfl rfl rfl qRB6 ?_
    refine AL.step rfl rfl rfl qRB6 ?_
    refine AL.step rfl rfl rfl qRJ1 ?_
    refine AL.step0 rfl rfl qRE5 ?_
    refine AL.step rfl rfl rfl qRA18 ?_
    refine AL.nil_then (hK _ _ ?_); clear hK K
    refine AW.seq_k (fun K hK => ?_)
    apply AW.draw mixed [_, _, _, _, _, _, _, _, _, _, _, _, _, _, _, _] [] [_] [(0, 0), (1, 0), (2, 0), (3, 0), (4, 0), (5, 0), (6, 0), (7, 0), (8, 0), (9, 0), (10, 0), (11, 0), (12, 0), (13, 0), (14, 0), (15, 0)] rfl rfl rfl qRC6
    · refine ⟨?_, ?_, ?_, ?_, ?_, ?_, ?_, ?_, ?_, ?_, ?_, ?_, ?_, ?_, ?_, ?_⟩
      · refine Ob.mk _ [11] 0 rfl rfl (restr_cons qRA1 restr_nil) rfl ?_
        simp only [List.getD_cons_zero, List.getD_cons_succ]
        exact GStep.plain rfl qRA25
      · refine Ob.mk _ [5] 0 rfl rfl (restr_cons qRA1 restr_nil) rfl ?_
        simp only [List.getD_cons_zero, List.getD_cons_succ]
        exact GStep.plain rfl qRD9
      · refine Ob.mk _ [57] 0 rfl rfl (restr_cons qRA1 restr_nil) rfl ?_
        simp only [List.getD_cons_zero, List.getD_cons_succ]
        exact GStep.plain rfl qRB5
      · refine Ob.mk _ [10] 0 rfl rfl (restr_cons qRA1 restr_nil) rfl ?_
        simp only [List.getD_cons_zero, List.getD_cons_succ]
        exact GStep.plain rfl qRA19
      · refine Ob.mk _ [58, 59] 0 rfl rfl (restr_cons qRA1 (restr_cons qRA1 restr_nil)) rfl ?_
        simp only [List.getD_cons_zero, List.getD_cons_succ]
        exact GStep.plain rfl qRA24
      · refine Ob.mk _ [60] 0 rfl rfl (restr_cons qRA1 restr_nil) rfl ?_
        simp only [List.getD_cons_zero, List.getD_cons_succ]
        exact GStep.plain rfl qRA25
      · refine Ob.mk _ [56, 61] 0 rfl rfl (restr_cons qRA1 (restr_cons qRA1 restr_nil)) rfl ?_
        simp only [List.getD_cons_zero, List.getD_cons_succ]
        exact GStep.plain rfl (by exact AStepD.struct_eq (xs := x.zs) (ys := x.zs) tok .neq (.inr rfl) rfl rfl rfl rfl rfl st53 eg53 (fi53 _ rfl) rfl rfl (c := false) (by simp))
      · refine Ob.mk _ [62] 0 rfl rfl (restr_cons qRA1 restr_nil) rfl ?_
        simp only [List.getD_cons_zero, List.getD_cons_succ]
        exact GStep.plain rfl qRA19
      · refine Ob.mk _ [13, 63] 0 rfl rfl (restr_cons qRA1 (restr_cons qRA1 restr_nil)) rfl ?_
        simp only [List.getD_cons_zero, List.getD_cons_succ]
        first | exact GStep.yes rfl rfl rfl rfl rfl qRA19 | exact GStep.no rfl rfl rfl rfl rfl | exact GStep.none rfl rfl rfl | exact GStep.may rfl rfl rfl rfl qRJ2 | exact GStep.may2 rfl rfl rfl rfl qRJ3
      · refine Ob.mk _ [64, 63] 0 rfl rfl (restr_cons qRA1 (restr_cons qRA1 restr_nil)) rfl ?_
        simp only [List.getD_cons_zero, List.getD_cons_succ]
        first | exact GStep.yes rfl rfl rfl rfl rfl qRB9 | exact GStep.no rfl rfl rfl rfl rfl | exact GStep.none rfl rfl rfl | exact GStep.may rfl rfl rfl rfl (fun hb => by (try (apply AStepD.uncond 64 rfl (gpf hb))); exact qRB9) | exact GStep.may2 rfl rfl rfl rfl (fun _ hb => by (try (apply AStepD.uncond 64 rfl (gpf hb))); exact qRB9)
      · refine Ob.mk _ [63, 65] 0 rfl rfl (restr_cons qRA1 (restr_cons qRA1 restr_nil)) rfl ?_
        simp only [List.getD_cons_zero, List.getD_cons_succ]
        exact GStep.plain rfl qRA28
      · refine Ob.mk _ [66] 0 rfl rfl (restr_cons qRA1 restr_nil) rfl ?_
        simp only [List.getD_cons_zero, List.getD_cons_succ]
        exact GStep.plain rfl qRA19
      · refine Ob.mk _ [12, 67] 0 rfl rfl (restr_cons qRA1 (restr_cons qRA1 restr_nil)) rfl ?_
        simp only [List.getD_cons_zero, List.getD_cons_succ]
        first | exact GStep.yes rfl rfl rfl rfl rfl qRA25 | exact GStep.no rfl rfl rfl rfl rfl | exact GStep.none rfl rfl rfl | exact GStep.may rfl rfl rfl rfl (fun hb => by (try (apply AStepD.uncond 12 rfl (gpf hb))); exact qRA25) | exact GStep.may2 rfl rfl rfl rfl (fun _ hb => by (try (apply AStepD.uncond 12 rfl (gpf hb))); exact qRA25)
      · refine Ob.mk _ [11, 67] 0 rfl rfl (restr_cons qRA1 (restr_cons qRA1 restr_nil)) rfl ?_
        simp only [List.getD_cons_zero, List.getD_cons_succ]
        first | exact GStep.yes rfl rfl rfl rfl rfl qRA25 | exact GStep.no rfl rfl rfl rfl rfl | exact GStep.none rfl rfl rfl | exact GStep.may rfl rfl rfl rfl (fun hb => by (try (apply AStepD.uncond 11 rfl (gpf hb))); exact qRA25) | exact GStep.may2 rfl rfl rfl rfl (fun _ hb => by (try (apply AStepD.uncond 11 rfl (gpf hb))); exact qRA25)
      · refine Ob.mk _ [68, 69, 67] 0 rfl rfl (restr_cons qRA1 (restr_cons qRA1 (restr_cons qRA1 restr_nil))) rfl ?_
        simp only [List.getD_cons_zero, List.getD_cons_succ]
        first | exact GStep.yes rfl rfl rfl rfl rfl (by exact AStepD.struct_eq (xs := x.zs) (ys := x.zs) tok .neq (.inr rfl) rfl rfl rfl rfl rfl st34 eg34 (fi34 _ rfl) rfl rfl (c := false) (by simp)) | exact GStep.no rfl rfl rfl rfl rfl | exact GStep.none rfl rfl rfl | exact GStep.may rfl rfl rfl rfl (fun hb => by (try (apply AStepD.uncond 68 rfl (gpf hb))); (try (apply AStepD.uncond 69 rfl (gpf hb))); exact (by exact AStepD.struct_eq (xs := x.zs) (ys := x.zs) tok .neq (.inr rfl) rfl rfl rfl rfl rfl st34 eg34 (fi34 _ rfl) rfl rfl (c := false) (by simp))) | exact GStep.may2 rfl rfl rfl rfl (fun _ hb => by (try (apply AStepD.uncond 68 rfl (gpf hb))); (try (apply AStepD.uncond 69 rfl (gpf hb))); exact (by exact AStepD.struct_eq (xs := x.zs) (ys := x.zs) tok .neq (.inr rfl) rfl rfl rfl rfl rfl st34 eg34 (fi34 _ rfl) rfl rfl (c := false) (by simp)))
      · refine Ob.mk _ [67, 70] 0 rfl rfl (restr_cons qRA1 (restr_cons qRA1 restr_nil)) rfl ?_
        simp only [List.getD_cons_zero, List.getD_cons_succ]
        exact GStep.plain rfl qRA28
    refine hK _ _ ?_; clear hK K
    refine AW.frame qRC7 qRC8 ?_
    refine AW.cond_false rfl rfl (AW.skip ?_)
    refine hK1 _ _ ?_; clear hK1 K1
    refine AW.region ?_
    refine AL.step rfl rfl rfl qRA22 ?_
    refine AL.step rfl rfl rfl qRA19 ?_
    refine AL.nil ?_
    refine ⟨i + 1, ?_, qRA21, hil, qRA6, hR1.keep hlt1 qRA8, hk1.trans qRA8⟩
    show r.ms.length - (i + 1) < r.ms.length - i
    omega
  · refine AW.exit ?_
    refine hK _ _ ?_; clear hK1 K1 hK K
    have hgo := (getM r.ms a).one
    have hfc : ∀ H', ACalls Try.prog 35 [.agg [.v (.int .i64 r.self), .vec r.ms.length (flat r.ms), .vec bs.length (flatB bs), .v (.int .i64 (cur : Nat))], .v (.int .i64 a)] H' (fun v H'' => v = .v (.int .i64 (findZ ⟨r.self, r.ms, bs, cur⟩ a)) ∧ H'' = H') := fun H' => rfind_calls H' ⟨r.self, r.ms, bs, cur⟩ a hI
    have hfz : decide (0 ≤ findZ ⟨r.self, r.ms, bs, cur⟩ a) = has r.ms a := by
      unfold findZ
      show decide (0 ≤ if has r.ms a = true then (pos r.ms a : Int) else -1) = has r.ms a
      cases has r.ms a <;> simp
    refine AW.seq_region (fun K hK => ?_)
    refine AL.step rfl rfl rfl qRA19 ?_
    refine AL.step rfl rfl rfl qRA19 ?_
    refine AL.step rfl rfl rfl (by exact AStepD.callf rfl en16 rfl (get_calls _ n L B r a hR1 hI)) ?_
    refine AL.step rfl rfl rfl qRA19 ?_
    refine AL.step rfl rfl rfl qRB6 ?_
    refine AL.step rfl rfl rfl qRB6 ?_
    refine AL.step rfl rfl rfl qRJ1 ?_
    refine AL.step0 rfl rfl qRE5 ?_
    refine AL.step rfl rfl rfl qRA18 ?_
    refine AL.nil_then (hK _ _ ?_); clear hK K
    refine AW.seq_region (fun K hK => ?_)
    refine AL.step rfl rfl rfl qRA19 ?_
    refine AL.step rfl rfl rfl qQB1 ?_
    refine AL.step rfl rfl rfl qRA19 ?_
    refine AL.step rfl rfl rfl (by exact AStepD.callf rfl en35 rfl (hfc _)) ?_
    refine AL.step rfl rfl rfl (by exact AStepD.bool (AStepD.geq rfl rfl rfl) hfz) ?_
    refine AL.step rfl rfl rfl qRA16 ?_
    refine AL.step rfl rfl rfl qRA18 ?_
    refine AL.nil_then (hK _ _ ?_); clear hK K
    refine AW.ret (RetQ.mk (.inr rfl) (retA_tmp rfl qRA1 retA_nil) ⟨?_, hk1.trans qRA8⟩)
    simp [tupA]
end Go.Proofs.Ytjiifddmcmbbnaa
