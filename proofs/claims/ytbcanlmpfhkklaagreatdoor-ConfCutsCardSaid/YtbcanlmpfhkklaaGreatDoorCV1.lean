/- The laws ConfUnlike and ConfCuts. -/
import Derived.Test.YtbcanlmpfhkklaaGreatDoorCU
set_option linter.unusedSimpArgs false
set_option linter.unusedVariables false
namespace Go.Proofs.YtbcanlmpfhkklaaGreatDoor
open Go.Ax
open Cel (c)
theorem qV11 {p : Prop} (h : p := by (conv => lhs; whnf); all_goals exact rfl) : p := h
theorem qV12 {p : Prop} (h : p := by simp only [Nat.reduceAdd]; exact rfl) : p := h
theorem qV13 {p : Prop} (h : p := by first | omega | (simp only [za, zb, zc, zd]; omega)) : p := h
theorem qV14 {p : Prop} (h : p := by first | with_reducible assumption | exact rfl) : p := h
theorem qV15 {p : Prop} (h : p := by first | exact IsSl.vec | exact IsSl.sl | exact IsSl.slc | exact IsSl.nil | with_reducible assumption) : p := h
theorem qV16 {p : Prop} (h : p := by exact AStepD.gtr rfl rfl rfl) : p := h
theorem qV17 {p : Prop} (h : p := by intro h; first | (rw [h]; done) | (rw [h]; rfl) | (simp [h]; done) | (simp_all; done) | exact guard_true h) : p := h
theorem qV18 {p : Prop} (h : p := by rw [List.drop_zero]; exact List.take_of_length_le (by omega)) : p := h
theorem qV19 {p : Prop} (h : p := by exact AStepD.extract rfl rfl rfl) : p := h
theorem qV110 {p : Prop} (h : p := by first | exact AStepD.neq rfl rfl rfl | exact AStepD.str_neq rfl rfl rfl | exact (AStepD.ptr_nil tok (.inl ⟨_, _, rfl⟩) rfl rfl rfl).2 rfl | exact (AStepD.nil_nil tok rfl rfl rfl rfl).2 rfl | exact (AStepD.bool_eq tok rfl rfl rfl rfl).2 rfl | exact (AStepD.ptr_same tok rfl rfl rfl rfl rfl).2 rfl | exact (AStepD.iface_nil tok rfl rfl rfl rfl).2 rfl | exact (AStepD.nilIface_nil tok rfl rfl rfl rfl).2 rfl) : p := h
theorem qV111 {p : Prop} (h : p := by first | exact AStepD.eql rfl rfl rfl | exact AStepD.str_eql rfl rfl rfl | exact (AStepD.ptr_nil tok (.inl ⟨_, _, rfl⟩) rfl rfl rfl).1 rfl | exact (AStepD.nil_nil tok rfl rfl rfl rfl).1 rfl | exact (AStepD.bool_eq tok rfl rfl rfl rfl).1 rfl | exact (AStepD.ptr_same tok rfl rfl rfl rfl rfl).1 rfl | exact (AStepD.iface_nil tok rfl rfl rfl rfl).1 rfl | exact (AStepD.nilIface_nil tok rfl rfl rfl rfl).1 rfl) : p := h
theorem qV112 {p : Prop} (h : p := by exact AStepD.lss rfl rfl rfl) : p := h
theorem qV113 {p : Prop} (h : p := by exact AStepD.alloc tok rfl rfl) : p := h
theorem qV114 {p : Prop} (h : p := by (conv => lhs; whnf); all_goals first | exact rfl | (simp; done) | (simp; omega)) : p := h
theorem qV115 {p : Prop} (h : p := by first | exact rfl | exact (Int.toNat_of_nonneg (by omega)).symm) : p := h
theorem qV116 {p : Prop} (h : p := by first | omega | (simp; done) | (simp; omega) | (simp only [over, List.length_append, List.length_take, List.length_drop, *]; omega) | (simp_all; done) | (simp_all; omega)) : p := h
theorem qV117 {p : Prop} (h : p := by exact AStepD.assign' rfl qV11) : p := h
theorem qV118 {p : Prop} (h : p := by first | exact Nat.zero_add 5 | exact (show _ + 5 = _ from qV12) | exact (show _ + 5 = _ + 5 from rfl) | exact rfl) : p := h
theorem qV119 {p : Prop} (h : p := by first | with_reducible assumption | (simp (disch := (first | omega | (exact Lst.lab_ne (by with_reducible assumption) qV13) | (exact Lst.lab_new (by with_reducible assumption) qV13) | (refine id ?_; simp only [za, zb, zc, zd]; done) | (simp only [za, zb, zc, zd]; omega))) only [z1, z2, z3, z4, z5, z6, z7, z8, z9, ne_eq, *]; done) | (simp (disch := (first | omega | (exact Lst.lab_ne (by with_reducible assumption) qV13) | (exact Lst.lab_new (by with_reducible assumption) qV13) | (refine id ?_; simp only [za, zb, zc, zd]; done) | (simp only [za, zb, zc, zd]; omega))) only [z1, z2, z3, z4, z5, z6, z7, z8, z9, ne_eq, *]; exact rfl)) : p := h
theorem qV120 {p : Prop} (h : p := by first | exact AStepD.len_str tok rfl rfl rfl rfl | exact AStepD.len_sl tok rfl qV11 qV15 rfl rfl | exact AStepD.len_arr tok rfl rfl rfl) : p := h
theorem qV121 {p : Prop} (h : p := by exact AStepD.move' rfl qV11) : p := h
theorem qV122 {p : Prop} (h : p := by first | exact AStepD.pick_true' rfl rfl qV11 | exact AStepD.pick_false' rfl rfl qV11 | exact AStepD.and rfl _ _ _ rfl rfl qV17 rfl | exact AStepD.and' rfl _ _ rfl rfl rfl | exact AStepD.or rfl _ _ _ rfl rfl rfl qV17 | exact AStepD.or' rfl _ _ rfl rfl rfl) : p := h
theorem qV123 {p : Prop} (h : p := by exact (fun hb => by (try (apply AStepD.uncond 25 rfl (gpf hb))); exact qV112)) : p := h
theorem qV124 {p : Prop} (h : p := by exact (fun _ hb => by (try (apply AStepD.uncond 25 rfl (gpf hb))); exact qV112)) : p := h
theorem qV125 {p : Prop} (h : p := by repeat' (first | exact SubT.nil _ | refine SubT.cons_eq qV114 ?_)) : p := h
theorem qV126 {p : Prop} (h : p := by exact AStepD.index_str tok rfl rfl rfl rfl rfl qV115 qV116) : p := h
theorem qV127 {p : Prop} (h : p := by exact (fun hb => by (try (apply AStepD.uncond 86 rfl (gpf hb))); exact qV111)) : p := h
theorem qV128 {p : Prop} (h : p := by exact (fun _ hb => by (try (apply AStepD.uncond 86 rfl (gpf hb))); exact qV111)) : p := h
theorem qV129 {p : Prop} (h : p := by exact (fun hb => by (try (apply AStepD.uncond 90 rfl (gpf hb))); exact qV111)) : p := h
theorem qV130 {p : Prop} (h : p := by exact (fun _ hb => by (try (apply AStepD.uncond 90 rfl (gpf hb))); exact qV111)) : p := h
theorem qV131 {p : Prop} (h : p := by first | exact AStepD.fieldAddr' tok rfl rfl rfl rfl rfl rfl rfl qV118 | exact AStepD.fieldAddr_ip' tok rfl rfl rfl rfl rfl rfl rfl (show List.drop 5 _ = _ from rfl)) : p := h
theorem qV132 {p : Prop} (h : p := by first | exact AStepD.load_one tok rfl rfl rfl rfl qV119 rfl qV14 | exact AStepD.load_one_ip tok rfl rfl rfl rfl rfl qV14) : p := h
theorem qV133 {p : Prop} (h : p := by exact (fun hb => by (try (apply AStepD.uncond 5 rfl (gpf hb))); exact qV121)) : p := h
theorem qV134 {p : Prop} (h : p := by exact (fun _ hb => by (try (apply AStepD.uncond 5 rfl (gpf hb))); exact qV121)) : p := h
theorem qV135 {p : Prop} (h : p := by exact (fun hb => by (try (apply AStepD.uncond 7 rfl (gpf hb))); exact qV121)) : p := h
theorem qV136 {p : Prop} (h : p := by exact (fun _ hb => by (try (apply AStepD.uncond 7 rfl (gpf hb))); exact qV121)) : p := h
theorem qV137 {p : Prop} (h : p := by exact (fun hb => by (try (apply AStepD.uncond 1 rfl (gpf hb))); exact qV121)) : p := h
theorem qV138 {p : Prop} (h : p := by exact (fun _ hb => by (try (apply AStepD.uncond 1 rfl (gpf hb))); exact qV121)) : p := h
theorem qV139 {p : Prop} (h : p := by exact (fun hb => by (try (apply AStepD.uncond 9 rfl (gpf hb))); exact qV121)) : p := h
theorem qV140 {p : Prop} (h : p := by exact (fun _ hb => by (try (apply AStepD.uncond 9 rfl (gpf hb))); exact qV121)) : p := h
set_option linter.unusedSimpArgs false
set_option linter.unusedVariables false
open Cel (c)

/-- The error of a state's text. -/
theorem unlike_law (H : AHeap) (a b : Stt) (oa : a.Ok) (ob : b.Ok) : ACalls Tryz.prog 6 [stA a, stA b] H (fun r _ => r = .v (.bool true)) := by
  have hca := oa.fc (vecA a.known)
  have hcb := ob.fc (vecA b.known)
  refine ACalls.of_body tok Tryz.func6 rfl Tryz.ntmps6 (Nat.le_of_ble_eq_true rfl) (fun base => ?_)
  refine AW.seq_region (fun K hK => ?_)
  refine AL.step rfl rfl rfl (by exact AStepD.box (cs := a.cs (vecA a.known)) rfl rfl (a.cs_one rfl)) ?_
  refine AL.step rfl rfl rfl (by exact AStepD.box (cs := b.cs (vecA b.known)) rfl rfl (b.cs_one rfl)) ?_
  refine AL.step rfl rfl rfl qV117 ?_
  refine AL.nil_then (hK _ _ ?_); clear hK K
  refine AW.seq_k (fun K1 hK1 => ?_)
  refine AW.seq_region (fun K hK => ?_)
  refine AL.step rfl rfl rfl (by exact AStepD.callf rfl en9 rfl (anchor_calls _)) ?_
  refine AL.step rfl rfl rfl (by first | exact AStepD.not rfl rfl | exact AStepD.neg rfl rfl (by first | exact IntWalk.i64_in _ (by omega) | exact IntWalk.i64_in _ (by simp only [Bool.or_eq_true, Bool.and_eq_true, Bool.or_eq_false_iff, Bool.and_eq_false_iff, Bool.not_eq_true', Bool.not_eq_false', decide_eq_true_eq, decide_eq_false_iff_not, Int.not_lt, Int.not_le, beq_iff_eq] at *; omega) | exact rfl)) ?_
  refine AL.nil_then (hK _ _ ?_); clear hK K
  refine AW.cond_false rfl rfl (AW.skip ?_)
  refine hK1 _ _ ?_; try clear hK1 K1
  refine AW.seq_k (fun K2 hK2 => ?_)
  refine AW.seq_region (fun K hK => ?_)
  refine AL.step rfl rfl rfl qV131 ?_
  refine AL.step rfl rfl rfl qV132 ?_
  refine AL.step rfl rfl rfl qV120 ?_
  refine AL.step rfl rfl rfl qV16 ?_
  refine AL.step rfl rfl rfl qV121 ?_
  first | refine AL.gstep rfl rfl rfl rfl rfl rfl rfl qV131 ?_ | refine AL.gskip rfl rfl rfl rfl rfl rfl rfl ?_ | refine AL.gnone rfl rfl rfl rfl rfl ?_ | refine AL.gmay rfl rfl rfl rfl rfl rfl (fun hb => by (try (apply AStepD.uncond 3 rfl (gpf hb))); exact qV131) ?_ | refine AL.gmay2 rfl rfl rfl rfl rfl rfl (fun _ hb => by (try (apply AStepD.uncond 3 rfl (gpf hb))); exact qV131) ?_
  first | refine AL.gstep rfl rfl rfl rfl rfl rfl rfl qV132 ?_ | refine AL.gskip rfl rfl rfl rfl rfl rfl rfl ?_ | refine AL.gnone rfl rfl rfl rfl rfl ?_ | refine AL.gmay rfl rfl rfl rfl rfl rfl (fun hb => by (try (apply AStepD.uncond 16 rfl (gpf hb))); exact qV132) ?_ | refine AL.gmay2 rfl rfl rfl rfl rfl rfl (fun _ hb => by (try (apply AStepD.uncond 16 rfl (gpf hb))); exact qV132) ?_
  first | refine AL.gstep rfl rfl rfl rfl rfl rfl rfl qV120 ?_ | refine AL.gskip rfl rfl rfl rfl rfl rfl rfl ?_ | refine AL.gnone rfl rfl rfl rfl rfl ?_ | refine AL.gmay rfl rfl rfl rfl rfl rfl (fun hb => by (try (apply AStepD.uncond 17 rfl (gpf hb))); exact qV120) ?_ | refine AL.gmay2 rfl rfl rfl rfl rfl rfl (fun _ hb => by (try (apply AStepD.uncond 17 rfl (gpf hb))); exact qV120) ?_
  first | refine AL.gstep rfl rfl rfl rfl rfl rfl rfl qV16 ?_ | refine AL.gskip rfl rfl rfl rfl rfl rfl rfl ?_ | refine AL.gnone rfl rfl rfl rfl rfl ?_ | refine AL.gmay rfl rfl rfl rfl rfl rfl (fun hb => by (try (apply AStepD.uncond 18 rfl (gpf hb))); exact qV16) ?_ | refine AL.gmay2 rfl rfl rfl rfl rfl rfl (fun _ hb => by (try (apply AStepD.uncond 18 rfl (gpf hb))); exact qV16) ?_
  refine AL.step rfl rfl rfl qV122 ?_
  refine AL.nil_then (hK _ _ ?_); clear hK K
  refine AW.cond _ rfl (fun hc => ?_) (fun hc => ?_)
  · refine AW.seq_region (fun K hK => ?_)
    refine AL.step rfl rfl rfl qV117 ?_
    refine AL.nil_then (hK _ _ ?_); clear hK K
    exact AW.ret (RetQ.mk (.inr rfl) (retA_tmp rfl qV11 retA_nil) rfl)
  refine AW.skip ?_
  refine hK2 _ _ ?_; try clear hK2 K2
  refine AW.seq_region (fun K hK => ?_)
  refine AL.step rfl rfl rfl (by exact AStepD.load_agg (cs := a.cs (vecA a.known)) (zs := a.cs (vecA a.known)) tok rfl rfl rfl qV119 rfl (show _ = 134 from rfl) (by omega) qV18) ?_
  refine AL.step rfl rfl rfl (by exact AStepD.callf rfl en11 rfl (statetext_calls _ a oa)) ?_
  refine AL.step rfl rfl rfl qV121 ?_
  refine AL.step rfl rfl rfl qV19 ?_
  refine AL.step rfl rfl rfl qV19 ?_
  refine AL.step rfl rfl rfl qV117 ?_
  refine AL.step rfl rfl rfl qV117 ?_
  refine AL.nil_then (hK _ _ ?_); clear hK K
  refine AW.seq_region (fun K hK => ?_)
  refine AL.step rfl rfl rfl (by exact AStepD.load_agg (cs := b.cs (vecA b.known)) (zs := b.cs (vecA b.known)) tok rfl rfl rfl qV119 rfl (show _ = 134 from rfl) (by omega) qV18) ?_
  refine AL.step rfl rfl rfl (by exact AStepD.callf rfl en11 rfl (statetext_calls _ b ob)) ?_
  refine AL.step rfl rfl rfl qV121 ?_
  refine AL.step rfl rfl rfl qV19 ?_
  refine AL.step rfl rfl rfl qV19 ?_
  refine AL.step rfl rfl rfl qV117 ?_
  refine AL.step rfl rfl rfl qV117 ?_
  refine AL.nil_then (hK _ _ ?_); clear hK K
  refine AW.seq_region (fun K hK => ?_)
  refine AL.step rfl rfl rfl qV121 ?_
  refine AL.step rfl rfl rfl qV110 ?_
  refine AL.step rfl rfl rfl qV121 ?_
  first | refine AL.gstep rfl rfl rfl rfl rfl rfl rfl qV121 ?_ | refine AL.gskip rfl rfl rfl rfl rfl rfl rfl ?_ | refine AL.gnone rfl rfl rfl rfl rfl ?_ | refine AL.gmay rfl rfl rfl rfl rfl rfl (fun hb => by (try (apply AStepD.uncond 8 rfl (gpf hb))); exact qV121) ?_ | refine AL.gmay2 rfl rfl rfl rfl rfl rfl (fun _ hb => by (try (apply AStepD.uncond 8 rfl (gpf hb))); exact qV121) ?_
  first | refine AL.gstep rfl rfl rfl rfl rfl rfl rfl qV110 ?_ | refine AL.gskip rfl rfl rfl rfl rfl rfl rfl ?_ | refine AL.gnone rfl rfl rfl rfl rfl ?_ | refine AL.gmay rfl rfl rfl rfl rfl rfl (fun hb => by (try (apply AStepD.uncond 34 rfl (gpf hb))); exact qV110) ?_ | refine AL.gmay2 rfl rfl rfl rfl rfl rfl (fun _ hb => by (try (apply AStepD.uncond 34 rfl (gpf hb))); exact qV110) ?_
  refine AL.step rfl rfl rfl qV122 ?_
  refine AL.step rfl rfl rfl qV121 ?_
  first | refine AL.gstep rfl rfl rfl rfl rfl rfl rfl qV121 ?_ | refine AL.gskip rfl rfl rfl rfl rfl rfl rfl ?_ | refine AL.gnone rfl rfl rfl rfl rfl ?_ | refine AL.gmay rfl rfl rfl rfl rfl rfl qV133 ?_ | refine AL.gmay2 rfl rfl rfl rfl rfl rfl qV134 ?_
  first | refine AL.gstep rfl rfl rfl rfl rfl rfl rfl qV121 ?_ | refine AL.gskip rfl rfl rfl rfl rfl rfl rfl ?_ | refine AL.gnone rfl rfl rfl rfl rfl ?_ | refine AL.gmay rfl rfl rfl rfl rfl rfl qV135 ?_ | refine AL.gmay2 rfl rfl rfl rfl rfl rfl qV136 ?_
  first | refine AL.gstep rfl rfl rfl rfl rfl rfl rfl (by exact AStepD.bool (AStepD.str_eql rfl rfl rfl) (c := decide ((if rightB a then docT a else []) = (if rightB b then docT b else []))) (by rw [str_list, str_list])) ?_ | refine AL.gskip rfl rfl rfl rfl rfl rfl rfl ?_ | refine AL.gnone rfl rfl rfl rfl rfl ?_ | refine AL.gmay rfl rfl rfl rfl rfl rfl (fun hb => by (try (apply AStepD.uncond 38 rfl (gpf hb))); (try (apply AStepD.uncond 39 rfl (gpf hb))); exact (by exact AStepD.bool (AStepD.str_eql rfl rfl rfl) (c := decide ((if rightB a then docT a else []) = (if rightB b then docT b else []))) (by rw [str_list, str_list]))) ?_ | refine AL.gmay2 rfl rfl rfl rfl rfl rfl (fun _ hb => by (try (apply AStepD.uncond 38 rfl (gpf hb))); (try (apply AStepD.uncond 39 rfl (gpf hb))); exact (by exact AStepD.bool (AStepD.str_eql rfl rfl rfl) (c := decide ((if rightB a then docT a else []) = (if rightB b then docT b else []))) (by rw [str_list, str_list]))) ?_
  first | refine AL.gstep rfl rfl rfl rfl rfl rfl rfl (by exact AStepD.load_agg (cs := a.cs (vecA a.known)) (zs := a.cs (vecA a.known)) tok rfl rfl rfl qV119 rfl (show _ = 134 from rfl) (by omega) qV18) ?_ | refine AL.gskip rfl rfl rfl rfl rfl rfl rfl ?_ | refine AL.gnone rfl rfl rfl rfl rfl ?_ | refine AL.gmay rfl rfl rfl rfl rfl rfl (fun hb => by (try (apply AStepD.uncond 2 rfl (gpf hb))); exact (by exact AStepD.load_agg (cs := a.cs (vecA a.known)) (zs := a.cs (vecA a.known)) tok rfl rfl rfl qV119 rfl (show _ = 134 from rfl) (by omega) qV18)) ?_ | refine AL.gmay2 rfl rfl rfl rfl rfl rfl (fun _ hb => by (try (apply AStepD.uncond 2 rfl (gpf hb))); exact (by exact AStepD.load_agg (cs := a.cs (vecA a.known)) (zs := a.cs (vecA a.known)) tok rfl rfl rfl qV119 rfl (show _ = 134 from rfl) (by omega) qV18)) ?_
  first | refine AL.gstep rfl rfl rfl rfl rfl rfl rfl (by exact AStepD.load_agg (cs := b.cs (vecA b.known)) (zs := b.cs (vecA b.known)) tok rfl rfl rfl qV119 rfl (show _ = 134 from rfl) (by omega) qV18) ?_ | refine AL.gskip rfl rfl rfl rfl rfl rfl rfl ?_ | refine AL.gnone rfl rfl rfl rfl rfl ?_ | refine AL.gmay rfl rfl rfl rfl rfl rfl (fun hb => by (try (apply AStepD.uncond 3 rfl (gpf hb))); exact (by exact AStepD.load_agg (cs := b.cs (vecA b.known)) (zs := b.cs (vecA b.known)) tok rfl rfl rfl qV119 rfl (show _ = 134 from rfl) (by omega) qV18)) ?_ | refine AL.gmay2 rfl rfl rfl rfl rfl rfl (fun _ hb => by (try (apply AStepD.uncond 3 rfl (gpf hb))); exact (by exact AStepD.load_agg (cs := b.cs (vecA b.known)) (zs := b.cs (vecA b.known)) tok rfl rfl rfl qV119 rfl (show _ = 134 from rfl) (by omega) qV18)) ?_
  first | refine AL.gstep rfl rfl rfl rfl rfl rfl rfl (by exact AStepD.callf rfl en16 rfl (same_calls _ a b oa ob)) ?_ | refine AL.gskip rfl rfl rfl rfl rfl rfl rfl ?_ | refine AL.gnone rfl rfl rfl rfl rfl ?_ | refine AL.gmay rfl rfl rfl rfl rfl rfl (fun hb => by (try (apply AStepD.uncond 41 rfl (gpf hb))); (try (apply AStepD.uncond 42 rfl (gpf hb))); exact (by exact AStepD.callf rfl en16 rfl (same_calls _ a b oa ob))) ?_ | refine AL.gmay2 rfl rfl rfl rfl rfl rfl (fun _ hb => by (try (apply AStepD.uncond 41 rfl (gpf hb))); (try (apply AStepD.uncond 42 rfl (gpf hb))); exact (by exact AStepD.callf rfl en16 rfl (same_calls _ a b oa ob))) ?_
  first | refine AL.gstep rfl rfl rfl rfl rfl rfl rfl qV111 ?_ | refine AL.gskip rfl rfl rfl rfl rfl rfl rfl ?_ | refine AL.gnone rfl rfl rfl rfl rfl ?_ | refine AL.gmay rfl rfl rfl rfl rfl rfl (fun hb => by (try (apply AStepD.uncond 40 rfl (gpf hb))); (try (apply AStepD.uncond 43 rfl (gpf hb))); exact qV111) ?_ | refine AL.gmay2 rfl rfl rfl rfl rfl rfl (fun _ hb => by (try (apply AStepD.uncond 40 rfl (gpf hb))); (try (apply AStepD.uncond 43 rfl (gpf hb))); exact qV111) ?_
  refine AL.step rfl rfl rfl qV122 ?_
  refine AL.step rfl rfl rfl qV117 ?_
  refine AL.nil_then (hK _ _ ?_); clear hK K
  refine AW.ret (RetQ.mk (.inr rfl) (retA_tmp rfl qV11 retA_nil) ?_)
  refine congrArg (fun b => AV.v (.bool b)) ?_
  cases ra : rightB a with
  | false => rfl
  | true =>
    cases rb : rightB b with
    | false => rfl
    | true =>
      show (false || false || (decide (docT a = docT b) == decide (a = b))) = true
      have : decide (docT a = docT b) = decide (a = b) := decide_eq_decide.2 ⟨doc_inj oa ob ra rb, fun h => by rw [h]⟩
      rw [this]; simp
set_option maxHeartbeats 2000000 in
theorem cuts_law (H : AHeap) (s : Stt) (ok : s.Ok) (n : Int) (hn : n ≤ 9223372036854775807) : ACalls Tryz.prog 5 [stA s, .v (.int .i64 n)] H (fun r _ => r = .v (.bool true)) := by
  have hcs := ok.fc (vecA s.known)
  refine ACalls.of_body tok Tryz.func5 rfl Tryz.ntmps5 (Nat.le_of_ble_eq_true rfl) (fun base => ?_)
  refine AW.seq_region (fun K hK => ?_)
  refine AL.step rfl rfl rfl (by exact AStepD.box (cs := s.cs (vecA s.known)) rfl rfl (s.cs_one rfl)) ?_
  refine AL.step rfl rfl rfl qV117 ?_
  refine AL.nil_then (hK _ _ ?_); clear hK K
  refine AW.seq_k (fun K1 hK1 => ?_)
  refine AW.seq_region (fun K hK => ?_)
  refine AL.step rfl rfl rfl (by exact AStepD.callf rfl en9 rfl (anchor_calls _)) ?_
  refine AL.step rfl rfl rfl (by first | exact AStepD.not rfl rfl | exact AStepD.neg rfl rfl (by first | exact IntWalk.i64_in _ (by omega) | exact IntWalk.i64_in _ (by simp only [Bool.or_eq_true, Bool.and_eq_true, Bool.or_eq_false_iff, Bool.and_eq_false_iff, Bool.not_eq_true', Bool.not_eq_false', decide_eq_true_eq, decide_eq_false_iff_not, Int.not_lt, Int.not_le, beq_iff_eq] at *; omega) | exact rfl)) ?_
  refine AL.nil_then (hK _ _ ?_); clear hK K
  refine AW.cond_false rfl rfl (AW.skip ?_)
  refine hK1 _ _ ?_; try clear hK1 K1
  refine AW.seq_region (fun K hK => ?_)
  refine AL.step rfl rfl rfl (by exact AStepD.load_agg (cs := s.cs (vecA s.known)) (zs := s.cs (vecA s.known)) tok rfl rfl rfl qV119 rfl (show _ = 134 from rfl) (by omega) qV18) ?_
  refine AL.step rfl rfl rfl (by exact AStepD.callf rfl en11 rfl (statetext_calls _ s ok)) ?_
  refine AL.step rfl rfl rfl qV121 ?_
  refine AL.step rfl rfl rfl qV19 ?_
  refine AL.step rfl rfl rfl qV19 ?_
  refine AL.step rfl rfl rfl qV117 ?_
  refine AL.step rfl rfl rfl qV117 ?_
  refine AL.nil_then (hK _ _ ?_); clear hK K
  refine AW.seq_k (fun K2 hK2 => ?_)
  by_cases hno : rightB s = false ∨ n < 0
  · have hb : (decide ((if rightB s then (0 : Int) else 10) ≠ 0) || decide (n < 0)) = true := by
      rcases hno with h | h
      · rw [h]; rfl
      · rw [decide_eq_true h, Bool.or_true]
    refine AW.seq_region (fun K hK => ?_)
    refine AL.step rfl rfl rfl qV121 ?_
    refine AL.step rfl rfl rfl qV110 ?_
    refine AL.step rfl rfl rfl qV121 ?_
    first | refine AL.gstep rfl rfl rfl rfl rfl rfl rfl qV121 ?_ | refine AL.gskip rfl rfl rfl rfl rfl rfl rfl ?_ | refine AL.gnone rfl rfl rfl rfl rfl ?_ | refine AL.gmay rfl rfl rfl rfl rfl rfl qV137 ?_ | refine AL.gmay2 rfl rfl rfl rfl rfl rfl qV138 ?_
    first | refine AL.gstep rfl rfl rfl rfl rfl rfl rfl qV112 ?_ | refine AL.gskip rfl rfl rfl rfl rfl rfl rfl ?_ | refine AL.gnone rfl rfl rfl rfl rfl ?_ | refine AL.gmay rfl rfl rfl rfl rfl rfl qV123 ?_ | refine AL.gmay2 rfl rfl rfl rfl rfl rfl qV124 ?_
    refine AL.step rfl rfl rfl qV122 ?_
    refine AL.step rfl rfl rfl qV121 ?_
    first | refine AL.gstep rfl rfl rfl rfl rfl rfl rfl qV121 ?_ | refine AL.gskip rfl rfl rfl rfl rfl rfl rfl ?_ | refine AL.gnone rfl rfl rfl rfl rfl ?_ | refine AL.gmay rfl rfl rfl rfl rfl rfl qV133 ?_ | refine AL.gmay2 rfl rfl rfl rfl rfl rfl qV134 ?_
    first | refine AL.gstep rfl rfl rfl rfl rfl rfl rfl (by exact strA_len tok rfl rfl rfl rfl) ?_ | refine AL.gskip rfl rfl rfl rfl rfl rfl rfl ?_ | refine AL.gnone rfl rfl rfl rfl rfl ?_ | refine AL.gmay rfl rfl rfl rfl rfl rfl (fun hb => by (try (apply AStepD.uncond 29 rfl (gpf hb))); exact (by exact strA_len tok rfl rfl rfl rfl)) ?_ | refine AL.gmay2 rfl rfl rfl rfl rfl rfl (fun _ hb => by (try (apply AStepD.uncond 29 rfl (gpf hb))); exact (by exact strA_len tok rfl rfl rfl rfl)) ?_
    first | refine AL.gstep rfl rfl rfl rfl rfl rfl rfl qV111 ?_ | refine AL.gskip rfl rfl rfl rfl rfl rfl rfl ?_ | refine AL.gnone rfl rfl rfl rfl rfl ?_ | refine AL.gmay rfl rfl rfl rfl rfl rfl (fun hb => by (try (apply AStepD.uncond 30 rfl (gpf hb))); exact qV111) ?_ | refine AL.gmay2 rfl rfl rfl rfl rfl rfl (fun _ hb => by (try (apply AStepD.uncond 30 rfl (gpf hb))); exact qV111) ?_
    refine AL.step rfl rfl rfl qV122 ?_
    refine AL.nil_then (hK _ _ ?_); clear hK K
    refine AW.cond_true rfl (by rw [hb, Bool.true_or]) ?_
    refine AW.seq_region (fun K hK => ?_)
    refine AL.step rfl rfl rfl qV121 ?_
    refine AL.step rfl rfl rfl qV110 ?_
    refine AL.step rfl rfl rfl qV121 ?_
    first | refine AL.gstep rfl rfl rfl rfl rfl rfl rfl qV121 ?_ | refine AL.gskip rfl rfl rfl rfl rfl rfl rfl ?_ | refine AL.gnone rfl rfl rfl rfl rfl ?_ | refine AL.gmay rfl rfl rfl rfl rfl rfl qV137 ?_ | refine AL.gmay2 rfl rfl rfl rfl rfl rfl qV138 ?_
    first | refine AL.gstep rfl rfl rfl rfl rfl rfl rfl qV112 ?_ | refine AL.gskip rfl rfl rfl rfl rfl rfl rfl ?_ | refine AL.gnone rfl rfl rfl rfl rfl ?_ | refine AL.gmay rfl rfl rfl rfl rfl rfl (fun hb => by (try (apply AStepD.uncond 36 rfl (gpf hb))); exact qV112) ?_ | refine AL.gmay2 rfl rfl rfl rfl rfl rfl (fun _ hb => by (try (apply AStepD.uncond 36 rfl (gpf hb))); exact qV112) ?_
    refine AL.step rfl rfl rfl qV122 ?_
    refine AL.step rfl rfl rfl qV117 ?_
    refine AL.nil_then (hK _ _ ?_); clear hK K
    refine AW.ret (RetQ.mk (.inr rfl) (retA_tmp rfl qV11 retA_nil) ?_)
    exact congrArg (fun b => AV.v (.bool b)) hb
  have hr : rightB s = true := by
    cases h : rightB s with
    | true => rfl
    | false => exact absurd (.inl h) hno
  have h0 : 0 ≤ n := by
    rcases Int.lt_or_le n 0 with h | h
    · exact absurd (.inr h) hno
    · exact h
  clear hno
  obtain ⟨m, rfl⟩ := Int.eq_ofNat_of_zero_le h0
  rw [hr, if_pos rfl, if_pos rfl]
  have hdl := doc_len hr
  have hdh := doc_hdr s
  have htw := twice_first hr
  have hcf := cut_first s
  have hlf := jL_lf (lineH_lf (right_rt hr))
  obtain ⟨t, ht⟩ : ∃ t, t = docT s := ⟨_, rfl⟩
  obtain ⟨a, ha⟩ : ∃ a, a = hdrT s := ⟨_, rfl⟩
  obtain ⟨r, hrr⟩ : ∃ r, r = docL (restL s) := ⟨_, rfl⟩
  rw [show jL (lineH s) = hdrT s from rfl, ← ha] at hlf
  rw [← ht, ← ha, ← hrr] at hdh
  rw [← ht, ← ha] at htw
  rw [← hrr] at hcf
  rw [← ht] at hdl ⊢
  have hlen : t.length = a.length + (r.length + 1) := by rw [hdh, List.length_append, List.length_cons]
  have h8 : ∀ i, i < a.length → at8 t i ≠ 10 := fun i hi => by
    rw [at8, hdh, List.getD_eq_getElem?_getD, List.getElem?_append_left hi, List.getElem?_eq_getElem hi, Option.getD_some]
    intro e
    exact hlf ((UInt8.toNat_inj.1 (e.trans (by decide : (10 : Nat) = (10 : UInt8).toNat))) ▸ List.getElem_mem hi)
  have h8a : at8 t a.length = 10 := by
    rw [at8, hdh, List.getD_eq_getElem?_getD, List.getElem?_append_right (Nat.le_refl _), Nat.sub_self]; rfl
  refine AW.seq_region (fun K hK => ?_)
  refine AL.step rfl rfl rfl qV121 ?_
  refine AL.step rfl rfl rfl qV110 ?_
  refine AL.step rfl rfl rfl qV121 ?_
  first | refine AL.gstep rfl rfl rfl rfl rfl rfl rfl qV121 ?_ | refine AL.gskip rfl rfl rfl rfl rfl rfl rfl ?_ | refine AL.gnone rfl rfl rfl rfl rfl ?_ | refine AL.gmay rfl rfl rfl rfl rfl rfl qV137 ?_ | refine AL.gmay2 rfl rfl rfl rfl rfl rfl qV138 ?_
  first | refine AL.gstep rfl rfl rfl rfl rfl rfl rfl qV112 ?_ | refine AL.gskip rfl rfl rfl rfl rfl rfl rfl ?_ | refine AL.gnone rfl rfl rfl rfl rfl ?_ | refine AL.gmay rfl rfl rfl rfl rfl rfl qV123 ?_ | refine AL.gmay2 rfl rfl rfl rfl rfl rfl qV124 ?_
  refine AL.step rfl rfl rfl qV122 ?_
  refine AL.step rfl rfl rfl qV121 ?_
  first | refine AL.gstep rfl rfl rfl rfl rfl rfl rfl qV121 ?_ | refine AL.gskip rfl rfl rfl rfl rfl rfl rfl ?_ | refine AL.gnone rfl rfl rfl rfl rfl ?_ | refine AL.gmay rfl rfl rfl rfl rfl rfl qV133 ?_ | refine AL.gmay2 rfl rfl rfl rfl rfl rfl qV134 ?_
  first | refine AL.gstep rfl rfl rfl rfl rfl rfl rfl (by exact strA_len tok rfl rfl rfl rfl) ?_ | refine AL.gskip rfl rfl rfl rfl rfl rfl rfl ?_ | refine AL.gnone rfl rfl rfl rfl rfl ?_ | refine AL.gmay rfl rfl rfl rfl rfl rfl (fun hb => by (try (apply AStepD.uncond 29 rfl (gpf hb))); exact (by exact strA_len tok rfl rfl rfl rfl)) ?_ | refine AL.gmay2 rfl rfl rfl rfl rfl rfl (fun _ hb => by (try (apply AStepD.uncond 29 rfl (gpf hb))); exact (by exact strA_len tok rfl rfl rfl rfl)) ?_
  first | refine AL.gstep rfl rfl rfl rfl rfl rfl rfl (by exact AStepD.bool (AStepD.eql rfl rfl rfl) (c := false) (decide_eq_false (by omega))) ?_ | refine AL.gskip rfl rfl rfl rfl rfl rfl rfl ?_ | refine AL.gnone rfl rfl rfl rfl rfl ?_ | refine AL.gmay rfl rfl rfl rfl rfl rfl (fun hb => by (try (apply AStepD.uncond 30 rfl (gpf hb))); exact (by exact AStepD.bool (AStepD.eql rfl rfl rfl) (c := false) (decide_eq_false (by omega)))) ?_ | refine AL.gmay2 rfl rfl rfl rfl rfl rfl (fun _ hb => by (try (apply AStepD.uncond 30 rfl (gpf hb))); exact (by exact AStepD.bool (AStepD.eql rfl rfl rfl) (c := false) (decide_eq_false (by omega)))) ?_
  refine AL.step rfl rfl rfl qV122 ?_
  refine AL.nil_then (hK _ _ ?_); clear hK K
  refine AW.cond_false rfl rfl (AW.skip ?_)
  refine hK2 _ _ ?_; try clear hK2 K2
  have hmod := Nat.mod_lt m (show 0 < t.length by omega)
  refine AW.seq_region (fun K hK => ?_)
  refine AL.step rfl rfl rfl qV121 ?_
  refine AL.step rfl rfl rfl qV121 ?_
  refine AL.step rfl rfl rfl (by exact strA_len tok rfl rfl rfl rfl) ?_
  refine AL.step rfl rfl rfl (by exact AStepD.rem (r := ((m % t.length : Nat) : Int)) rfl rfl rfl (by omega) (Int.ofNat_tmod m t.length).symm) ?_
  refine AL.step rfl rfl rfl qV117 ?_
  refine AL.nil_then (hK _ _ ?_); clear hK K
  generalize m % t.length = k at hmod
  have hk8 : parseP (t.take k) = none ∨ (0 < k ∧ at8 t (k - 1) = 10) := by
    rcases Nat.eq_zero_or_pos k with h | h
    · left
      subst h
      exact cut_line fun x hx => by have := congrArg List.length hx; simp at this
    · by_cases h10 : at8 t (k - 1) = 10
      · exact .inr ⟨h, h10⟩
      · refine .inl (cut_line fun x hx => h10 ?_)
        have h1 := congrArg List.length hx
        rw [List.length_take, List.length_append, List.length_singleton] at h1
        have h2 := congrArg (fun l => l[k - 1]?) hx
        simp only [List.getElem?_take] at h2
        rw [if_pos (by omega), List.getElem?_append_right (by omega), show k - 1 - x.length = 0 by omega] at h2
        rw [at8, List.getD_eq_getElem?_getD, h2]; rfl
  have hp1 : (t.take k).length ≤ 900000 := by rw [List.length_take]; omega
  have ok1 := getD_ok (t.take k)
  refine AW.seq_region (fun K hK => ?_)
  refine AL.step rfl rfl rfl qV121 ?_
  refine AL.step rfl rfl rfl qV121 ?_
  refine AL.step rfl rfl rfl (by exact strA_to (n := k) tok rfl rfl rfl rfl rfl (by omega)) ?_
  refine AL.step rfl rfl rfl (by exact AStepD.callf rfl en14 rfl (parseS_calls _ (t.take k) hp1)) ?_
  refine AL.step rfl rfl rfl qV121 ?_
  refine AL.step rfl rfl rfl qV19 ?_
  refine AL.step rfl rfl rfl qV19 ?_
  refine AL.step rfl rfl rfl qV113 ?_
  refine AL.step0 rfl rfl (by exact AStepD.store' (k := 134) (cs := zS.cs (.v (.slice none 0 0))) (ys := ((parseP (t.take k)).getD zS).cs (vecA ((parseP (t.take k)).getD zS).known)) (zs := ((parseP (t.take k)).getD zS).cs (vecA ((parseP (t.take k)).getD zS).known)) tok rfl rfl (by rw [← zS_zero]; exact AHeap.get_new_same _ _) rfl rfl (Stt.cs_one _ rfl) rfl (ok1.fc _) rfl (by rw [zS_ok.fc]; omega) (over_all (by rw [zS_ok.fc, ok1.fc]; rfl))) ?_
  refine AL.step rfl rfl rfl qV117 ?_
  refine AL.nil_then (hK _ _ ?_); clear hK K
  refine AW.seq_region (fun K hK => ?_)
  refine AL.step rfl rfl rfl qV117 ?_
  refine AL.nil_then (hK _ _ ?_); clear hK K
  refine AW.seq_k (fun K3 hK3 => ?_)
  refine AW.block ?_
  refine AW.loop_at (ι := Nat) (fun i => [(10, .v (.int .i64 (i : Nat))), (9, .v (.int .i64 (if (parseP (t.take k)).isSome then 0 else 60))), (7, .v (.int .i64 (k : Nat))), (5, strA t)])
    (fun i H' => i ≤ a.length) (fun i => a.length - i) 0 qV125 (Nat.zero_le _) ?_
  intro i H2 hi
  refine AW.seq_k (fun K4 hK4 => ?_)
  refine AW.seq_region (fun K hK => ?_)
  refine AL.step rfl rfl rfl qV121 ?_
  refine AL.step rfl rfl rfl qV121 ?_
  refine AL.step rfl rfl rfl (by exact strA_index tok rfl rfl rfl rfl rfl rfl (by omega)) ?_
  refine AL.step rfl rfl rfl qV110 ?_
  refine AL.nil_then (hK _ _ ?_); clear hK K
  by_cases hia : i < a.length
  · have h9 := h8 i hia
    refine AW.cond_true rfl (decide_eq_true (by omega)) (AW.skip ?_)
    refine hK4 _ _ ?_; try clear hK4 K4
    refine AW.block ?_
    refine AW.region ?_
    refine AL.step rfl rfl rfl qV121 ?_
    refine AL.step rfl rfl rfl (by first | exact AStepD.add rfl rfl rfl (by first | exact IntWalk.i64_in _ (by omega) | exact IntWalk.i64_in _ (by simp only [Bool.or_eq_true, Bool.and_eq_true, Bool.or_eq_false_iff, Bool.and_eq_false_iff, Bool.not_eq_true', Bool.not_eq_false', decide_eq_true_eq, decide_eq_false_iff_not, Int.not_lt, Int.not_le, beq_iff_eq] at *; omega) | exact rfl) | exact AStepD.str_add rfl rfl rfl (by omega)) ?_
    refine AL.step rfl rfl rfl qV117 ?_
    refine AL.nil ?_
    exact ⟨i + 1, by omega, qV125, hia⟩
  obtain rfl : i = a.length := by omega
  refine AW.cond_false rfl (decide_eq_false (by rw [h8a]; decide)) ?_
  refine AW.exit ?_
  refine hK3 _ _ ?_; try clear hK3 K3 hK4 K4
  have hdr : t.drop (a.length + 1) = r := by rw [hdh, List.drop_length_add_append]; rfl
  have htk : t.take (a.length + 1) = a ++ [10] := by rw [hdh, List.take_length_add_append]; rfl
  have hj : a ++ [10] ++ t = a ++ 10 :: t := by rw [List.append_assoc]; rfl
  refine AW.seq_region (fun K hK => ?_)
  refine AL.step rfl rfl rfl qV121 ?_
  refine AL.step rfl rfl rfl qV121 ?_
  refine AL.step rfl rfl rfl (by exact AStepD.add (r := ((a.length + 1 : Nat) : Int)) rfl rfl rfl (IntWalk.i64_in _ (by omega))) ?_
  refine AL.step rfl rfl rfl (by exact AStepD.val (strA_from (n := a.length + 1) tok rfl rfl rfl rfl rfl (by omega)) (y := strA r) (by rw [hdr])) ?_
  refine AL.step rfl rfl rfl (by exact AStepD.val (AStepD.callf rfl en14 rfl (parseS_calls _ r (by omega))) (y := .tup [stA zS, .v (.int .i64 60)]) (by rw [hcf]; rfl)) ?_
  refine AL.step rfl rfl rfl qV121 ?_
  refine AL.step rfl rfl rfl qV19 ?_
  refine AL.step rfl rfl rfl qV19 ?_
  refine AL.step rfl rfl rfl qV113 ?_
  refine AL.step0 rfl rfl (by exact AStepD.store' (k := 134) (cs := zS.cs (.v (.slice none 0 0))) (ys := zS.cs (vecA zS.known)) (zs := zS.cs (vecA zS.known)) tok rfl rfl (by rw [← zS_zero]; exact AHeap.get_new_same _ _) rfl rfl (Stt.cs_one _ rfl) rfl (zS_ok.fc _) rfl (by rw [zS_ok.fc]; omega) (over_all (by rw [zS_ok.fc, zS_ok.fc]; rfl))) ?_
  refine AL.step rfl rfl rfl qV117 ?_
  refine AL.nil_then (hK _ _ ?_); clear hK K
  refine AW.seq_region (fun K hK => ?_)
  refine AL.step rfl rfl rfl qV121 ?_
  refine AL.step rfl rfl rfl qV121 ?_
  refine AL.step rfl rfl rfl (by exact AStepD.add (r := ((a.length + 1 : Nat) : Int)) rfl rfl rfl (IntWalk.i64_in _ (by omega))) ?_
  refine AL.step rfl rfl rfl (by exact AStepD.val (strA_to (n := a.length + 1) tok rfl rfl rfl rfl rfl (by omega)) (y := strA (a ++ [10])) (by rw [htk])) ?_
  refine AL.step rfl rfl rfl qV121 ?_
  refine AL.step rfl rfl rfl (by exact AStepD.val (strA_add (a ++ [10]) t rfl rfl rfl (by rw [List.length_append, List.length_singleton]; omega)) (y := strA (a ++ 10 :: t)) (by rw [hj])) ?_
  refine AL.step rfl rfl rfl (by exact AStepD.val (AStepD.callf rfl en14 rfl (parseS_calls _ (a ++ 10 :: t) (by rw [List.length_append, List.length_cons]; omega))) (y := .tup [stA zS, .v (.int .i64 60)]) (by rw [htw]; rfl)) ?_
  refine AL.step rfl rfl rfl qV121 ?_
  refine AL.step rfl rfl rfl qV19 ?_
  refine AL.step rfl rfl rfl qV19 ?_
  refine AL.step rfl rfl rfl qV113 ?_
  refine AL.step0 rfl rfl (by exact AStepD.store' (k := 134) (cs := zS.cs (.v (.slice none 0 0))) (ys := zS.cs (vecA zS.known)) (zs := zS.cs (vecA zS.known)) tok rfl rfl (by rw [← zS_zero]; exact AHeap.get_new_same _ _) rfl rfl (Stt.cs_one _ rfl) rfl (zS_ok.fc _) rfl (by rw [zS_ok.fc]; omega) (over_all (by rw [zS_ok.fc, zS_ok.fc]; rfl))) ?_
  refine AL.step rfl rfl rfl qV117 ?_
  refine AL.nil_then (hK _ _ ?_); clear hK K
  refine AW.seq_k (fun K5 hK5 => ?_)
  refine AW.seq_region (fun K hK => ?_)
  refine AL.step rfl rfl rfl qV121 ?_
  refine AL.step rfl rfl rfl qV110 ?_
  refine AL.step rfl rfl rfl qV121 ?_
  first | refine AL.gstep rfl rfl rfl rfl rfl rfl rfl qV121 ?_ | refine AL.gskip rfl rfl rfl rfl rfl rfl rfl ?_ | refine AL.gnone rfl rfl rfl rfl rfl ?_ | refine AL.gmay rfl rfl rfl rfl rfl rfl (fun hb => by (try (apply AStepD.uncond 14 rfl (gpf hb))); exact qV121) ?_ | refine AL.gmay2 rfl rfl rfl rfl rfl rfl (fun _ hb => by (try (apply AStepD.uncond 14 rfl (gpf hb))); exact qV121) ?_
  first | refine AL.gstep rfl rfl rfl rfl rfl rfl rfl qV110 ?_ | refine AL.gskip rfl rfl rfl rfl rfl rfl rfl ?_ | refine AL.gnone rfl rfl rfl rfl rfl ?_ | refine AL.gmay rfl rfl rfl rfl rfl rfl (fun hb => by (try (apply AStepD.uncond 77 rfl (gpf hb))); exact qV110) ?_ | refine AL.gmay2 rfl rfl rfl rfl rfl rfl (fun _ hb => by (try (apply AStepD.uncond 77 rfl (gpf hb))); exact qV110) ?_
  refine AL.step rfl rfl rfl qV122 ?_
  refine AL.nil_then (hK _ _ ?_); clear hK K
  refine AW.cond_false rfl rfl (AW.skip ?_)
  refine hK5 _ _ ?_; try clear hK5 K5
  rcases hk8 with hk8 | ⟨hk1, hk2⟩
  · rcases Nat.eq_zero_or_pos k with h | h
    · subst h
      rw [hk8]
      refine AW.seq_region (fun K hK => ?_)
      refine AL.step rfl rfl rfl qV121 ?_
      refine AL.step rfl rfl rfl (by exact AStepD.bool (AStepD.gtr rfl rfl rfl) (c := false) (decide_eq_false (by omega))) ?_
      refine AL.step rfl rfl rfl qV121 ?_
      first | refine AL.gstep rfl rfl rfl rfl rfl rfl rfl qV121 ?_ | refine AL.gskip rfl rfl rfl rfl rfl rfl rfl ?_ | refine AL.gnone rfl rfl rfl rfl rfl ?_ | refine AL.gmay rfl rfl rfl rfl rfl rfl qV133 ?_ | refine AL.gmay2 rfl rfl rfl rfl rfl rfl qV134 ?_
      first | refine AL.gstep rfl rfl rfl rfl rfl rfl rfl qV121 ?_ | refine AL.gskip rfl rfl rfl rfl rfl rfl rfl ?_ | refine AL.gnone rfl rfl rfl rfl rfl ?_ | refine AL.gmay rfl rfl rfl rfl rfl rfl qV135 ?_ | refine AL.gmay2 rfl rfl rfl rfl rfl rfl qV136 ?_
      first | refine AL.gstep rfl rfl rfl rfl rfl rfl rfl (by exact AStepD.sub rfl rfl rfl (by first | exact IntWalk.i64_in _ (by omega) | exact IntWalk.i64_in _ (by simp only [Bool.or_eq_true, Bool.and_eq_true, Bool.or_eq_false_iff, Bool.and_eq_false_iff, Bool.not_eq_true', Bool.not_eq_false', decide_eq_true_eq, decide_eq_false_iff_not, Int.not_lt, Int.not_le, beq_iff_eq] at *; omega) | exact rfl)) ?_ | refine AL.gskip rfl rfl rfl rfl rfl rfl rfl ?_ | refine AL.gnone rfl rfl rfl rfl rfl ?_ | refine AL.gmay rfl rfl rfl rfl rfl rfl (fun hb => by (try (apply AStepD.uncond 84 rfl (gpf hb))); exact (by exact AStepD.sub rfl rfl rfl (by first | exact IntWalk.i64_in _ (by omega) | exact IntWalk.i64_in _ (by simp only [Bool.or_eq_true, Bool.and_eq_true, Bool.or_eq_false_iff, Bool.and_eq_false_iff, Bool.not_eq_true', Bool.not_eq_false', decide_eq_true_eq, decide_eq_false_iff_not, Int.not_lt, Int.not_le, beq_iff_eq] at *; omega) | exact rfl))) ?_ | refine AL.gmay2 rfl rfl rfl rfl rfl rfl (fun _ hb => by (try (apply AStepD.uncond 84 rfl (gpf hb))); exact (by exact AStepD.sub rfl rfl rfl (by first | exact IntWalk.i64_in _ (by omega) | exact IntWalk.i64_in _ (by simp only [Bool.or_eq_true, Bool.and_eq_true, Bool.or_eq_false_iff, Bool.and_eq_false_iff, Bool.not_eq_true', Bool.not_eq_false', decide_eq_true_eq, decide_eq_false_iff_not, Int.not_lt, Int.not_le, beq_iff_eq] at *; omega) | exact rfl))) ?_
      first | refine AL.gstep rfl rfl rfl rfl rfl rfl rfl qV126 ?_ | refine AL.gskip rfl rfl rfl rfl rfl rfl rfl ?_ | refine AL.gnone rfl rfl rfl rfl rfl ?_ | refine AL.gmay rfl rfl rfl rfl rfl rfl (fun hb => by (try (apply AStepD.uncond 83 rfl (gpf hb))); (try (apply AStepD.uncond 85 rfl (gpf hb))); exact qV126) ?_ | refine AL.gmay2 rfl rfl rfl rfl rfl rfl (fun _ hb => by (try (apply AStepD.uncond 83 rfl (gpf hb))); (try (apply AStepD.uncond 85 rfl (gpf hb))); exact qV126) ?_
      first | refine AL.gstep rfl rfl rfl rfl rfl rfl rfl qV111 ?_ | refine AL.gskip rfl rfl rfl rfl rfl rfl rfl ?_ | refine AL.gnone rfl rfl rfl rfl rfl ?_ | refine AL.gmay rfl rfl rfl rfl rfl rfl qV127 ?_ | refine AL.gmay2 rfl rfl rfl rfl rfl rfl qV128 ?_
      refine AL.step rfl rfl rfl qV122 ?_
      refine AL.step rfl rfl rfl qV121 ?_
      first | refine AL.gstep rfl rfl rfl rfl rfl rfl rfl qV121 ?_ | refine AL.gskip rfl rfl rfl rfl rfl rfl rfl ?_ | refine AL.gnone rfl rfl rfl rfl rfl ?_ | refine AL.gmay rfl rfl rfl rfl rfl rfl qV139 ?_ | refine AL.gmay2 rfl rfl rfl rfl rfl rfl qV140 ?_
      first | refine AL.gstep rfl rfl rfl rfl rfl rfl rfl qV111 ?_ | refine AL.gskip rfl rfl rfl rfl rfl rfl rfl ?_ | refine AL.gnone rfl rfl rfl rfl rfl ?_ | refine AL.gmay rfl rfl rfl rfl rfl rfl qV129 ?_ | refine AL.gmay2 rfl rfl rfl rfl rfl rfl qV130 ?_
      refine AL.step rfl rfl rfl qV122 ?_
      refine AL.step rfl rfl rfl qV117 ?_
      refine AL.nil_then (hK _ _ ?_); clear hK K
      exact AW.ret (RetQ.mk (.inr rfl) (retA_tmp rfl qV11 retA_nil) rfl)
    · rw [hk8]
      refine AW.seq_region (fun K hK => ?_)
      refine AL.step rfl rfl rfl qV121 ?_
      refine AL.step rfl rfl rfl (by exact AStepD.bool (AStepD.gtr rfl rfl rfl) (c := true) (decide_eq_true (by omega))) ?_
      refine AL.step rfl rfl rfl qV121 ?_
      first | refine AL.gstep rfl rfl rfl rfl rfl rfl rfl qV121 ?_ | refine AL.gskip rfl rfl rfl rfl rfl rfl rfl ?_ | refine AL.gnone rfl rfl rfl rfl rfl ?_ | refine AL.gmay rfl rfl rfl rfl rfl rfl qV133 ?_ | refine AL.gmay2 rfl rfl rfl rfl rfl rfl qV134 ?_
      first | refine AL.gstep rfl rfl rfl rfl rfl rfl rfl qV121 ?_ | refine AL.gskip rfl rfl rfl rfl rfl rfl rfl ?_ | refine AL.gnone rfl rfl rfl rfl rfl ?_ | refine AL.gmay rfl rfl rfl rfl rfl rfl qV135 ?_ | refine AL.gmay2 rfl rfl rfl rfl rfl rfl qV136 ?_
      first | refine AL.gstep rfl rfl rfl rfl rfl rfl rfl (by exact AStepD.sub (r := ((k - 1 : Nat) : Int)) rfl rfl rfl (by rw [show (k : Int) - 1 = ((k - 1 : Nat) : Int) by omega]; exact IntWalk.i64_in _ (by omega))) ?_ | refine AL.gskip rfl rfl rfl rfl rfl rfl rfl ?_ | refine AL.gnone rfl rfl rfl rfl rfl ?_ | refine AL.gmay rfl rfl rfl rfl rfl rfl (fun hb => by (try (apply AStepD.uncond 84 rfl (gpf hb))); exact (by exact AStepD.sub (r := ((k - 1 : Nat) : Int)) rfl rfl rfl (by rw [show (k : Int) - 1 = ((k - 1 : Nat) : Int) by omega]; exact IntWalk.i64_in _ (by omega)))) ?_ | refine AL.gmay2 rfl rfl rfl rfl rfl rfl (fun _ hb => by (try (apply AStepD.uncond 84 rfl (gpf hb))); exact (by exact AStepD.sub (r := ((k - 1 : Nat) : Int)) rfl rfl rfl (by rw [show (k : Int) - 1 = ((k - 1 : Nat) : Int) by omega]; exact IntWalk.i64_in _ (by omega)))) ?_
      first | refine AL.gstep rfl rfl rfl rfl rfl rfl rfl (by exact strA_index tok rfl rfl rfl rfl rfl rfl (by omega)) ?_ | refine AL.gskip rfl rfl rfl rfl rfl rfl rfl ?_ | refine AL.gnone rfl rfl rfl rfl rfl ?_ | refine AL.gmay rfl rfl rfl rfl rfl rfl (fun hb => by (try (apply AStepD.uncond 83 rfl (gpf hb))); (try (apply AStepD.uncond 85 rfl (gpf hb))); exact (by exact strA_index tok rfl rfl rfl rfl rfl rfl (by omega))) ?_ | refine AL.gmay2 rfl rfl rfl rfl rfl rfl (fun _ hb => by (try (apply AStepD.uncond 83 rfl (gpf hb))); (try (apply AStepD.uncond 85 rfl (gpf hb))); exact (by exact strA_index tok rfl rfl rfl rfl rfl rfl (by omega))) ?_
      first | refine AL.gstep rfl rfl rfl rfl rfl rfl rfl qV111 ?_ | refine AL.gskip rfl rfl rfl rfl rfl rfl rfl ?_ | refine AL.gnone rfl rfl rfl rfl rfl ?_ | refine AL.gmay rfl rfl rfl rfl rfl rfl qV127 ?_ | refine AL.gmay2 rfl rfl rfl rfl rfl rfl qV128 ?_
      refine AL.step rfl rfl rfl qV122 ?_
      refine AL.step rfl rfl rfl qV121 ?_
      first | refine AL.gstep rfl rfl rfl rfl rfl rfl rfl qV121 ?_ | refine AL.gskip rfl rfl rfl rfl rfl rfl rfl ?_ | refine AL.gnone rfl rfl rfl rfl rfl ?_ | refine AL.gmay rfl rfl rfl rfl rfl rfl qV139 ?_ | refine AL.gmay2 rfl rfl rfl rfl rfl rfl qV140 ?_
      first | refine AL.gstep rfl rfl rfl rfl rfl rfl rfl qV111 ?_ | refine AL.gskip rfl rfl rfl rfl rfl rfl rfl ?_ | refine AL.gnone rfl rfl rfl rfl rfl ?_ | refine AL.gmay rfl rfl rfl rfl rfl rfl qV129 ?_ | refine AL.gmay2 rfl rfl rfl rfl rfl rfl qV130 ?_
      refine AL.step rfl rfl rfl qV122 ?_
      refine AL.step rfl rfl rfl qV117 ?_
      refine AL.nil_then (hK _ _ ?_); clear hK K
      refine AW.ret (RetQ.mk (.inr rfl) (retA_tmp rfl qV11 retA_nil) ?_)
      refine congrArg (fun b => AV.v (.bool b)) ?_
      show (_ || true) = true
      rw [Bool.or_true]
  · refine AW.seq_region (fun K hK => ?_)
    refine AL.step rfl rfl rfl qV121 ?_
    refine AL.step rfl rfl rfl (by exact AStepD.bool (AStepD.gtr rfl rfl rfl) (c := true) (decide_eq_true (by omega))) ?_
    refine AL.step rfl rfl rfl qV121 ?_
    first | refine AL.gstep rfl rfl rfl rfl rfl rfl rfl qV121 ?_ | refine AL.gskip rfl rfl rfl rfl rfl rfl rfl ?_ | refine AL.gnone rfl rfl rfl rfl rfl ?_ | refine AL.gmay rfl rfl rfl rfl rfl rfl qV133 ?_ | refine AL.gmay2 rfl rfl rfl rfl rfl rfl qV134 ?_
    first | refine AL.gstep rfl rfl rfl rfl rfl rfl rfl qV121 ?_ | refine AL.gskip rfl rfl rfl rfl rfl rfl rfl ?_ | refine AL.gnone rfl rfl rfl rfl rfl ?_ | refine AL.gmay rfl rfl rfl rfl rfl rfl qV135 ?_ | refine AL.gmay2 rfl rfl rfl rfl rfl rfl qV136 ?_
    first | refine AL.gstep rfl rfl rfl rfl rfl rfl rfl (by exact AStepD.sub (r := ((k - 1 : Nat) : Int)) rfl rfl rfl (by rw [show (k : Int) - 1 = ((k - 1 : Nat) : Int) by omega]; exact IntWalk.i64_in _ (by omega))) ?_ | refine AL.gskip rfl rfl rfl rfl rfl rfl rfl ?_ | refine AL.gnone rfl rfl rfl rfl rfl ?_ | refine AL.gmay rfl rfl rfl rfl rfl rfl (fun hb => by (try (apply AStepD.uncond 84 rfl (gpf hb))); exact (by exact AStepD.sub (r := ((k - 1 : Nat) : Int)) rfl rfl rfl (by rw [show (k : Int) - 1 = ((k - 1 : Nat) : Int) by omega]; exact IntWalk.i64_in _ (by omega)))) ?_ | refine AL.gmay2 rfl rfl rfl rfl rfl rfl (fun _ hb => by (try (apply AStepD.uncond 84 rfl (gpf hb))); exact (by exact AStepD.sub (r := ((k - 1 : Nat) : Int)) rfl rfl rfl (by rw [show (k : Int) - 1 = ((k - 1 : Nat) : Int) by omega]; exact IntWalk.i64_in _ (by omega)))) ?_
    first | refine AL.gstep rfl rfl rfl rfl rfl rfl rfl (by exact strA_index tok rfl rfl rfl rfl rfl rfl (by omega)) ?_ | refine AL.gskip rfl rfl rfl rfl rfl rfl rfl ?_ | refine AL.gnone rfl rfl rfl rfl rfl ?_ | refine AL.gmay rfl rfl rfl rfl rfl rfl (fun hb => by (try (apply AStepD.uncond 83 rfl (gpf hb))); (try (apply AStepD.uncond 85 rfl (gpf hb))); exact (by exact strA_index tok rfl rfl rfl rfl rfl rfl (by omega))) ?_ | refine AL.gmay2 rfl rfl rfl rfl rfl rfl (fun _ hb => by (try (apply AStepD.uncond 83 rfl (gpf hb))); (try (apply AStepD.uncond 85 rfl (gpf hb))); exact (by exact strA_index tok rfl rfl rfl rfl rfl rfl (by omega))) ?_
    first | refine AL.gstep rfl rfl rfl rfl rfl rfl rfl (by exact AStepD.bool (AStepD.eql rfl rfl rfl) (c := true) (decide_eq_true (by rw [hk2]; rfl))) ?_ | refine AL.gskip rfl rfl rfl rfl rfl rfl rfl ?_ | refine AL.gnone rfl rfl rfl rfl rfl ?_ | refine AL.gmay rfl rfl rfl rfl rfl rfl (fun hb => by (try (apply AStepD.uncond 86 rfl (gpf hb))); exact (by exact AStepD.bool (AStepD.eql rfl rfl rfl) (c := true) (decide_eq_true (by rw [hk2]; rfl)))) ?_ | refine AL.gmay2 rfl rfl rfl rfl rfl rfl (fun _ hb => by (try (apply AStepD.uncond 86 rfl (gpf hb))); exact (by exact AStepD.bool (AStepD.eql rfl rfl rfl) (c := true) (decide_eq_true (by rw [hk2]; rfl)))) ?_
    refine AL.step rfl rfl rfl qV122 ?_
    refine AL.step rfl rfl rfl qV121 ?_
    first | refine AL.gstep rfl rfl rfl rfl rfl rfl rfl qV121 ?_ | refine AL.gskip rfl rfl rfl rfl rfl rfl rfl ?_ | refine AL.gnone rfl rfl rfl rfl rfl ?_ | refine AL.gmay rfl rfl rfl rfl rfl rfl qV139 ?_ | refine AL.gmay2 rfl rfl rfl rfl rfl rfl qV140 ?_
    first | refine AL.gstep rfl rfl rfl rfl rfl rfl rfl qV111 ?_ | refine AL.gskip rfl rfl rfl rfl rfl rfl rfl ?_ | refine AL.gnone rfl rfl rfl rfl rfl ?_ | refine AL.gmay rfl rfl rfl rfl rfl rfl qV129 ?_ | refine AL.gmay2 rfl rfl rfl rfl rfl rfl qV130 ?_
    refine AL.step rfl rfl rfl qV122 ?_
    refine AL.step rfl rfl rfl qV117 ?_
    refine AL.nil_then (hK _ _ ?_); clear hK K
    exact AW.ret (RetQ.mk (.inr rfl) (retA_tmp rfl qV11 retA_nil) rfl)
end Go.Proofs.YtbcanlmpfhkklaaGreatDoor
