/- The walks of SortedFunc, Order, Rank, Delay, Fresh. -/
import Derived.Test.YtmjookofajlcoaaF
namespace Go.Proofs.Ytmjookofajlcoaa
open Go.Ax
open Cel (c)
theorem qG1 {p : Prop} (h : p := by exact (fun hb => by (try (apply AStepD.uncond 0 rfl (gpf hb))); exact qA16)) : p := h
theorem qG2 {p : Prop} (h : p := by exact (fun _ hb => by (try (apply AStepD.uncond 0 rfl (gpf hb))); exact qA16)) : p := h
theorem qG3 {p : Prop} (h : p := by exact AStepD.geq rfl rfl rfl) : p := h
theorem qG4 {p : Prop} (h : p := by exact (fun hb => by (try (apply AStepD.uncond 1 rfl (gpf hb))); exact qA16)) : p := h
theorem qG5 {p : Prop} (h : p := by exact (fun _ hb => by (try (apply AStepD.uncond 1 rfl (gpf hb))); exact qA16)) : p := h
theorem qG6 {p : Prop} (h : p := by exact AStepD.leq rfl rfl rfl) : p := h
theorem qG7 {p : Prop} (h : p := by exact AStepD.extract rfl rfl rfl) : p := h
theorem qG8 {p : Prop} (h : p := by first | exact AStepD.neq rfl rfl rfl | exact AStepD.str_neq rfl rfl rfl | exact (AStepD.ptr_nil tok (.inl ⟨_, _, rfl⟩) rfl rfl rfl).2 rfl | exact (AStepD.nil_nil tok rfl rfl rfl rfl).2 rfl | exact (AStepD.bool_eq tok rfl rfl rfl rfl).2 rfl | exact (AStepD.iface_nil tok rfl rfl rfl rfl).2 rfl | exact (AStepD.nilIface_nil tok rfl rfl rfl rfl).2 rfl) : p := h
set_option linter.unusedSimpArgs false
set_option linter.unusedVariables false

theorem sorted_calls (H : AHeap) (l : List Rep) (X : Nat) (hX : H.get X = some (.cells 22 [vecA l])) (hXn : X < H.next) (hlen : l.length ≤ 8000000) :
    ACalls Try.prog 18 [.func (.func 27) [.ptr X 0], .func (.func 20) []] H (fun y H' => Lst 29 H.next H' y (ordR l) ∧ (∀ q, q < H.next → q ≠ X → H'.get q = H.get q) ∧ H.next ≤ H'.next) := by
  refine ACalls.of_body tok Try.func18 rfl Try.ntmps18 (Nat.le_of_ble_eq_true rfl) (fun base => ?_)
  refine AW.seq_region (fun K hK => ?_)
  refine AL.step rfl rfl rfl qA13 ?_
  refine AL.nil_then (hK _ _ ?_); clear hK K
  refine AW.seq_region (fun K hK => ?_)
  refine AL.step rfl rfl rfl qA16 ?_
  refine AL.call rfl rfl rfl (AStep.callf rfl en25 (collect_calls H l 27 _ _ en27 (values_seq H l X hX hXn) hlen)) ?_
  rintro y H1 ⟨hy, hk, hn⟩
  refine AL.step rfl rfl rfl qA13 ?_
  refine AL.nil_then (hK _ _ ?_); clear hK K
  cases hy with
  | nil =>
    refine AW.seq_region (fun K hK => ?_)
    refine AL.step rfl rfl rfl qA16 ?_
    refine AL.step rfl rfl rfl qA16 ?_
    refine AL.step rfl rfl rfl (by exact AStepD.callf rfl en26 rfl (sort_nil _)) ?_
    refine AL.nil_then (hK _ _ ?_); clear hK K
    refine AW.seq_region (fun K hK => ?_)
    refine AL.step rfl rfl rfl qA16 ?_
    refine AL.step rfl rfl rfl qA13 ?_
    refine AL.nil_then (hK _ _ ?_); clear hK K
    refine AW.ret (RetQ.mk (.inr rfl) (retA_tmp rfl qA1 retA_nil) ⟨.nil, hk, hn⟩)
  | @sl D _ hD hN h =>
    refine AW.seq_region (fun K hK => ?_)
    refine AL.step rfl rfl rfl qA16 ?_
    refine AL.step rfl rfl rfl qA16 ?_
    refine AL.step rfl rfl rfl (by exact AStepD.callf rfl en26 rfl (sort_calls _ l D h hlen)) ?_
    refine AL.nil_then (hK _ _ ?_); clear hK K
    refine AW.seq_region (fun K hK => ?_)
    refine AL.step rfl rfl rfl qA16 ?_
    refine AL.step rfl rfl rfl qA13 ?_
    refine AL.nil_then (hK _ _ ?_); clear hK K
    refine AW.ret (RetQ.mk (.inr rfl) (retA_tmp rfl qA1 retA_nil) ⟨Lst.mk hD qA12 qA14 rfl (ord_length l).symm rfl, fun q hq hne => Eq.trans qA19 (hk q hq hne), hn⟩)

def orderS (l : List Rep) : List Rep := if rightB l then ordR l else []
def errS (l : List Rep) : Int := if rightB l then 0 else 10

theorem order_calls (H : AHeap) (l : List Rep) (hlen : l.length ≤ 8000000) : ACalls Try.prog 11 [vecA l] H (fun r H' => r = .tup [vecA (orderS l), .v (.int .i64 (errS l))] ∧ H' = H) := by
  refine ACalls.quiet_keep ?_ (.tup (by simp only [List.forall_mem_cons]; exact ⟨vecA_plain _, .v _, fun _ h => absurd h List.not_mem_nil⟩))
  refine ACalls.of_body tok Try.func11 rfl Try.ntmps11 (Nat.le_of_ble_eq_true rfl) (fun base => ?_)
  refine AW.seq_region (fun K hK => ?_)
  refine AL.step rfl rfl rfl qA13 ?_
  refine AL.step rfl rfl rfl qA13 ?_
  refine AL.nil_then (hK _ _ ?_); clear hK K
  refine AW.seq_k (fun K1 hK1 => ?_)
  refine AW.seq_region (fun K hK => ?_)
  refine AL.step rfl rfl rfl qA16 ?_
  refine AL.step rfl rfl rfl (by exact AStepD.callf rfl en17 rfl (right_calls _ l hlen)) ?_
  refine AL.step rfl rfl rfl (by first | exact AStepD.not rfl rfl | exact AStepD.neg rfl rfl (by first | exact IntWalk.i64_in _ (by omega) | exact IntWalk.i64_in _ (by simp only [Bool.or_eq_true, Bool.and_eq_true, Bool.or_eq_false_iff, Bool.and_eq_false_iff, Bool.not_eq_true', Bool.not_eq_false', decide_eq_true_eq, decide_eq_false_iff_not, Int.not_lt, Int.not_le, beq_iff_eq] at *; omega) | exact rfl)) ?_
  refine AL.nil_then (hK _ _ ?_); clear hK K
  refine AW.cond _ rfl (fun hc => ?_) (fun hc => ?_)
  · (try simp only [Bool.or_eq_true, Bool.and_eq_true, Bool.or_eq_false_iff, Bool.and_eq_false_iff, Bool.not_eq_true', Bool.not_eq_false', decide_eq_true_eq, decide_eq_false_iff_not, Int.not_lt, Int.not_le] at hc)
    have hr : rightB l = false := by simpa using hc
    refine AW.seq_region (fun K hK => ?_)
    refine AL.step rfl rfl rfl qA13 ?_
    refine AL.step rfl rfl rfl qA13 ?_
    refine AL.nil_then (hK _ _ ?_); clear hK K
    refine AW.ret (RetQ.sub (.inr rfl) (y := .tup [vecA ([] : List Rep), .v (.int .i64 10)]) (retA_tmp rfl qA1 (retA_tmp rfl qA1 retA_nil)) ?_ ⟨?_, qE4⟩)
    · exact SubV.tup2 SubV.nil_vecA (SubV.refl _)
    · rw [orderS, errS, hr]; rfl
  · (try simp only [Bool.or_eq_true, Bool.and_eq_true, Bool.or_eq_false_iff, Bool.and_eq_false_iff, Bool.not_eq_true', Bool.not_eq_false', decide_eq_true_eq, decide_eq_false_iff_not, Int.not_lt, Int.not_le] at hc)
    have hr : rightB l = true := by simpa using hc
    refine AW.skip ?_
    refine hK1 _ _ ?_; try clear hK1 K1
    refine AW.lts fun hlt => ?_
    refine AW.seq_region (fun K hK => ?_)
    refine AL.step rfl rfl rfl qA16 ?_
    refine AL.step rfl rfl rfl (by exact AStepD.callf rfl en19 rfl (values_calls _ l)) ?_
    refine AL.call rfl rfl rfl (AStep.callf rfl en18 (sorted_calls _ l H.next (AHeap.get_new_same _ _) (Nat.lt_succ_self _) hlen)) ?_
    rintro y H1 ⟨hy, hk, hn⟩
    refine AL.step rfl rfl rfl qA13 ?_
    refine AL.step rfl rfl rfl qA13 ?_
    refine AL.nil_then (hK _ _ ?_); clear hK K
    refine AW.vecL (s := 2) hy rfl ?_
    simp only [zc] at hk hn
    refine AW.ret (RetQ.mk (.inr rfl) (retA_tmp rfl qA1 (retA_tmp rfl qA1 retA_nil)) ⟨?_, ?_⟩)
    · rw [orderS, errS, hr]; rfl
    · refine ⟨qA12, fun q hq => ?_⟩
      have hq2 : q < (H.new (.cells 22 [vecA l])).next := Nat.lt_succ_of_lt hq
      refine Eq.trans (b := H1.get q) qA19 ((hk q (by omega) (by omega)).trans qA19)

def delayS (a x : Int) : Int := if 0 ≤ a ∧ a < 16 ∧ 0 ≤ x then 500 + x.tmod 500 + 1000 * a else 0
def delayE (a x : Int) : Int := if 0 ≤ a ∧ a < 16 ∧ 0 ≤ x then 0 else 10
theorem delay_calls (H : AHeap) (a x : Int) : ACalls Try.prog 14 [.v (.int .i64 a), .v (.int .i64 x)] H (fun r H' => r = .tup [.v (.int .i64 (delayS a x)), .v (.int .i64 (delayE a x))] ∧ H' = H) := by
  refine ACalls.of_body tok Try.func14 rfl Try.ntmps14 (Nat.le_of_ble_eq_true rfl) (fun base => ?_)
  refine AW.seq_region (fun K hK => ?_)
  refine AL.step rfl rfl rfl qA13 ?_
  refine AL.step rfl rfl rfl qA13 ?_
  refine AL.nil_then (hK _ _ ?_); clear hK K
  refine AW.seq_k (fun K1 hK1 => ?_)
  refine AW.seq_region (fun K hK => ?_)
  refine AL.step rfl rfl rfl qA16 ?_
  refine AL.step rfl rfl rfl qF2 ?_
  refine AL.step rfl rfl rfl qA16 ?_
  first | refine AL.gstep rfl rfl rfl rfl rfl rfl rfl qA16 ?_ | refine AL.gskip rfl rfl rfl rfl rfl rfl rfl ?_ | refine AL.gnone rfl rfl rfl rfl rfl ?_ | refine AL.gmay rfl rfl rfl rfl rfl rfl qG1 ?_ | refine AL.gmay2 rfl rfl rfl rfl rfl rfl qG2 ?_
  first | refine AL.gstep rfl rfl rfl rfl rfl rfl rfl qG3 ?_ | refine AL.gskip rfl rfl rfl rfl rfl rfl rfl ?_ | refine AL.gnone rfl rfl rfl rfl rfl ?_ | refine AL.gmay rfl rfl rfl rfl rfl rfl (fun hb => by (try (apply AStepD.uncond 9 rfl (gpf hb))); exact qG3) ?_ | refine AL.gmay2 rfl rfl rfl rfl rfl rfl (fun _ hb => by (try (apply AStepD.uncond 9 rfl (gpf hb))); exact qG3) ?_
  refine AL.step rfl rfl rfl qF9 ?_
  refine AL.step rfl rfl rfl qA16 ?_
  first | refine AL.gstep rfl rfl rfl rfl rfl rfl rfl qA16 ?_ | refine AL.gskip rfl rfl rfl rfl rfl rfl rfl ?_ | refine AL.gnone rfl rfl rfl rfl rfl ?_ | refine AL.gmay rfl rfl rfl rfl rfl rfl qG4 ?_ | refine AL.gmay2 rfl rfl rfl rfl rfl rfl qG5 ?_
  first | refine AL.gstep rfl rfl rfl rfl rfl rfl rfl qF2 ?_ | refine AL.gskip rfl rfl rfl rfl rfl rfl rfl ?_ | refine AL.gnone rfl rfl rfl rfl rfl ?_ | refine AL.gmay rfl rfl rfl rfl rfl rfl (fun hb => by (try (apply AStepD.uncond 13 rfl (gpf hb))); exact qF2) ?_ | refine AL.gmay2 rfl rfl rfl rfl rfl rfl (fun _ hb => by (try (apply AStepD.uncond 13 rfl (gpf hb))); exact qF2) ?_
  refine AL.step rfl rfl rfl qF9 ?_
  refine AL.nil_then (hK _ _ ?_); clear hK K
  refine AW.cond _ rfl (fun hc => ?_) (fun hc => ?_)
  · (try simp only [Bool.or_eq_true, Bool.and_eq_true, Bool.or_eq_false_iff, Bool.and_eq_false_iff, Bool.not_eq_true', Bool.not_eq_false', decide_eq_true_eq, decide_eq_false_iff_not, Int.not_lt, Int.not_le] at hc)
    have hn : ¬ (0 ≤ a ∧ a < 16 ∧ 0 ≤ x) := by omega
    refine AW.seq_region (fun K hK => ?_)
    refine AL.step rfl rfl rfl qA13 ?_
    refine AL.step rfl rfl rfl qA13 ?_
    refine AL.nil_then (hK _ _ ?_); clear hK K
    refine AW.ret (RetQ.mk (.inr rfl) (retA_tmp rfl qA1 (retA_tmp rfl qA1 retA_nil)) ⟨by rw [delayS, delayE, if_neg hn, if_neg hn]; rfl, rfl⟩)
  · (try simp only [Bool.or_eq_true, Bool.and_eq_true, Bool.or_eq_false_iff, Bool.and_eq_false_iff, Bool.not_eq_true', Bool.not_eq_false', decide_eq_true_eq, decide_eq_false_iff_not, Int.not_lt, Int.not_le] at hc)
    have hn : 0 ≤ a ∧ a < 16 ∧ 0 ≤ x := by omega
    have hm := Int.tmod_lt_of_pos x (show (0 : Int) < 500 by omega)
    have hm2 := Int.tmod_nonneg 500 hn.2.2
    refine AW.skip ?_
    refine hK1 _ _ ?_; try clear hK1 K1
    refine AW.seq_region (fun K hK => ?_)
    refine AL.step rfl rfl rfl qA16 ?_
    refine AL.step rfl rfl rfl (by exact AStepD.rem rfl rfl rfl (by omega) rfl) ?_
    refine AL.step rfl rfl rfl (by first | exact AStepD.add rfl rfl rfl (by first | exact IntWalk.i64_in _ (by omega) | exact IntWalk.i64_in _ (by simp only [Bool.or_eq_true, Bool.and_eq_true, Bool.or_eq_false_iff, Bool.and_eq_false_iff, Bool.not_eq_true', Bool.not_eq_false', decide_eq_true_eq, decide_eq_false_iff_not, Int.not_lt, Int.not_le, beq_iff_eq] at *; omega) | exact rfl) | exact AStepD.str_add rfl rfl rfl (by omega)) ?_
    refine AL.step rfl rfl rfl qA16 ?_
    refine AL.step rfl rfl rfl (by exact AStepD.mul rfl rfl rfl (by first | exact IntWalk.i64_in _ (by omega) | exact IntWalk.i64_in _ (by simp only [Bool.or_eq_true, Bool.and_eq_true, Bool.or_eq_false_iff, Bool.and_eq_false_iff, Bool.not_eq_true', Bool.not_eq_false', decide_eq_true_eq, decide_eq_false_iff_not, Int.not_lt, Int.not_le, beq_iff_eq] at *; omega) | exact rfl)) ?_
    refine AL.step rfl rfl rfl (by first | exact AStepD.add rfl rfl rfl (by first | exact IntWalk.i64_in _ (by omega) | exact IntWalk.i64_in _ (by simp only [Bool.or_eq_true, Bool.and_eq_true, Bool.or_eq_false_iff, Bool.and_eq_false_iff, Bool.not_eq_true', Bool.not_eq_false', decide_eq_true_eq, decide_eq_false_iff_not, Int.not_lt, Int.not_le, beq_iff_eq] at *; omega) | exact rfl) | exact AStepD.str_add rfl rfl rfl (by omega)) ?_
    refine AL.step rfl rfl rfl qA13 ?_
    refine AL.step rfl rfl rfl qA13 ?_
    refine AL.nil_then (hK _ _ ?_); clear hK K
    refine AW.ret (RetQ.mk (.inr rfl) (retA_tmp rfl qA1 (retA_tmp rfl qA1 retA_nil)) ⟨by rw [delayS, delayE, if_pos hn, if_pos hn]; rfl, rfl⟩)

def freshS (a x : Int) : Bool := decide (1 ≤ x) && decide (x ≤ 1073741824) && decide (0 ≤ a) && decide (a ≤ 10 * x)
theorem fresh_calls (H : AHeap) (a x : Int) : ACalls Try.prog 15 [.v (.int .i64 a), .v (.int .i64 x)] H (fun r H' => r = .v (.bool (freshS a x)) ∧ H' = H) := by
  refine ACalls.of_body tok Try.func15 rfl Try.ntmps15 (Nat.le_of_ble_eq_true rfl) (fun base => ?_)
  refine AW.seq_region (fun K hK => ?_)
  refine AL.step rfl rfl rfl qA13 ?_
  refine AL.nil_then (hK _ _ ?_); clear hK K
  refine AW.seq_region (fun K hK => ?_)
  refine AL.step rfl rfl rfl qA16 ?_
  refine AL.step rfl rfl rfl qG3 ?_
  refine AL.step rfl rfl rfl qA16 ?_
  first | refine AL.gstep rfl rfl rfl rfl rfl rfl rfl qA16 ?_ | refine AL.gskip rfl rfl rfl rfl rfl rfl rfl ?_ | refine AL.gnone rfl rfl rfl rfl rfl ?_ | refine AL.gmay rfl rfl rfl rfl rfl rfl qG4 ?_ | refine AL.gmay2 rfl rfl rfl rfl rfl rfl qG5 ?_
  first | refine AL.gstep rfl rfl rfl rfl rfl rfl rfl qG6 ?_ | refine AL.gskip rfl rfl rfl rfl rfl rfl rfl ?_ | refine AL.gnone rfl rfl rfl rfl rfl ?_ | refine AL.gmay rfl rfl rfl rfl rfl rfl (fun hb => by (try (apply AStepD.uncond 8 rfl (gpf hb))); exact qG6) ?_ | refine AL.gmay2 rfl rfl rfl rfl rfl rfl (fun _ hb => by (try (apply AStepD.uncond 8 rfl (gpf hb))); exact qG6) ?_
  refine AL.step rfl rfl rfl qF9 ?_
  refine AL.step rfl rfl rfl qA16 ?_
  first | refine AL.gstep rfl rfl rfl rfl rfl rfl rfl qA16 ?_ | refine AL.gskip rfl rfl rfl rfl rfl rfl rfl ?_ | refine AL.gnone rfl rfl rfl rfl rfl ?_ | refine AL.gmay rfl rfl rfl rfl rfl rfl qG1 ?_ | refine AL.gmay2 rfl rfl rfl rfl rfl rfl qG2 ?_
  first | refine AL.gstep rfl rfl rfl rfl rfl rfl rfl qG3 ?_ | refine AL.gskip rfl rfl rfl rfl rfl rfl rfl ?_ | refine AL.gnone rfl rfl rfl rfl rfl ?_ | refine AL.gmay rfl rfl rfl rfl rfl rfl (fun hb => by (try (apply AStepD.uncond 12 rfl (gpf hb))); exact qG3) ?_ | refine AL.gmay2 rfl rfl rfl rfl rfl rfl (fun _ hb => by (try (apply AStepD.uncond 12 rfl (gpf hb))); exact qG3) ?_
  refine AL.step rfl rfl rfl qF9 ?_
  refine AL.step rfl rfl rfl qA16 ?_
  first | refine AL.gstep rfl rfl rfl rfl rfl rfl rfl qA16 ?_ | refine AL.gskip rfl rfl rfl rfl rfl rfl rfl ?_ | refine AL.gnone rfl rfl rfl rfl rfl ?_ | refine AL.gmay rfl rfl rfl rfl rfl rfl qG1 ?_ | refine AL.gmay2 rfl rfl rfl rfl rfl rfl qG2 ?_
  first | refine AL.gstep rfl rfl rfl rfl rfl rfl rfl qA16 ?_ | refine AL.gskip rfl rfl rfl rfl rfl rfl rfl ?_ | refine AL.gnone rfl rfl rfl rfl rfl ?_ | refine AL.gmay rfl rfl rfl rfl rfl rfl qG4 ?_ | refine AL.gmay2 rfl rfl rfl rfl rfl rfl qG5 ?_
  first | refine AL.gstep rfl rfl rfl rfl rfl rfl rfl (by exact AStepD.mul rfl rfl rfl (by first | exact IntWalk.i64_in _ (by omega) | exact IntWalk.i64_in _ (by simp only [Bool.or_eq_true, Bool.and_eq_true, Bool.or_eq_false_iff, Bool.and_eq_false_iff, Bool.not_eq_true', Bool.not_eq_false', decide_eq_true_eq, decide_eq_false_iff_not, Int.not_lt, Int.not_le, beq_iff_eq] at *; omega) | exact rfl)) ?_ | refine AL.gskip rfl rfl rfl rfl rfl rfl rfl ?_ | refine AL.gnone rfl rfl rfl rfl rfl ?_ | refine AL.gmay rfl rfl rfl rfl rfl rfl (fun hb => by (try (apply AStepD.uncond 17 rfl (gpf hb))); exact (by exact AStepD.mul rfl rfl rfl (by first | exact IntWalk.i64_in _ (by omega) | exact IntWalk.i64_in _ (by simp only [Bool.or_eq_true, Bool.and_eq_true, Bool.or_eq_false_iff, Bool.and_eq_false_iff, Bool.not_eq_true', Bool.not_eq_false', decide_eq_true_eq, decide_eq_false_iff_not, Int.not_lt, Int.not_le, beq_iff_eq] at *; omega) | exact rfl))) ?_ | refine AL.gmay2 rfl rfl rfl rfl rfl rfl (fun _ hb => by (try (apply AStepD.uncond 17 rfl (gpf hb))); exact (by exact AStepD.mul rfl rfl rfl (by first | exact IntWalk.i64_in _ (by omega) | exact IntWalk.i64_in _ (by simp only [Bool.or_eq_true, Bool.and_eq_true, Bool.or_eq_false_iff, Bool.and_eq_false_iff, Bool.not_eq_true', Bool.not_eq_false', decide_eq_true_eq, decide_eq_false_iff_not, Int.not_lt, Int.not_le, beq_iff_eq] at *; omega) | exact rfl))) ?_
  first | refine AL.gstep rfl rfl rfl rfl rfl rfl rfl qG6 ?_ | refine AL.gskip rfl rfl rfl rfl rfl rfl rfl ?_ | refine AL.gnone rfl rfl rfl rfl rfl ?_ | refine AL.gmay rfl rfl rfl rfl rfl rfl (fun hb => by (try (apply AStepD.uncond 16 rfl (gpf hb))); (try (apply AStepD.uncond 18 rfl (gpf hb))); exact qG6) ?_ | refine AL.gmay2 rfl rfl rfl rfl rfl rfl (fun _ hb => by (try (apply AStepD.uncond 16 rfl (gpf hb))); (try (apply AStepD.uncond 18 rfl (gpf hb))); exact qG6) ?_
  refine AL.step rfl rfl rfl qF9 ?_
  refine AL.step rfl rfl rfl qA13 ?_
  refine AL.nil_then (hK _ _ ?_); clear hK K
  refine AW.ret (RetQ.mk (.inr rfl) (retA_tmp rfl qA1 retA_nil) ⟨rfl, rfl⟩)

def rankS (l : List Rep) (w : Int) : Int := if rightB l then (if idxF (fun r => decide (r.id = w)) (ordR l) < 0 then 0 else idxF (fun r => decide (r.id = w)) (ordR l)) else 0
def rankE (l : List Rep) (w : Int) : Int := if rightB l then (if idxF (fun r => decide (r.id = w)) (ordR l) < 0 then 30 else 0) else 10
theorem rank_calls (H : AHeap) (l : List Rep) (w : Int) (hlen : l.length ≤ 8000000) : ACalls Try.prog 16 [vecA l, .v (.int .i64 w)] H (fun r H' => r = .tup [.v (.int .i64 (rankS l w)), .v (.int .i64 (rankE l w))] ∧ H' = H) := by
  refine ACalls.quiet_keep ?_ (.tup (by simp only [List.forall_mem_cons]; exact ⟨.v _, .v _, fun _ h => absurd h List.not_mem_nil⟩))
  refine ACalls.lts fun hlt => ?_
  have hol := ord_length l
  refine ACalls.of_body tok Try.func16 rfl Try.ntmps16 (Nat.le_of_ble_eq_true rfl) (fun base => ?_)
  refine AW.seq_region (fun K hK => ?_)
  refine AL.step rfl rfl rfl qE5 ?_
  refine AL.step rfl rfl rfl qA13 ?_
  refine AL.step rfl rfl rfl qA13 ?_
  refine AL.nil_then (hK _ _ ?_); clear hK K
  refine AW.seq_region (fun K hK => ?_)
  refine AL.step rfl rfl rfl qA16 ?_
  refine AL.step rfl rfl rfl (by exact AStepD.callf rfl en11 rfl (order_calls _ l hlen)) ?_
  refine AL.step rfl rfl rfl qA16 ?_
  refine AL.step rfl rfl rfl qG7 ?_
  refine AL.step rfl rfl rfl qG7 ?_
  refine AL.step rfl rfl rfl qA13 ?_
  refine AL.step rfl rfl rfl qA13 ?_
  refine AL.nil_then (hK _ _ ?_); clear hK K
  refine AW.seq_k (fun K1 hK1 => ?_)
  refine AW.seq_region (fun K hK => ?_)
  refine AL.step rfl rfl rfl qA16 ?_
  refine AL.step rfl rfl rfl qG8 ?_
  refine AL.nil_then (hK _ _ ?_); clear hK K
  refine AW.cond _ rfl (fun hc => ?_) (fun hc => ?_)
  · (try simp only [Bool.or_eq_true, Bool.and_eq_true, Bool.or_eq_false_iff, Bool.and_eq_false_iff, Bool.not_eq_true', Bool.not_eq_false', decide_eq_true_eq, decide_eq_false_iff_not, Int.not_lt, Int.not_le] at hc)
    have hr : rightB l = false := by cases h : rightB l with | false => rfl | true => simp [errS, h] at hc
    refine AW.seq_region (fun K hK => ?_)
    refine AL.step rfl rfl rfl qA16 ?_
    refine AL.step rfl rfl rfl qA13 ?_
    refine AL.step rfl rfl rfl qA13 ?_
    refine AL.nil_then (hK _ _ ?_); clear hK K
    refine AW.ret (RetQ.mk (.inr rfl) (retA_tmp rfl qA1 (retA_tmp rfl qA1 retA_nil)) ⟨by rw [rankS, rankE, errS, hr]; rfl, qE4⟩)
  · (try simp only [Bool.or_eq_true, Bool.and_eq_true, Bool.or_eq_false_iff, Bool.and_eq_false_iff, Bool.not_eq_true', Bool.not_eq_false', decide_eq_true_eq, decide_eq_false_iff_not, Int.not_lt, Int.not_le] at hc)
    have hr : rightB l = true := by cases h : rightB l with | true => rfl | false => simp [errS, h] at hc
    refine AW.skip ?_
    refine hK1 _ _ ?_; try clear hK1 K1
    have ho : orderS l = ordR l := by rw [orderS, hr]; rfl
    refine AW.seq_region (fun K hK => ?_)
    refine AL.step rfl rfl rfl qA16 ?_
    refine AL.step rfl rfl rfl (by first | exact AStepD.val (AStepD.makeFunc rfl) (congrArg (AV.func _) (amap_cons qA1 amap_nil)) | exact AStepD.makeFunc rfl) ?_
    refine AL.step rfl rfl rfl (by exact AStepD.callf rfl en21 rfl (index_calls _ (orderS l) 22 _ (fun r => decide (r.id = w)) en22 (by rw [ho, hol]; exact hlen) fun a _ => isid_calls _ a w _ qA14)) ?_
    refine AL.step rfl rfl rfl qA13 ?_
    refine AL.nil_then (hK _ _ ?_); clear hK K
    rw [ho]
    refine AW.seq_k (fun K2 hK2 => ?_)
    refine AW.seq_region (fun K hK => ?_)
    refine AL.step rfl rfl rfl qA16 ?_
    refine AL.step rfl rfl rfl qF2 ?_
    refine AL.nil_then (hK _ _ ?_); clear hK K
    refine AW.cond _ rfl (fun hc => ?_) (fun hc => ?_)
    · (try simp only [Bool.or_eq_true, Bool.and_eq_true, Bool.or_eq_false_iff, Bool.and_eq_false_iff, Bool.not_eq_true', Bool.not_eq_false', decide_eq_true_eq, decide_eq_false_iff_not, Int.not_lt, Int.not_le] at hc)
      refine AW.seq_region (fun K hK => ?_)
      refine AL.step rfl rfl rfl qA13 ?_
      refine AL.step rfl rfl rfl qA13 ?_
      refine AL.nil_then (hK _ _ ?_); clear hK K
      refine AW.ret (RetQ.mk (.inr rfl) (retA_tmp rfl qA1 (retA_tmp rfl qA1 retA_nil)) ⟨by rw [rankS, rankE, if_pos hr, if_pos hr, if_pos hc, if_pos hc]; rfl, qE4⟩)
    · (try simp only [Bool.or_eq_true, Bool.and_eq_true, Bool.or_eq_false_iff, Bool.and_eq_false_iff, Bool.not_eq_true', Bool.not_eq_false', decide_eq_true_eq, decide_eq_false_iff_not, Int.not_lt, Int.not_le] at hc)
      refine AW.skip ?_
      refine hK2 _ _ ?_; try clear hK2 K2
      refine AW.seq_region (fun K hK => ?_)
      refine AL.step rfl rfl rfl qA16 ?_
      refine AL.step rfl rfl rfl qA13 ?_
      refine AL.step rfl rfl rfl qA13 ?_
      refine AL.nil_then (hK _ _ ?_); clear hK K
      refine AW.ret (RetQ.mk (.inr rfl) (retA_tmp rfl qA1 (retA_tmp rfl qA1 retA_nil)) ⟨by rw [rankS, rankE, if_pos hr, if_pos hr, if_neg (by omega), if_neg (by omega)]; rfl, qE4⟩)
end Go.Proofs.Ytmjookofajlcoaa
