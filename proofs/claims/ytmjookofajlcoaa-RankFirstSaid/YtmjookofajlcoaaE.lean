/- The walks of IndexFunc, ContainsFunc, their closures, SortedFunc. -/
import Derived.Test.YtmjookofajlcoaaD
namespace Go.Proofs.Ytmjookofajlcoaa
open Go.Ax
open Cel (c)
theorem qE1 {p : Prop} (h : p := by first | exact rfl | with_reducible assumption | exact Lst.one (by assumption)) : p := h
theorem qE2 {p : Prop} (h : p := by simp only [Nat.reduceAdd]; exact rfl) : p := h
theorem qE3 {p : Prop} (h : p := by first | exact AStepD.eql rfl rfl rfl | exact AStepD.str_eql rfl rfl rfl | exact (AStepD.ptr_nil tok (.inl ⟨_, _, rfl⟩) rfl rfl rfl).1 rfl | exact (AStepD.nil_nil tok rfl rfl rfl rfl).1 rfl | exact (AStepD.bool_eq tok rfl rfl rfl rfl).1 rfl | exact (AStepD.iface_nil tok rfl rfl rfl rfl).1 rfl | exact (AStepD.nilIface_nil tok rfl rfl rfl rfl).1 rfl) : p := h
theorem qE4 {p : Prop} (h : p := by repeat' (first | exact Keep.refl _ | apply Keep.new | apply Keep.set | apply Keep.del | (first | omega | (simp only [za, zb, zc]; omega)))) : p := h
theorem qE5 {p : Prop} (h : p := by first | exact AStepD.box1 rfl qA1 qE1 | exact AStepD.box rfl qA1 qA2) : p := h
theorem qE6 {p : Prop} (h : p := by first | exact Nat.zero_add 0 | exact (show _ + 0 = _ from qE2) | exact (show _ + 0 = _ + 0 from rfl) | exact rfl) : p := h
theorem qE7 {p : Prop} (h : p := by first | exact AStepD.fieldAddr' tok rfl rfl rfl rfl rfl rfl rfl qE6 | exact AStepD.fieldAddr_ip' tok rfl rfl rfl rfl rfl rfl rfl List.drop_zero) : p := h
set_option linter.unusedSimpArgs false
set_option linter.unusedVariables false

def idxF (p : Rep → Bool) (l : List Rep) : Int := match l.findIdx? p with | some k => (k : Int) | none => -1
theorem idxF_at {p : Rep → Bool} {l : List Rep} {i : Nat} (hi : i < l.length) (hp : p l[i] = true) (h : ∀ j (hj : j < i), p (l[j]'(by omega)) = false) : idxF p l = i := by
  have : l.findIdx? p = some i := List.findIdx?_eq_some_iff_getElem.2 ⟨hi, hp, fun j hj => by simpa using h j hj⟩
  rw [idxF, this]
theorem idxF_no {p : Rep → Bool} {l : List Rep} (h : ∀ j (hj : j < l.length), p l[j] = false) : idxF p l = -1 := by
  have : l.findIdx? p = none := List.findIdx?_eq_none_iff.2 fun x hx => by
    obtain ⟨j, hj, rfl⟩ := List.mem_iff_getElem.1 hx
    exact h j hj
  rw [idxF, this]
theorem idxF_neg {p : Rep → Bool} {l : List Rep} : (0 ≤ idxF p l) ↔ l.any p = true := by
  unfold idxF
  cases h : l.findIdx? p with
  | none =>
    have := List.findIdx?_eq_none_iff.1 h
    simp only [List.any_eq_true]
    constructor
    · omega
    · rintro ⟨x, hx, hp⟩; rw [this x hx] at hp; cases hp
  | some k =>
    obtain ⟨hk, hp, _⟩ := List.findIdx?_eq_some_iff_getElem.1 h
    simp only [List.any_eq_true]
    exact ⟨fun _ => ⟨_, List.getElem_mem hk, hp⟩, fun _ => by omega⟩

theorem index_calls (H : AHeap) (l : List Rep) (g : FuncId) (caps : List AV) (p : Rep → Bool) (he : Enters Try.prog g) (hlen : l.length ≤ 8000000)
    (hp : ∀ a ∈ l, ACalls Try.prog g (.agg (c a) :: caps) H (fun v H' => v = .v (.bool (p a)) ∧ H' = H)) :
    ACalls Try.prog 21 [vecA l, .func (.func g) caps] H (fun r H' => r = .v (.int .i64 (idxF p l)) ∧ H' = H) := by
  refine ACalls.of_body tok Try.func21 rfl Try.ntmps21 (Nat.le_of_ble_eq_true rfl) (fun base => ?_)
  refine AW.seq_region (fun K hK => ?_)
  refine AL.step rfl rfl rfl qA13 ?_
  refine AL.nil_then (hK _ _ ?_); clear hK K
  refine AW.seq_k (fun K1 hK1 => ?_)
  refine AW.seq_region (fun K hK => ?_)
  refine AL.step rfl rfl rfl qA16 ?_
  refine AL.step rfl rfl rfl qA15 ?_
  refine AL.step rfl rfl rfl qA16 ?_
  refine AL.nil_then (hK _ _ ?_); clear hK K
  refine AW.block ?_
  refine AW.loop_at (ι := Nat) (fun i => [(8, .v (.int .i64 (i : Nat))), (7, .v (.int .i64 (l.length : Nat))), (1, .func (.func g) caps), (0, vecA l)])
    (fun i H' => i ≤ l.length ∧ H' = H ∧ ∀ j (hj : j < l.length), j < i → p l[j] = false) (fun i => l.length - i) 0 qA17 ⟨Nat.zero_le _, rfl, fun _ _ h => by omega⟩ ?_
  rintro i _ ⟨hi, rfl, hno⟩
  refine AW.seq_region (fun K hK => ?_)
  refine AL.step rfl rfl rfl (by exact AStepD.lss rfl rfl rfl) ?_
  refine AL.nil_then (hK _ _ ?_); clear hK K
  refine AW.seq_k (fun K2 hK2 => ?_)
  refine AW.cond _ rfl (fun hc => ?_) (fun hc => ?_)
  · have hc := of_decide_eq_true hc
    have hil : i < l.length := by omega
    refine AW.skip ?_
    refine hK2 _ _ ?_; clear hK2 K2
    refine AW.seq_k (fun K3 hK3 => ?_)
    refine AW.block ?_
    refine AW.seq_region (fun K hK => ?_)
    refine AL.step rfl rfl rfl qA16 ?_
    refine AL.step rfl rfl rfl qA13 ?_
    refine AL.nil_then (hK _ _ ?_); clear hK K
    refine AW.seq_region (fun K hK => ?_)
    refine AL.step rfl rfl rfl qA16 ?_
    refine AL.step rfl rfl rfl qA16 ?_
    refine AL.step rfl rfl rfl qA16 ?_
    refine AL.step rfl rfl rfl qA18 ?_
    refine AL.step rfl rfl rfl qA20 ?_
    refine AL.step rfl rfl rfl (by exact AStepD.callv rfl rfl he rfl (hp _ (List.getElem_mem hil))) ?_
    refine AL.nil_then (hK _ _ ?_); clear hK K
    refine AW.cond _ rfl (fun hc => ?_) (fun hc => ?_)
    · refine AW.seq_region (fun K hK => ?_)
      refine AL.step rfl rfl rfl qA16 ?_
      refine AL.step rfl rfl rfl qA13 ?_
      refine AL.nil_then (hK _ _ ?_); clear hK K
      refine AW.ret (RetQ.mk (.inr rfl) (retA_tmp rfl qA1 retA_nil) ⟨?_, rfl⟩)
      rw [idxF_at hil hc fun j hj => hno j (by omega) hj]; rfl
    · refine AW.skip ?_
      refine hK3 _ _ ?_; clear hK3 K3
      refine AW.region ?_
      refine AL.step rfl rfl rfl (by first | exact AStepD.add rfl rfl rfl (by first | exact IntWalk.i64_in _ (by omega) | exact IntWalk.i64_in _ (by simp only [Bool.or_eq_true, Bool.and_eq_true, Bool.or_eq_false_iff, Bool.and_eq_false_iff, Bool.not_eq_true', Bool.not_eq_false', decide_eq_true_eq, decide_eq_false_iff_not, Int.not_lt, Int.not_le, beq_iff_eq] at *; omega) | exact rfl) | exact AStepD.str_add rfl rfl rfl (by omega)) ?_
      refine AL.step rfl rfl rfl qA16 ?_
      refine AL.nil ?_
      refine ⟨i + 1, by omega, qA17, hil, rfl, fun j hj hji => ?_⟩
      rcases Nat.lt_succ_iff_lt_or_eq.1 hji with h | rfl
      · exact hno j hj h
      · exact hc
  · have hc := of_decide_eq_false hc
    have hil : i = l.length := by omega
    refine AW.exit ?_
    refine hK1 _ _ ?_; try clear hK1 K1
    refine AW.seq_region (fun K hK => ?_)
    refine AL.step rfl rfl rfl qA13 ?_
    refine AL.nil_then (hK _ _ ?_); clear hK K
    refine AW.ret (RetQ.mk (.inr rfl) (retA_tmp rfl qA1 retA_nil) ⟨?_, rfl⟩)
    rw [idxF_no fun j hj => hno j hj (by omega)]; rfl

theorem contains_calls (H : AHeap) (l : List Rep) (g : FuncId) (caps : List AV) (p : Rep → Bool) (he : Enters Try.prog g) (hlen : l.length ≤ 8000000)
    (hp : ∀ a ∈ l, ACalls Try.prog g (.agg (c a) :: caps) H (fun v H' => v = .v (.bool (p a)) ∧ H' = H)) :
    ACalls Try.prog 23 [vecA l, .func (.func g) caps] H (fun r H' => r = .v (.bool (l.any p)) ∧ H' = H) := by
  refine ACalls.of_body tok Try.func23 rfl Try.ntmps23 (Nat.le_of_ble_eq_true rfl) (fun base => ?_)
  refine AW.seq_region (fun K hK => ?_)
  refine AL.step rfl rfl rfl qA13 ?_
  refine AL.nil_then (hK _ _ ?_); clear hK K
  refine AW.seq_region (fun K hK => ?_)
  refine AL.step rfl rfl rfl qA16 ?_
  refine AL.step rfl rfl rfl qA16 ?_
  refine AL.step rfl rfl rfl (by exact AStepD.callf rfl en21 rfl (index_calls H l g caps p he hlen hp)) ?_
  refine AL.step rfl rfl rfl (by exact AStepD.geq rfl rfl rfl) ?_
  refine AL.step rfl rfl rfl qA13 ?_
  refine AL.nil_then (hK _ _ ?_); clear hK K
  refine AW.ret (RetQ.mk (.inr rfl) (retA_tmp rfl qA1 retA_nil) ⟨?_, rfl⟩)
  show AV.v (.bool (decide (0 ≤ idxF p l))) = _
  congr 2
  rw [Bool.eq_iff_iff, decide_eq_true_iff, idxF_neg]

theorem same_calls (H : AHeap) (a r : Rep) (X : Nat) (hX : H.get X = some (.cells 29 (c r))) : ACalls Try.prog 24 [.agg (c a), .ptr X 0] H (fun v H' => v = .v (.bool (decide (a.id = r.id))) ∧ H' = H) := by
  refine ACalls.quiet_keep ?_ (.v _)
  refine ACalls.lts fun hlt => ?_
  have hXn := hlt _ _ hX
  refine ACalls.of_body tok Try.func24 rfl Try.ntmps24 (Nat.le_of_ble_eq_true rfl) (fun base => ?_)
  refine AW.seq_region (fun K hK => ?_)
  refine AL.step rfl rfl rfl qE5 ?_
  refine AL.step rfl rfl rfl qA13 ?_
  refine AL.nil_then (hK _ _ ?_); clear hK K
  refine AW.seq_region (fun K hK => ?_)
  refine AL.step rfl rfl rfl qE7 ?_
  refine AL.step rfl rfl rfl qB2 ?_
  refine AL.step rfl rfl rfl qE7 ?_
  refine AL.step rfl rfl rfl qB2 ?_
  refine AL.step rfl rfl rfl qE3 ?_
  refine AL.step rfl rfl rfl qA13 ?_
  refine AL.nil_then (hK _ _ ?_); clear hK K
  refine AW.ret (RetQ.mk (.inr rfl) (retA_tmp rfl qA1 retA_nil) ⟨rfl, qE4⟩)

theorem isid_calls (H : AHeap) (a : Rep) (w : Int) (X : Nat) (hX : H.get X = some (.cells 3 [.v (.int .i64 w)])) : ACalls Try.prog 22 [.agg (c a), .ptr X 0] H (fun v H' => v = .v (.bool (decide (a.id = w))) ∧ H' = H) := by
  refine ACalls.quiet_keep ?_ (.v _)
  refine ACalls.lts fun hlt => ?_
  have hXn := hlt _ _ hX
  refine ACalls.of_body tok Try.func22 rfl Try.ntmps22 (Nat.le_of_ble_eq_true rfl) (fun base => ?_)
  refine AW.seq_region (fun K hK => ?_)
  refine AL.step rfl rfl rfl qE5 ?_
  refine AL.step rfl rfl rfl qA13 ?_
  refine AL.nil_then (hK _ _ ?_); clear hK K
  refine AW.seq_region (fun K hK => ?_)
  refine AL.step rfl rfl rfl qE7 ?_
  refine AL.step rfl rfl rfl qB2 ?_
  refine AL.step rfl rfl rfl qB2 ?_
  refine AL.step rfl rfl rfl qE3 ?_
  refine AL.step rfl rfl rfl qA13 ?_
  refine AL.nil_then (hK _ _ ?_); clear hK K
  refine AW.ret (RetQ.mk (.inr rfl) (retA_tmp rfl qA1 retA_nil) ⟨rfl, qE4⟩)
end Go.Proofs.Ytmjookofajlcoaa
