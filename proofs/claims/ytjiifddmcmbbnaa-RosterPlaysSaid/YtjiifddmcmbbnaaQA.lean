/- The walks of the reference's small functions. -/
import Derived.Test.YtjiifddmcmbbnaaRN
namespace Go.Proofs.Ytjiifddmcmbbnaa
open Go.Ax
theorem qQA1 {p : Prop} (h : p := by first | exact AStepD.indexAddr_vec' tok rfl rfl rfl rfl rfl rfl (show _ = 2 from rfl) qRA13 qRA11 | exact AStepD.indexAddr_sl' tok rfl rfl rfl rfl rfl rfl (show _ = 2 from rfl) qRA13 qRA11 qRA14 | exact AStepD.indexAddr_arr' tok rfl rfl rfl rfl rfl rfl (show _ = 2 from rfl) qRA13 qRA11 qRA14) : p := h
theorem qQA2 {p : Prop} (h : p := by first | exact AStepD.load_agg tok rfl rfl rfl qRA6 rfl (show _ = 2 from rfl) qRA12 qRA15 | exact AStepD.load_agg_ip tok rfl rfl rfl rfl (show _ = 2 from rfl) qRA12 qRA15) : p := h
theorem qQA3 {p : Prop} (h : p := by first | exact AStepD.buildSlice0 tok rfl rfl rfl rfl (show _ = 2 from rfl) | exact AStepD.buildSlice1 tok rfl rfl rfl rfl (show _ = 2 from rfl) qRA1 qRA1 qRA11 (by decide) qRA4 | exact AStepD.buildSlice_seq tok rfl rfl rfl rfl (show _ = 2 from rfl) (map_p qRA1 map_n) rfl (by decide) (by decide) rfl qRD5 qRA4 | exact AStepD.buildSlice tok rfl rfl rfl rfl qRA1 (by decide) (by decide) rfl qRA4) : p := h
set_option linter.unusedSimpArgs false
set_option linter.unusedVariables false

def rowB (p : Int × Int) : List AV := [.v (.int .i64 p.1), .v (.int .i64 p.2)]
def flatB (bs : List (Int × Int)) : List AV := bs.flatMap rowB
theorem flatB_cons (p : Int × Int) (r : List (Int × Int)) : flatB (p :: r) = rowB p ++ flatB r := by simp [flatB]
theorem flatB_append (a b : List (Int × Int)) : flatB (a ++ b) = flatB a ++ flatB b := by simp [flatB]
theorem flatB_length (bs : List (Int × Int)) : (flatB bs).length = bs.length * 2 := by
  induction bs with
  | nil => rfl
  | cons m r ih => rw [flatB_cons, List.length_append, ih]; simp [rowB]; omega
theorem flatB_drop (bs : List (Int × Int)) (i : Nat) : (flatB bs).drop (i * 2) = flatB (bs.drop i) := by
  induction bs generalizing i with
  | nil => simp [flatB]
  | cons m r ih =>
    cases i with
    | zero => simp
    | succ i => rw [flatB_cons, List.drop_succ_cons, ← ih, List.drop_append, List.drop_of_length_le (by simp [rowB]; omega), List.nil_append, show (i + 1) * 2 - (rowB m).length = i * 2 by simp [rowB]; omega]
theorem flatB_at (bs : List (Int × Int)) (i : Nat) (h : i < bs.length) : ((flatB bs).drop (i * 2)).take 2 = rowB bs[i] := by
  rw [flatB_drop, List.drop_eq_getElem_cons h, flatB_cons, List.take_append_of_le_length (by simp [rowB]), List.take_of_length_le (by simp [rowB])]
theorem flatB_ones (bs : List (Int × Int)) : ∀ z ∈ flatB bs, z.one = true := by
  intro z hz
  obtain ⟨m, _, hm⟩ := List.mem_flatMap.1 hz
  simp [rowB] at hm
  rcases hm with rfl | rfl <;> rfl
theorem flatB_plain (bs : List (Int × Int)) : ∀ z ∈ flatB bs, Plain z := by
  intro z hz
  obtain ⟨m, _, hm⟩ := List.mem_flatMap.1 hz
  simp [rowB] at hm
  rcases hm with rfl | rfl <;> exact .v _
/-- The reference's roster. -/
def refC (r : Ros) : List AV := [.v (.int .i64 r.self), .vec r.ms.length (flat r.ms), .vec r.bs.length (flatB r.bs), .v (.int .i64 (r.cur : Nat))]
theorem refC_one (r : Ros) : ∀ z ∈ refC r, z.one = true := by simp [refC, AV.one, Value.oneCell']
theorem refC_plain (r : Ros) : ∀ z ∈ refC r, Plain z := by
  simp only [refC, List.forall_mem_cons]
  exact ⟨.v _, .vec (flat_plain _), .vec (flatB_plain _), .v _, fun _ h => absurd h List.not_mem_nil⟩

theorem rid_calls (H : AHeap) (a : Int) : ACalls Try.prog 19 [.v (.int .i64 a)] H (fun r H' => r = .v (.bool (idB a)) ∧ H' = H) := by
  refine ACalls.of_body tok Try.func19 rfl Try.ntmps19 (Nat.le_of_ble_eq_true rfl) ?_
  refine AW.seq_region (fun K hK => ?_)
  refine AL.step rfl rfl rfl qRA18 ?_
  refine AL.nil_then (hK _ _ ?_); clear hK K
  refine AW.seq_region (fun K hK => ?_)
  refine AL.step rfl rfl rfl qRA19 ?_
  refine AL.step rfl rfl rfl qRB1 ?_
  refine AL.step rfl rfl rfl qRA19 ?_
  first | refine AL.gstep rfl rfl rfl rfl rfl rfl rfl qRA19 ?_ | refine AL.gskip rfl rfl rfl rfl rfl rfl rfl ?_ | refine AL.gnone rfl rfl rfl rfl rfl ?_ | refine AL.gmay rfl rfl rfl rfl rfl rfl qRA32 ?_ | refine AL.gmay2 rfl rfl rfl rfl rfl rfl qRA33 ?_
  first | refine AL.gstep rfl rfl rfl rfl rfl rfl rfl qRB2 ?_ | refine AL.gskip rfl rfl rfl rfl rfl rfl rfl ?_ | refine AL.gnone rfl rfl rfl rfl rfl ?_ | refine AL.gmay rfl rfl rfl rfl rfl rfl qRB10 ?_ | refine AL.gmay2 rfl rfl rfl rfl rfl rfl qRB11 ?_
  refine AL.step rfl rfl rfl qRA28 ?_
  refine AL.step rfl rfl rfl qRA18 ?_
  refine AL.nil_then (hK _ _ ?_); clear hK K
  refine AW.ret (RetQ.mk (.inr rfl) (retA_tmp rfl qRA1 retA_nil) ⟨rfl, rfl⟩)
theorem rtime_calls (H : AHeap) (a : Int) : ACalls Try.prog 34 [.v (.int .i64 a)] H (fun r H' => r = .v (.bool (timeB a)) ∧ H' = H) := by
  refine ACalls.of_body tok Try.func34 rfl Try.ntmps34 (Nat.le_of_ble_eq_true rfl) ?_
  refine AW.seq_region (fun K hK => ?_)
  refine AL.step rfl rfl rfl qRA18 ?_
  refine AL.nil_then (hK _ _ ?_); clear hK K
  refine AW.seq_region (fun K hK => ?_)
  refine AL.step rfl rfl rfl qRA19 ?_
  refine AL.step rfl rfl rfl qRB1 ?_
  refine AL.step rfl rfl rfl qRA19 ?_
  first | refine AL.gstep rfl rfl rfl rfl rfl rfl rfl qRA19 ?_ | refine AL.gskip rfl rfl rfl rfl rfl rfl rfl ?_ | refine AL.gnone rfl rfl rfl rfl rfl ?_ | refine AL.gmay rfl rfl rfl rfl rfl rfl qRA32 ?_ | refine AL.gmay2 rfl rfl rfl rfl rfl rfl qRA33 ?_
  first | refine AL.gstep rfl rfl rfl rfl rfl rfl rfl qRB2 ?_ | refine AL.gskip rfl rfl rfl rfl rfl rfl rfl ?_ | refine AL.gnone rfl rfl rfl rfl rfl ?_ | refine AL.gmay rfl rfl rfl rfl rfl rfl qRB10 ?_ | refine AL.gmay2 rfl rfl rfl rfl rfl rfl qRB11 ?_
  refine AL.step rfl rfl rfl qRA28 ?_
  refine AL.step rfl rfl rfl qRA18 ?_
  refine AL.nil_then (hK _ _ ?_); clear hK K
  refine AW.ret (RetQ.mk (.inr rfl) (retA_tmp rfl qRA1 retA_nil) ⟨rfl, rfl⟩)

def findZ (r : Ros) (w : Int) : Int := if has r.ms w = true then (pos r.ms w : Int) else -1
theorem rfind_calls (H : AHeap) (r : Ros) (w : Int) (hI : Inv r) : ACalls Try.prog 35 [.agg (refC r), .v (.int .i64 w)] H (fun v H' => v = .v (.int .i64 (findZ r w)) ∧ H' = H) := by
  refine ACalls.quiet_keep ?_ (.v _)
  refine ACalls.lts fun hlt => ?_
  have hone := refC_one r
  have h15 := hI.2
  have hfl := flat_length r.ms
  refine ACalls.of_body tok Try.func35 rfl Try.ntmps35 (Nat.le_of_ble_eq_true rfl) ?_
  refine AW.seq_region (fun K hK => ?_)
  refine AL.step rfl rfl rfl qRM1 ?_
  refine AL.step rfl rfl rfl qRA18 ?_
  refine AL.nil_then (hK _ _ ?_); clear hK K
  refine AW.seq_k (fun K hK => ?_)
  refine AW.seq_region (fun K hK => ?_)
  refine AL.step rfl rfl rfl qRA18 ?_
  refine AL.nil_then (hK _ _ ?_); clear hK K
  refine AW.block ?_
  refine AW.loop_at (ι := Nat) (fun x => [(5, .v (.int .i64 x)), (2, .ptr H.next 0), (1, .v (.int .i64 w))])
    (fun x H' => x ≤ r.ms.length ∧ Keep H H' ∧ H'.get H.next = some (.cells 47 (refC r)) ∧ ∀ (j : Nat) (h : j < r.ms.length), j < x → r.ms[j].i ≠ w) (fun x => r.ms.length - x) 0 qRA21 ⟨Nat.zero_le _, qRA8, qRA6, fun j _ h => by omega⟩ ?_
  rintro i H1 ⟨hi, hk1, hX, hno⟩
  refine AW.seq_k (fun K1 hK1 => ?_)
  refine AW.seq_region (fun K hK => ?_)
  refine AL.step rfl rfl rfl qRA19 ?_
  refine AL.step rfl rfl rfl qRD9 ?_
  refine AL.step rfl rfl rfl qRB5 ?_
  refine AL.step rfl rfl rfl qRC9 ?_
  refine AL.step rfl rfl rfl qRA3 ?_
  refine AL.nil_then (hK _ _ ?_); clear hK K
  refine AW.cond _ rfl (fun hc => ?_) (fun hc => ?_)
  · refine AW.skip (hK1 _ _ ?_); clear hK1 K1
    have hil : i < r.ms.length := by have := of_decide_eq_true hc; omega
    have hfi := flat_id r.ms i hil
    refine AW.seq_k (fun K1 hK1 => ?_)
    refine AW.block ?_
    refine AW.seq_region (fun K hK => ?_)
    refine AL.step rfl rfl rfl qRD9 ?_
    refine AL.step rfl rfl rfl qRB5 ?_
    refine AL.step rfl rfl rfl qRA19 ?_
    refine AL.step rfl rfl rfl qRA24 ?_
    refine AL.step rfl rfl rfl qRB18 ?_
    refine AL.step rfl rfl rfl qRB5 ?_
    refine AL.step rfl rfl rfl qRA19 ?_
    refine AL.step rfl rfl rfl qRA16 ?_
    refine AL.nil_then (hK _ _ ?_); clear hK K
    refine AW.cond _ rfl (fun hd => ?_) (fun hd => ?_)
    · have hd := of_decide_eq_true hd
      refine AW.seq_region (fun K hK => ?_)
      refine AL.step rfl rfl rfl qRA19 ?_
      refine AL.step rfl rfl rfl qRA18 ?_
      refine AL.nil_then (hK _ _ ?_); clear hK K
      have hh : has r.ms w = true := has_mem.2 ⟨r.ms[i], List.getElem_mem _, hd⟩
      have hp : pos r.ms w = i := pos_eq _ _ _ hi (fun j hj hji => by have := hI.1.lt hil hji; omega) (fun _ => by omega)
      refine AW.ret (RetQ.mk (.inr rfl) (retA_tmp rfl qRA1 retA_nil) ⟨?_, hk1⟩)
      rw [findZ, if_pos hh, hp]; rfl
    · have hd := of_decide_eq_false hd
      refine AW.skip ?_
      refine hK1 _ _ ?_; clear hK1 K1
      refine AW.region ?_
      refine AL.step rfl rfl rfl qRA19 ?_
      refine AL.step rfl rfl rfl qRA22 ?_
      refine AL.step rfl rfl rfl qRA18 ?_
      refine AL.nil ?_
      refine ⟨i + 1, ?_, qRA21, hil, hk1, hX, fun j hj hji => ?_⟩
      · show r.ms.length - (i + 1) < r.ms.length - i
        omega
      · by_cases e : j = i
        · subst e; exact hd
        · exact hno j hj (by omega)
  · refine AW.exit ?_
    refine hK _ _ ?_; clear hK1 K1 hK K
    refine AW.seq_region (fun K hK => ?_)
    refine AL.step rfl rfl rfl qRA18 ?_
    refine AL.nil_then (hK _ _ ?_); clear hK K
    have hil : i = r.ms.length := by have := of_decide_eq_false hc; omega
    have hh : has r.ms w = false := has_none fun m hm => by
      obtain ⟨j, hj, rfl⟩ := List.mem_iff_getElem.1 hm
      exact hno j hj (by omega)
    refine AW.ret (RetQ.mk (.inr rfl) (retA_tmp rfl qRA1 retA_nil) ⟨?_, hk1⟩)
    rw [findZ, hh]; rfl

def refB (bs : List (Int × Int)) (w t : Int) : Bool := bs.any fun p => decide (p.1 = w) && decide (t ≤ p.2)
theorem flatB_0 (bs : List (Int × Int)) (k : Nat) (h : k < bs.length) : ((flatB bs).drop (k * 2))[0]? = some (.v (.int .i64 bs[k].1)) := by
  have := congrArg (fun l => l[0]?) (flatB_at bs k h)
  simpa [List.getElem?_take, rowB] using this
theorem flatB_1 (bs : List (Int × Int)) (k : Nat) (h : k < bs.length) : (((flatB bs).drop (k * 2)).drop 1)[0]? = some (.v (.int .i64 bs[k].2)) := by
  have := congrArg (fun l => l[1]?) (flatB_at bs k h)
  simpa [List.getElem?_take, rowB] using this
theorem rbanned_calls (H : AHeap) (r : Ros) (w t : Int) (hl : r.bs.length ≤ 1000000) : ACalls Try.prog 36 [.agg (refC r), .v (.int .i64 w), .v (.int .i64 t)] H (fun v H' => v = .v (.bool (refB r.bs w t)) ∧ H' = H) := by
  refine ACalls.quiet_keep ?_ (.v _)
  refine ACalls.lts fun hlt => ?_
  have hone := refC_one r
  have hfl := flatB_length r.bs
  refine ACalls.of_body tok Try.func36 rfl Try.ntmps36 (Nat.le_of_ble_eq_true rfl) ?_
  refine AW.seq_region (fun K hK => ?_)
  refine AL.step rfl rfl rfl qRM1 ?_
  refine AL.step rfl rfl rfl qRA18 ?_
  refine AL.nil_then (hK _ _ ?_); clear hK K
  refine AW.seq_k (fun K hK => ?_)
  refine AW.seq_region (fun K hK => ?_)
  refine AL.step rfl rfl rfl qRA18 ?_
  refine AL.nil_then (hK _ _ ?_); clear hK K
  refine AW.block ?_
  refine AW.loop_at (ι := Nat) (fun x => [(7, .v (.int .i64 x)), (3, .ptr H.next 0), (1, .v (.int .i64 w)), (2, .v (.int .i64 t))])
    (fun x H' => x ≤ r.bs.length ∧ Keep H H' ∧ H'.get H.next = some (.cells 47 (refC r)) ∧ ∀ (j : Nat) (h : j < r.bs.length), j < x → (decide (r.bs[j].1 = w) && decide (t ≤ r.bs[j].2)) = false) (fun x => r.bs.length - x) 0 qRA21 ⟨Nat.zero_le _, qRA8, qRA6, fun j _ h => by omega⟩ ?_
  rintro i H1 ⟨hi, hk1, hX, hno⟩
  refine AW.seq_k (fun K1 hK1 => ?_)
  refine AW.seq_region (fun K hK => ?_)
  refine AL.step rfl rfl rfl qRA19 ?_
  refine AL.step rfl rfl rfl qRB17 ?_
  refine AL.step rfl rfl rfl qRB5 ?_
  refine AL.step rfl rfl rfl qRC9 ?_
  refine AL.step rfl rfl rfl qRA3 ?_
  refine AL.nil_then (hK _ _ ?_); clear hK K
  refine AW.cond _ rfl (fun hc => ?_) (fun hc => ?_)
  · refine AW.skip (hK1 _ _ ?_); clear hK1 K1
    have hil : i < r.bs.length := by have := of_decide_eq_true hc; omega
    have hf0 := flatB_0 r.bs i hil
    have hf1 := flatB_1 r.bs i hil
    refine AW.seq_k (fun K1 hK1 => ?_)
    refine AW.block ?_
    refine AW.seq_region (fun K hK => ?_)
    refine AL.step rfl rfl rfl qRB17 ?_
    refine AL.step rfl rfl rfl qRB5 ?_
    refine AL.step rfl rfl rfl qRA19 ?_
    refine AL.step rfl rfl rfl qQA1 ?_
    refine AL.step rfl rfl rfl qRB18 ?_
    refine AL.step rfl rfl rfl qRB5 ?_
    refine AL.step rfl rfl rfl qRA19 ?_
    refine AL.step rfl rfl rfl qRA16 ?_
    refine AL.step rfl rfl rfl qRA19 ?_
    first | refine AL.gstep rfl rfl rfl rfl rfl rfl rfl qRB17 ?_ | refine AL.gskip rfl rfl rfl rfl rfl rfl rfl ?_ | refine AL.gnone rfl rfl rfl rfl rfl ?_ | refine AL.gmay rfl rfl rfl rfl rfl rfl (fun hb => by (try (apply AStepD.uncond 3 rfl (gpf hb))); exact qRB17) ?_ | refine AL.gmay2 rfl rfl rfl rfl rfl rfl (fun _ hb => by (try (apply AStepD.uncond 3 rfl (gpf hb))); exact qRB17) ?_
    first | refine AL.gstep rfl rfl rfl rfl rfl rfl rfl qRB5 ?_ | refine AL.gskip rfl rfl rfl rfl rfl rfl rfl ?_ | refine AL.gnone rfl rfl rfl rfl rfl ?_ | refine AL.gmay rfl rfl rfl rfl rfl rfl (fun hb => by (try (apply AStepD.uncond 24 rfl (gpf hb))); exact qRB5) ?_ | refine AL.gmay2 rfl rfl rfl rfl rfl rfl (fun _ hb => by (try (apply AStepD.uncond 24 rfl (gpf hb))); exact qRB5) ?_
    first | refine AL.gstep rfl rfl rfl rfl rfl rfl rfl qRA19 ?_ | refine AL.gskip rfl rfl rfl rfl rfl rfl rfl ?_ | refine AL.gnone rfl rfl rfl rfl rfl ?_ | refine AL.gmay rfl rfl rfl rfl rfl rfl qRB7 ?_ | refine AL.gmay2 rfl rfl rfl rfl rfl rfl qRB8 ?_
    first | refine AL.gstep rfl rfl rfl rfl rfl rfl rfl qQA1 ?_ | refine AL.gskip rfl rfl rfl rfl rfl rfl rfl ?_ | refine AL.gnone rfl rfl rfl rfl rfl ?_ | refine AL.gmay rfl rfl rfl rfl rfl rfl (fun hb => by (try (apply AStepD.uncond 25 rfl (gpf hb))); (try (apply AStepD.uncond 26 rfl (gpf hb))); exact qQA1) ?_ | refine AL.gmay2 rfl rfl rfl rfl rfl rfl (fun _ hb => by (try (apply AStepD.uncond 25 rfl (gpf hb))); (try (apply AStepD.uncond 26 rfl (gpf hb))); exact qQA1) ?_
    first | refine AL.gstep rfl rfl rfl rfl rfl rfl rfl qRD9 ?_ | refine AL.gskip rfl rfl rfl rfl rfl rfl rfl ?_ | refine AL.gnone rfl rfl rfl rfl rfl ?_ | refine AL.gmay rfl rfl rfl rfl rfl rfl (fun hb => by (try (apply AStepD.uncond 27 rfl (gpf hb))); exact qRD9) ?_ | refine AL.gmay2 rfl rfl rfl rfl rfl rfl (fun _ hb => by (try (apply AStepD.uncond 27 rfl (gpf hb))); exact qRD9) ?_
    first | refine AL.gstep rfl rfl rfl rfl rfl rfl rfl qRB5 ?_ | refine AL.gskip rfl rfl rfl rfl rfl rfl rfl ?_ | refine AL.gnone rfl rfl rfl rfl rfl ?_ | refine AL.gmay rfl rfl rfl rfl rfl rfl (fun hb => by (try (apply AStepD.uncond 28 rfl (gpf hb))); exact qRB5) ?_ | refine AL.gmay2 rfl rfl rfl rfl rfl rfl (fun _ hb => by (try (apply AStepD.uncond 28 rfl (gpf hb))); exact qRB5) ?_
    first | refine AL.gstep rfl rfl rfl rfl rfl rfl rfl qRA19 ?_ | refine AL.gskip rfl rfl rfl rfl rfl rfl rfl ?_ | refine AL.gnone rfl rfl rfl rfl rfl ?_ | refine AL.gmay rfl rfl rfl rfl rfl rfl qRA30 ?_ | refine AL.gmay2 rfl rfl rfl rfl rfl rfl qRA31 ?_
    first | refine AL.gstep rfl rfl rfl rfl rfl rfl rfl qRB1 ?_ | refine AL.gskip rfl rfl rfl rfl rfl rfl rfl ?_ | refine AL.gnone rfl rfl rfl rfl rfl ?_ | refine AL.gmay rfl rfl rfl rfl rfl rfl (fun hb => by (try (apply AStepD.uncond 29 rfl (gpf hb))); (try (apply AStepD.uncond 30 rfl (gpf hb))); exact qRB1) ?_ | refine AL.gmay2 rfl rfl rfl rfl rfl rfl (fun _ hb => by (try (apply AStepD.uncond 29 rfl (gpf hb))); (try (apply AStepD.uncond 30 rfl (gpf hb))); exact qRB1) ?_
    refine AL.step rfl rfl rfl qRA28 ?_
    refine AL.nil_then (hK _ _ ?_); clear hK K
    refine AW.cond _ rfl (fun hd => ?_) (fun hd => ?_)
    · refine AW.seq_region (fun K hK => ?_)
      refine AL.step rfl rfl rfl qRA18 ?_
      refine AL.nil_then (hK _ _ ?_); clear hK K
      have hh : refB r.bs w t = true := List.any_eq_true.2 ⟨r.bs[i], List.getElem_mem _, hd⟩
      refine AW.ret (RetQ.mk (.inr rfl) (retA_tmp rfl qRA1 retA_nil) ⟨?_, hk1⟩)
      rw [hh]; rfl
    · refine AW.skip ?_
      refine hK1 _ _ ?_; clear hK1 K1
      refine AW.region ?_
      refine AL.step rfl rfl rfl qRA19 ?_
      refine AL.step rfl rfl rfl qRA22 ?_
      refine AL.step rfl rfl rfl qRA18 ?_
      refine AL.nil ?_
      refine ⟨i + 1, ?_, qRA21, hil, hk1, hX, fun j hj hji => ?_⟩
      · show r.bs.length - (i + 1) < r.bs.length - i
        omega
      · by_cases e : j = i
        · subst e; exact hd
        · exact hno j hj (by omega)
  · refine AW.exit ?_
    refine hK _ _ ?_; clear hK1 K1 hK K
    refine AW.seq_region (fun K hK => ?_)
    refine AL.step rfl rfl rfl qRA18 ?_
    refine AL.nil_then (hK _ _ ?_); clear hK K
    have hil : i = r.bs.length := by have := of_decide_eq_false hc; omega
    have hh : refB r.bs w t = false := by
      rw [refB, List.any_eq_false]
      intro p hp
      obtain ⟨j, hj, rfl⟩ := List.mem_iff_getElem.1 hp
      rw [hno j hj (by omega)]
      decide
    refine AW.ret (RetQ.mk (.inr rfl) (retA_tmp rfl qRA1 retA_nil) ⟨?_, hk1⟩)
    rw [hh]; rfl

/-- The bans without those of one. -/
def noB (bs : List (Int × Int)) (w : Int) : List (Int × Int) := bs.filter fun p => decide (p.1 ≠ w)
theorem noB_snoc (bs : List (Int × Int)) (p : Int × Int) (w : Int) : noB (bs ++ [p]) w = if p.1 ≠ w then noB bs w ++ [p] else noB bs w := by
  simp only [noB, List.filter_append]
  split
  · rename_i h; simp [h]
  · rename_i h; simp at h; simp [h]
theorem noB_le (bs : List (Int × Int)) (w : Int) : (noB bs w).length ≤ bs.length := List.length_filter_le _ _
inductive OwnB (H0 H : AHeap) : AV → List (Int × Int) → Prop
  | nil : OwnB H0 H (.v (.slice none 0 0)) []
  | sl {D : Nat} {l : List (Int × Int)} (hD : H0.next < D) (h : H.get D = some (.cells 71 (flatB l))) : OwnB H0 H (.sl D 0 l.length 2) l
theorem OwnB.mk {H0 H : AHeap} {D k : Nat} {cs : List AV} {l : List (Int × Int)} (hD : H0.next < D) (h : H.get D = some (.cells 71 cs)) (hc : cs = flatB l) (hk : k = l.length) : OwnB H0 H (.sl D 0 k 2) l := by
  subst hc; subst hk
  exact .sl hD h
theorem runban_calls (H : AHeap) (r : Ros) (w : Int) (hl : r.bs.length ≤ 1000000) : ACalls Try.prog 37 [.agg (refC r), .v (.int .i64 w)] H (fun v H' => v = .vec (noB r.bs w).length (flatB (noB r.bs w)) ∧ H' = H) := by
  refine ACalls.quiet_keep ?_ (.vec (flatB_plain _))
  refine ACalls.lts fun hlt => ?_
  have hone := refC_one r
  have hfl := flatB_length r.bs
  refine ACalls.of_body tok Try.func37 rfl Try.ntmps37 (Nat.le_of_ble_eq_true rfl) ?_
  refine AW.seq_region (fun K hK => ?_)
  refine AL.step rfl rfl rfl qRM1 ?_
  refine AL.step rfl rfl rfl qRA18 ?_
  refine AL.nil_then (hK _ _ ?_); clear hK K
  refine AW.seq_region (fun K hK => ?_)
  refine AL.step rfl rfl rfl qRA18 ?_
  refine AL.nil_then (hK _ _ ?_); clear hK K
  refine AW.seq_k (fun K hK => ?_)
  refine AW.seq_region (fun K hK => ?_)
  refine AL.step rfl rfl rfl qRA18 ?_
  refine AL.nil_then (hK _ _ ?_); clear hK K
  refine AW.block ?_
  refine AW.loop_at (ι := Nat × AV) (fun x => [(6, .v (.int .i64 x.1)), (5, x.2), (2, .ptr H.next 0), (1, .v (.int .i64 w))])
    (fun x H' => x.1 ≤ r.bs.length ∧ Keep H H' ∧ H.next < H'.next ∧ H'.get H.next = some (.cells 47 (refC r)) ∧ OwnB H H' x.2 (noB (r.bs.take x.1) w)) (fun x => r.bs.length - x.1) (0, .v (.slice none 0 0)) qRA21 ⟨Nat.zero_le _, qRA8, qRC3, qRA6, .nil⟩ ?_
  rintro ⟨i, y⟩ H1 ⟨hi, hk1, hn1, hX, hy⟩
  dsimp only at hi hk1 hX hy ⊢
  refine AW.seq_k (fun K1 hK1 => ?_)
  refine AW.seq_region (fun K hK => ?_)
  refine AL.step rfl rfl rfl qRA19 ?_
  refine AL.step rfl rfl rfl qRB17 ?_
  refine AL.step rfl rfl rfl qRB5 ?_
  refine AL.step rfl rfl rfl qRC9 ?_
  refine AL.step rfl rfl rfl qRA3 ?_
  refine AL.nil_then (hK _ _ ?_); clear hK K
  refine AW.cond _ rfl (fun hc => ?_) (fun hc => ?_)
  · refine AW.skip (hK1 _ _ ?_); clear hK1 K1
    have hil : i < r.bs.length := by have := of_decide_eq_true hc; omega
    have hf0 := flatB_0 r.bs i hil
    have hfa := flatB_at r.bs i hil
    have htn := take_next r.bs i hil
    have hyl := noB_le (r.bs.take i) w
    have hyl2 : (r.bs.take i).length = i := by rw [List.length_take]; omega
    refine AW.lts fun hlt1 => ?_
    refine AW.seq_k (fun K1 hK1 => ?_)
    refine AW.block ?_
    refine AW.seq_region (fun K hK => ?_)
    refine AL.step rfl rfl rfl qRB17 ?_
    refine AL.step rfl rfl rfl qRB5 ?_
    refine AL.step rfl rfl rfl qRA19 ?_
    refine AL.step rfl rfl rfl qQA1 ?_
    refine AL.step rfl rfl rfl qRB18 ?_
    refine AL.step rfl rfl rfl qRB5 ?_
    refine AL.step rfl rfl rfl qRA19 ?_
    refine AL.step rfl rfl rfl qRA2 ?_
    refine AL.nil_then (hK _ _ ?_); clear hK K
    refine AW.cond _ rfl (fun hd => ?_) (fun hd => ?_)
    · have hd := of_decide_eq_true hd
      generalize hq : noB (r.bs.take i) w = q at hy hyl
      cases hy with
      | nil =>
        refine AW.region ?_
        refine AL.step rfl rfl rfl qRA19 ?_
        refine AL.step rfl rfl rfl qRB17 ?_
        refine AL.step rfl rfl rfl qRB5 ?_
        refine AL.step rfl rfl rfl qRA19 ?_
        refine AL.step rfl rfl rfl qQA1 ?_
        refine AL.step rfl rfl rfl qQA2 ?_
        refine AL.step rfl rfl rfl qQA3 ?_
        refine AL.step rfl rfl rfl (by first | exact AStepD.append' (bk := 64) tok rfl rfl rfl rfl rfl rfl rfl rfl (show _ = 2 from rfl) rfl qRA6 rfl qRA11 qRA23 qRA11 qRA4 qRA11 qRA11 qRA14 qRC2 | exact AStepD.append_nil' (bk := 64) tok rfl rfl rfl rfl rfl rfl rfl rfl (show _ = 2 from rfl) rfl qRA23 qRA11 qRA11 qRA11 qRA11) ?_
        refine AL.step rfl rfl rfl qRA18 ?_
        refine AL.nil ?_
        refine hK1 _ _ ?_; clear hK1 K1
        refine AW.region ?_
        refine AL.step rfl rfl rfl qRA19 ?_
        refine AL.step rfl rfl rfl qRA22 ?_
        refine AL.step rfl rfl rfl qRA18 ?_
        refine AL.nil ?_
        refine Exists.intro (i + 1, AV.sl ?qaD 0 1 2) ⟨?qam, ?qas, hil, ?qak, ?qan, ?qax, ?qay⟩
        case qas => exact qRA21
        case qam => show r.bs.length - (i + 1) < r.bs.length - i; omega
        case qak => exact ⟨by (simp only [za, zb, zc]; omega), fun l hl => Eq.trans qRC4 (hk1.2 l hl)⟩
        case qan => exact qRC3
        case qax => exact qRA6
        case qay =>
          show OwnB H _ (AV.sl _ 0 1 2) (noB (r.bs.take (i + 1)) w)
          rw [htn, noB_snoc, if_pos hd, hq]
          refine OwnB.mk (cs := ?qac) ?qaa ?qab ?qae ?qaf
          case qab => exact qRA6
          case qaa => (simp only [za, zb, zc]; omega)
          case qae => simp [flatB, rowB]
          case qaf => simp
      | sl hD hyH =>
        have hyl' := hlt1 _ _ hyH
        have hio := flatB_ones q
        have hil' := flatB_length q
        refine AW.region ?_
        refine AL.step rfl rfl rfl qRA19 ?_
        refine AL.step rfl rfl rfl qRB17 ?_
        refine AL.step rfl rfl rfl qRB5 ?_
        refine AL.step rfl rfl rfl qRA19 ?_
        refine AL.step rfl rfl rfl qQA1 ?_
        refine AL.step rfl rfl rfl qQA2 ?_
        refine AL.step rfl rfl rfl qQA3 ?_
        refine AL.step rfl rfl rfl (by first | exact AStepD.append' (bk := 64) tok rfl rfl rfl rfl rfl rfl rfl rfl (show _ = 2 from rfl) rfl qRA6 rfl qRA11 qRA23 qRA11 qRA4 qRA11 qRA11 qRA14 qRC2 | exact AStepD.append_nil' (bk := 64) tok rfl rfl rfl rfl rfl rfl rfl rfl (show _ = 2 from rfl) rfl qRA23 qRA11 qRA11 qRA11 qRA11) ?_
        refine AL.step rfl rfl rfl qRA18 ?_
        refine AL.nil ?_
        refine hK1 _ _ ?_; clear hK1 K1
        refine AW.region ?_
        refine AL.step rfl rfl rfl qRA19 ?_
        refine AL.step rfl rfl rfl qRA22 ?_
        refine AL.step rfl rfl rfl qRA18 ?_
        refine AL.nil ?_
        refine Exists.intro (i + 1, AV.sl ?qbD 0 (q.length + 1) 2) ⟨?qbm, ?qbs, hil, ?qbk, ?qbn, ?qbx, ?qby⟩
        case qbs => exact qRA21
        case qbm => show r.bs.length - (i + 1) < r.bs.length - i; omega
        case qbk => exact ⟨by (simp only [za, zb, zc]; omega), fun l hl => Eq.trans qRC4 (hk1.2 l hl)⟩
        case qbn => exact qRC3
        case qbx => exact qRA6
        case qby =>
          show OwnB H _ (AV.sl _ 0 (q.length + 1) 2) (noB (r.bs.take (i + 1)) w)
          rw [htn, noB_snoc, if_pos hd, hq]
          refine OwnB.mk (cs := ?qbc) ?qba ?qbb ?qbe ?qbf
          case qbb => exact qRA6
          case qba => (simp only [za, zb, zc]; omega)
          case qbe => simp [flatB, rowB]
          case qbf => simp
    · have hd := of_decide_eq_false hd
      refine AW.skip ?_
      refine hK1 _ _ ?_; clear hK1 K1
      refine AW.region ?_
      refine AL.step rfl rfl rfl qRA19 ?_
      refine AL.step rfl rfl rfl qRA22 ?_
      refine AL.step rfl rfl rfl qRA18 ?_
      refine AL.nil ?_
      refine ⟨(i + 1, y), ?_, qRA21, hil, hk1, hn1, hX, ?_⟩
      · show r.bs.length - (i + 1) < r.bs.length - i
        omega
      · show OwnB H _ y (noB (r.bs.take (i + 1)) w)
        rw [htn, noB_snoc, if_neg hd]
        exact hy
  · refine AW.exit ?_
    refine hK _ _ ?_; clear hK1 K1 hK K
    refine AW.seq_region (fun K hK => ?_)
    refine AL.step rfl rfl rfl qRA19 ?_
    refine AL.step rfl rfl rfl qRA18 ?_
    refine AL.nil_then (hK _ _ ?_); clear hK K
    have hil : i = r.bs.length := by have := of_decide_eq_false hc; omega
    rw [hil, List.take_length] at hy
    generalize noB r.bs w = q at hy ⊢
    cases hy with
    | nil => exact AW.ret (RetQ.sub (.inr rfl) rfl SubV.nil_vec ⟨rfl, hk1⟩)
    | @sl D _ hD hyH =>
      have hql := flatB_length q
      refine AW.ret (RetQ.frz (l := D) (t := 71) (cs := flatB q) (.inr rfl) rfl hyH (Frz.sl (by omega)) ⟨?_, Keep.del hk1 (by omega)⟩)
      rw [List.drop_zero, List.take_of_length_le (by omega)]
end Go.Proofs.Ytjiifddmcmbbnaa
