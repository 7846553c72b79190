/- The walks of the roster's members: comparisons, the search. -/
import Derived.Test.YtjiifddmcmbbnaaT
namespace Go.Proofs.Ytjiifddmcmbbnaa
open Go.Ax
theorem qRA1 {p : Prop} (h : p := by (conv => lhs; whnf); all_goals exact rfl) : p := h
theorem qRA2 {p : Prop} (h : p := by first | exact AStepD.neq rfl rfl rfl | exact AStepD.str_neq rfl rfl rfl | exact (AStepD.ptr_nil tok (.inl ⟨_, _, rfl⟩) rfl rfl rfl).2 rfl | exact (AStepD.nil_nil tok rfl rfl rfl rfl).2 rfl | exact (AStepD.bool_eq tok rfl rfl rfl rfl).2 rfl | exact (AStepD.iface_nil tok rfl rfl rfl rfl).2 rfl | exact (AStepD.nilIface_nil tok rfl rfl rfl rfl).2 rfl) : p := h
theorem qRA3 {p : Prop} (h : p := by exact AStepD.lss rfl rfl rfl) : p := h
theorem qRA4 {p : Prop} (h : p := by first | with_reducible assumption | exact ones_nil | (simp only [List.forall_mem_cons, List.not_mem_nil, false_implies, implies_true, and_true, one_v, one_ptr, one_ip, one_sl, one_slc, one_vec, one_map, one_func, one_iface, Value.oneCell', *]; done) | (simp [AV.one, Value.oneCell', *]; done)) : p := h
theorem qRA5 {p : Prop} (h : p := by first | exact AStepD.fieldAddr' tok rfl rfl rfl rfl rfl rfl rfl (by first | exact Nat.zero_add 0 | exact (show _ + 0 = _ from (by simp only [Nat.reduceAdd]; exact rfl)) | exact (show _ + 0 = _ + 0 from rfl) | exact rfl) | exact AStepD.fieldAddr_ip' tok rfl rfl rfl rfl rfl rfl rfl List.drop_zero) : p := h
theorem qRA6 {p : Prop} (h : p := by first | with_reducible assumption | (simp (disch := (first | omega | (refine id ?_; simp only [za, zb, zc]; done) | (simp only [za, zb, zc]; omega))) only [z1, z2, z3, z4, z5, z6, z7, z8, ne_eq, *]; done) | (simp (disch := (first | omega | (refine id ?_; simp only [za, zb, zc]; done) | (simp only [za, zb, zc]; omega))) only [z1, z2, z3, z4, z5, z6, z7, z8, ne_eq, *]; exact rfl)) : p := h
theorem qRA7 {p : Prop} (h : p := by first | with_reducible assumption | exact rfl) : p := h
theorem qRA8 {p : Prop} (h : p := by repeat' (first | exact Keep.refl _ | apply Keep.new | apply Keep.set | apply Keep.del | (first | omega | (simp only [za, zb, zc]; omega)))) : p := h
theorem qRA9 {p : Prop} (h : p := by (conv => lhs; whnf); all_goals first | exact rfl | (simp; done) | (simp; omega)) : p := h
theorem qRA10 {p : Prop} (h : p := by first | exact IntWalk.i64_in _ (by omega) | exact rfl) : p := h
theorem qRA11 {p : Prop} (h : p := by first | omega | (simp; done) | (simp; omega) | (simp only [over, List.length_append, List.length_take, List.length_drop, *]; omega) | (simp_all; done) | (simp_all; omega)) : p := h
theorem qRA12 {p : Prop} (h : p := by first | exact Nat.le_of_ble_eq_true rfl | (simp; done) | (simp; omega) | (simp_all; omega)) : p := h
theorem qRA13 {p : Prop} (h : p := by first | exact rfl | exact (Int.toNat_of_nonneg (by omega)).symm) : p := h
theorem qRA14 {p : Prop} (h : p := by first | (simp only [Nat.zero_add, Nat.zero_mul, Nat.sub_zero, Nat.add_zero]; exact rfl) | exact rfl) : p := h
theorem qRA15 {p : Prop} (h : p := by first | with_reducible assumption | (simp only [List.take_succ_cons, List.take_zero, List.drop_succ_cons, List.drop_zero]; exact rfl) | exact rfl) : p := h
theorem qRA16 {p : Prop} (h : p := by first | exact AStepD.eql rfl rfl rfl | exact AStepD.str_eql rfl rfl rfl | exact (AStepD.ptr_nil tok (.inl ⟨_, _, rfl⟩) rfl rfl rfl).1 rfl | exact (AStepD.nil_nil tok rfl rfl rfl rfl).1 rfl | exact (AStepD.bool_eq tok rfl rfl rfl rfl).1 rfl | exact (AStepD.iface_nil tok rfl rfl rfl rfl).1 rfl | exact (AStepD.nilIface_nil tok rfl rfl rfl rfl).1 rfl) : p := h
theorem qRA17 {p : Prop} (h : p := by intro h; first | (rw [h]; done) | (rw [h]; rfl) | (simp [h]; done) | (simp_all; done) | exact guard_true h) : p := h
theorem qRA18 {p : Prop} (h : p := by exact AStepD.assign' rfl qRA1) : p := h
theorem qRA19 {p : Prop} (h : p := by exact AStepD.move' rfl qRA1) : p := h
theorem qRA20 {p : Prop} (h : p := by first | exact AStepD.len_str tok rfl rfl rfl rfl | exact AStepD.len_sl tok rfl qRA1 (by first | exact IsSl.vec | exact IsSl.sl | exact IsSl.slc | exact IsSl.nil | with_reducible assumption) rfl rfl | exact AStepD.len_arr tok rfl rfl rfl) : p := h
theorem qRA21 {p : Prop} (h : p := by repeat' (first | exact SubT.nil _ | refine SubT.cons_eq qRA9 ?_)) : p := h
theorem qRA22 {p : Prop} (h : p := by first | exact AStepD.add rfl rfl rfl qRA10 | exact AStepD.str_add rfl rfl rfl (by omega)) : p := h
theorem qRA23 {p : Prop} (h : p := by first | with_reducible assumption | exact (by assumption : ∀ o, Src _ _ _ _ _) _ | exact Src.vec | exact Src.nil | exact Src.all qRA6 qRA11 | exact Src.sl qRA6 qRA12) : p := h
theorem qRA24 {p : Prop} (h : p := by first | exact AStepD.indexAddr_vec' tok rfl rfl rfl rfl rfl rfl (show _ = 5 from rfl) qRA13 qRA11 | exact AStepD.indexAddr_sl' tok rfl rfl rfl rfl rfl rfl (show _ = 5 from rfl) qRA13 qRA11 qRA14 | exact AStepD.indexAddr_arr' tok rfl rfl rfl rfl rfl rfl (show _ = 5 from rfl) qRA13 qRA11 qRA14) : p := h
theorem qRA25 {p : Prop} (h : p := by first | exact AStepD.load_agg tok rfl rfl rfl qRA6 rfl (show _ = 5 from rfl) qRA12 qRA15 | exact AStepD.load_agg_ip tok rfl rfl rfl rfl (show _ = 5 from rfl) qRA12 qRA15) : p := h
theorem qRA26 {p : Prop} (h : p := by exact (fun hb => by (try (apply AStepD.uncond 46 rfl (gpf hb))); exact qRA16)) : p := h
theorem qRA27 {p : Prop} (h : p := by exact (fun _ hb => by (try (apply AStepD.uncond 46 rfl (gpf hb))); exact qRA16)) : p := h
theorem qRA28 {p : Prop} (h : p := by first | exact AStepD.pick_true' rfl rfl qRA1 | exact AStepD.pick_false' rfl rfl qRA1 | exact AStepD.and rfl _ _ _ rfl rfl qRA17 rfl | exact AStepD.and' rfl _ _ rfl rfl rfl | exact AStepD.or rfl _ _ _ rfl rfl rfl qRA17 | exact AStepD.or' rfl _ _ rfl rfl rfl) : p := h
theorem qRA29 {p : Prop} (h : p := by first | exact AStepD.convert_int tok rfl rfl rfl rfl rfl qRA10 | exact AStepD.convert_str tok rfl rfl rfl rfl rfl rfl | exact AStepD.convert_bytes_own tok rfl rfl rfl rfl rfl rfl qRA6 qRA11 | exact AStepD.bytes_str tok rfl rfl qRA23 rfl qRA11 rfl rfl rfl rfl rfl rfl) : p := h
theorem qRA30 {p : Prop} (h : p := by exact (fun hb => by (try (apply AStepD.uncond 2 rfl (gpf hb))); exact qRA19)) : p := h
theorem qRA31 {p : Prop} (h : p := by exact (fun _ hb => by (try (apply AStepD.uncond 2 rfl (gpf hb))); exact qRA19)) : p := h
theorem qRA32 {p : Prop} (h : p := by exact (fun hb => by (try (apply AStepD.uncond 0 rfl (gpf hb))); exact qRA19)) : p := h
theorem qRA33 {p : Prop} (h : p := by exact (fun _ hb => by (try (apply AStepD.uncond 0 rfl (gpf hb))); exact qRA19)) : p := h
theorem qRA34 {p : Prop} (h : p := by exact (fun hb => by (try (apply AStepD.uncond 9 rfl (gpf hb))); exact qRA19)) : p := h
theorem qRA35 {p : Prop} (h : p := by exact (fun _ hb => by (try (apply AStepD.uncond 9 rfl (gpf hb))); exact qRA19)) : p := h
theorem qRA36 {p : Prop} (h : p := by exact (fun hb => by (try (apply AStepD.uncond 41 rfl (gpf hb))); (try (apply AStepD.uncond 42 rfl (gpf hb))); exact qRA24)) : p := h
theorem qRA37 {p : Prop} (h : p := by exact (fun _ hb => by (try (apply AStepD.uncond 41 rfl (gpf hb))); (try (apply AStepD.uncond 42 rfl (gpf hb))); exact qRA24)) : p := h
theorem qRA38 {p : Prop} (h : p := by exact (fun hb => by (try (apply AStepD.uncond 43 rfl (gpf hb))); exact qRA25)) : p := h
theorem qRA39 {p : Prop} (h : p := by exact (fun _ hb => by (try (apply AStepD.uncond 43 rfl (gpf hb))); exact qRA25)) : p := h
theorem qRA40 {p : Prop} (h : p := by exact (fun hb => by (try (apply AStepD.uncond 1 rfl (gpf hb))); exact qRA19)) : p := h
theorem qRA41 {p : Prop} (h : p := by exact (fun _ hb => by (try (apply AStepD.uncond 1 rfl (gpf hb))); exact qRA19)) : p := h
set_option linter.unusedSimpArgs false
set_option linter.unusedVariables false

/-- A member. -/
structure Mem where
  i : Int
  ma : Int
  co : Int
  op : Int
  fa : Int
def Mem.cells (m : Mem) : List AV := [.v (.int .i64 m.i), .v (.int .i64 m.ma), .v (.int .i64 m.co), .v (.int .i64 m.op), .v (.int .i64 m.fa)]
theorem Mem.one (m : Mem) : ∀ z ∈ m.cells, z.one = true := by simp [Mem.cells, AV.one, Value.oneCell']
theorem Mem.plain (m : Mem) : ∀ z ∈ m.cells, Plain z := by
  simp only [Mem.cells, List.forall_mem_cons]
  exact ⟨.v _, .v _, .v _, .v _, .v _, fun _ h => absurd h List.not_mem_nil⟩
def flat (ms : List Mem) : List AV := ms.flatMap Mem.cells
theorem flat_length (ms : List Mem) : (flat ms).length = ms.length * 5 := by
  induction ms with
  | nil => rfl
  | cons m r ih => simp only [flat, List.flatMap_cons, List.length_append] at ih ⊢; rw [ih]; simp [Mem.cells]; omega
theorem flat_append (a b : List Mem) : flat (a ++ b) = flat a ++ flat b := by simp [flat]
theorem flat_one (m : Mem) : flat [m] = m.cells := by simp [flat]
theorem flat_cons (m : Mem) (r : List Mem) : flat (m :: r) = m.cells ++ flat r := by simp [flat]
theorem flat_take (ms : List Mem) (i : Nat) : (flat ms).take (i * 5) = flat (ms.take i) := by
  induction ms generalizing i with
  | nil => simp [flat]
  | cons m r ih =>
    cases i with
    | zero => simp [flat]
    | succ i => rw [flat_cons, List.take_succ_cons, flat_cons, ← ih, List.take_append, List.take_of_length_le (by simp [Mem.cells]; omega), show (i + 1) * 5 - m.cells.length = i * 5 by simp [Mem.cells]; omega]
theorem flat_drop (ms : List Mem) (i : Nat) : (flat ms).drop (i * 5) = flat (ms.drop i) := by
  induction ms generalizing i with
  | nil => simp [flat]
  | cons m r ih =>
    cases i with
    | zero => simp
    | succ i => rw [flat_cons, List.drop_succ_cons, ← ih, List.drop_append, List.drop_of_length_le (by simp [Mem.cells]; omega), List.nil_append, show (i + 1) * 5 - m.cells.length = i * 5 by simp [Mem.cells]; omega]
theorem flat_at (ms : List Mem) (i : Nat) (h : i < ms.length) : ((flat ms).drop (i * 5)).take 5 = ms[i].cells := by
  rw [flat_drop, List.drop_eq_getElem_cons h, flat_cons, List.take_append_of_le_length (by simp [Mem.cells]), List.take_of_length_le (by simp [Mem.cells])]
theorem flat_ones (ms : List Mem) : ∀ z ∈ flat ms, z.one = true := by
  intro z hz
  obtain ⟨m, _, hm⟩ := List.mem_flatMap.1 hz
  exact m.one z hm

theorem nan_calls (H : AHeap) (a : Int) : ACalls Try.prog 44 [.v (.int .i64 a)] H (fun r H' => r = .v (.bool false) ∧ H' = H) := by
  refine ACalls.of_body tok Try.func44 rfl Try.ntmps44 (Nat.le_of_ble_eq_true rfl) ?_
  refine AW.seq_region (fun K hK => ?_)
  refine AL.step rfl rfl rfl qRA18 ?_
  refine AL.nil_then (hK _ _ ?_); clear hK K
  refine AW.seq_region (fun K hK => ?_)
  refine AL.step rfl rfl rfl qRA19 ?_
  refine AL.step rfl rfl rfl qRA19 ?_
  refine AL.step rfl rfl rfl qRA2 ?_
  refine AL.step rfl rfl rfl qRA18 ?_
  refine AL.nil_then (hK _ _ ?_); clear hK K
  refine AW.ret (RetQ.mk (.inr rfl) (retA_tmp rfl qRA1 retA_nil) ⟨by simp [tupA], rfl⟩)

def cmpI (a b : Int) : Int := if a < b then -1 else if b < a then 1 else 0

theorem compare_calls (H : AHeap) (a b : Int) : ACalls Try.prog 40 [.v (.int .i64 a), .v (.int .i64 b)] H (fun r H' => r = .v (.int .i64 (cmpI a b)) ∧ H' = H) := by
  refine ACalls.of_body tok Try.func40 rfl Try.ntmps40 (Nat.le_of_ble_eq_true rfl) ?_
  refine AW.seq_region (fun K hK => ?_)
  refine AL.step rfl rfl rfl qRA18 ?_
  refine AL.nil_then (hK _ _ ?_); clear hK K
  refine AW.seq_region (fun K hK => ?_)
  refine AL.step rfl rfl rfl qRA19 ?_
  refine AL.step rfl rfl rfl (by exact AStepD.callf rfl en44 rfl (nan_calls _ a)) ?_
  refine AL.step rfl rfl rfl qRA18 ?_
  refine AL.nil_then (hK _ _ ?_); clear hK K
  refine AW.seq_region (fun K hK => ?_)
  refine AL.step rfl rfl rfl qRA19 ?_
  refine AL.step rfl rfl rfl (by exact AStepD.callf rfl en44 rfl (nan_calls _ b)) ?_
  refine AL.step rfl rfl rfl qRA18 ?_
  refine AL.nil_then (hK _ _ ?_); clear hK K
  refine AW.seq_k (fun K hK => ?_)
  refine AW.seq_region (fun K hK => ?_)
  refine AL.step rfl rfl rfl qRA19 ?_
  refine AL.nil_then (hK _ _ ?_); clear hK K
  refine AW.cond_false rfl rfl (AW.skip (hK _ _ ?_)); clear hK K
  refine AW.seq_k (fun K hK => ?_)
  refine AW.seq_region (fun K hK => ?_)
  refine AL.step rfl rfl rfl qRA19 ?_
  refine AL.nil_then (hK _ _ ?_); clear hK K
  refine AW.cond_false rfl rfl (AW.skip (hK _ _ ?_)); clear hK K
  refine AW.seq_k (fun K hK => ?_)
  refine AW.seq_region (fun K hK => ?_)
  refine AL.step rfl rfl rfl qRA19 ?_
  refine AL.step rfl rfl rfl qRA19 ?_
  refine AL.step rfl rfl rfl qRA3 ?_
  refine AL.nil_then (hK _ _ ?_); clear hK K
  refine AW.cond _ rfl (fun hc => ?_) (fun hc => ?_)
  · refine AW.seq_region (fun K hK => ?_)
    refine AL.step rfl rfl rfl qRA18 ?_
    refine AL.nil_then (hK _ _ ?_); clear hK K
    have hc := of_decide_eq_true hc
    refine AW.ret (RetQ.mk (.inr rfl) (retA_tmp rfl qRA1 retA_nil) ⟨by simp [cmpI, hc, tupA], rfl⟩)
  · refine AW.skip (hK _ _ ?_); clear hK K
    have hc := of_decide_eq_false hc
    refine AW.seq_k (fun K hK => ?_)
    refine AW.seq_region (fun K hK => ?_)
    refine AL.step rfl rfl rfl qRA19 ?_
    refine AL.step rfl rfl rfl qRA19 ?_
    refine AL.step rfl rfl rfl (by exact AStepD.gtr rfl rfl rfl) ?_
    refine AL.nil_then (hK _ _ ?_); clear hK K
    refine AW.cond _ rfl (fun hc2 => ?_) (fun hc2 => ?_)
    · refine AW.seq_region (fun K hK => ?_)
      refine AL.step rfl rfl rfl qRA18 ?_
      refine AL.nil_then (hK _ _ ?_); clear hK K
      have hc2 := of_decide_eq_true hc2
      refine AW.ret (RetQ.mk (.inr rfl) (retA_tmp rfl qRA1 retA_nil) ⟨by simp [cmpI, hc, hc2, tupA], rfl⟩)
    · refine AW.skip (hK _ _ ?_); clear hK K
      have hc2 := of_decide_eq_false hc2
      refine AW.seq_region (fun K hK => ?_)
      refine AL.step rfl rfl rfl qRA18 ?_
      refine AL.nil_then (hK _ _ ?_); clear hK K
      refine AW.ret (RetQ.mk (.inr rfl) (retA_tmp rfl qRA1 retA_nil) ⟨by simp [cmpI, hc, hc2, tupA], rfl⟩)

theorem cmp_calls (H : AHeap) (m : Mem) (b : Int) : ACalls Try.prog 39 [.agg m.cells, .v (.int .i64 b)] H (fun r H' => r = .v (.int .i64 (cmpI m.i b)) ∧ H' = H) := by
  refine ACalls.quiet_keep ?_ (.v _)
  refine ACalls.lts fun hlt => ?_
  have hone := m.one
  refine ACalls.of_body tok Try.func39 rfl Try.ntmps39 (Nat.le_of_ble_eq_true rfl) ?_
  refine AW.seq_region (fun K hK => ?_)
  refine AL.step rfl rfl rfl (by exact AStepD.box rfl qRA1 qRA4) ?_
  refine AL.step rfl rfl rfl qRA18 ?_
  refine AL.nil_then (hK _ _ ?_); clear hK K
  refine AW.seq_region (fun K hK => ?_)
  refine AL.step rfl rfl rfl qRA5 ?_
  refine AL.step rfl rfl rfl (by first | exact AStepD.load_one tok rfl rfl rfl rfl qRA6 rfl qRA7 | exact AStepD.load_one_ip tok rfl rfl rfl rfl rfl qRA7) ?_
  refine AL.step rfl rfl rfl qRA19 ?_
  refine AL.step rfl rfl rfl (by exact AStepD.callf rfl en40 rfl (compare_calls _ m.i b)) ?_
  refine AL.step rfl rfl rfl qRA18 ?_
  refine AL.nil_then (hK _ _ ?_); clear hK K
  refine AW.ret (RetQ.mk (.inr rfl) (retA_tmp rfl qRA1 retA_nil) ⟨rfl, qRA8⟩)

/-- The members of a roster, at L. -/
inductive MemsAt (H : AHeap) (L : Nat) : AV → List Mem → Prop
  | nil : MemsAt H L (.v (.slice none 0 0)) []
  | sl {ms : List Mem} (h : H.get L = some (.cells 34 (flat ms))) : MemsAt H L (.sl L 0 ms.length 5) ms
theorem MemsAt.mk {H : AHeap} {L k : Nat} {ms : List Mem} {cs : List AV} (h : H.get L = some (.cells 34 cs)) (hc : cs = flat ms) (hk : k = ms.length) : MemsAt H L (.sl L 0 k 5) ms := by
  subst hc; subst hk; exact .sl h
theorem MemsAt.isSl {H : AHeap} {L : Nat} {x : AV} {ms : List Mem} (h : MemsAt H L x ms) : IsSl x ms.length := by
  cases h with
  | nil => exact .nil
  | sl => exact .sl
theorem MemsAt.at {H : AHeap} {L : Nat} {x : AV} {ms : List Mem} (h : MemsAt H L x ms) {i : Nat} (hi : i < ms.length) : x = .sl L 0 ms.length 5 ∧ H.get L = some (.cells 34 (flat ms)) := by
  cases h with
  | nil => simp at hi
  | sl h => exact ⟨rfl, h⟩
theorem MemsAt.one {H : AHeap} {L : Nat} {x : AV} {ms : List Mem} (h : MemsAt H L x ms) : x.one = true := by cases h <;> rfl
theorem MemsAt.same {H H' : AHeap} {L : Nat} {x : AV} {ms : List Mem} (h : MemsAt H L x ms) (hk : H'.get L = H.get L) : MemsAt H' L x ms := by
  cases h with
  | nil => exact .nil
  | sl h => exact .sl (hk.trans h)

/-- Where a member is, or would be. -/
def pos (ms : List Mem) (w : Int) : Nat :=
  match ms with
  | [] => 0
  | m :: r => if m.i < w then pos r w + 1 else 0
def has (ms : List Mem) (w : Int) : Bool := ms.any fun m => decide (m.i = w)
def Sorted (ms : List Mem) : Prop := ms.Pairwise fun a b => a.i < b.i
theorem Sorted.lt {ms : List Mem} (h : Sorted ms) {a b : Nat} (hb : b < ms.length) (hab : a < b) : (ms[a]'(by omega)).i < ms[b].i := List.pairwise_iff_getElem.1 h a b (by omega) hb hab
theorem pos_eq : ∀ (ms : List Mem) (w : Int) (k : Nat), k ≤ ms.length → (∀ (j : Nat) (h : j < ms.length), j < k → ms[j].i < w) → (∀ h : k < ms.length, w ≤ ms[k].i) → pos ms w = k
  | [], w, k, hk, _, _ => by simp at hk; subst hk; rfl
  | m :: r, w, 0, _, _, h2 => by
    have := h2 (by simp)
    simp only [List.getElem_cons_zero] at this
    simp only [pos]
    rw [if_neg (by omega)]
  | m :: r, w, k + 1, hk, h1, h2 => by
    have h0 := h1 0 (by simp) (by omega)
    simp only [List.getElem_cons_zero] at h0
    simp only [pos, if_pos h0]
    rw [pos_eq r w k (by simpa using hk) (fun j hj hjk => h1 (j + 1) (by simpa using hj) (by omega)) (fun h => h2 (by simpa using h))]
theorem pos_le (ms : List Mem) (w : Int) : pos ms w ≤ ms.length := by
  induction ms with
  | nil => exact Nat.le_refl _
  | cons m r ih => simp only [pos]; split <;> simp; omega
theorem pos_lt : ∀ (ms : List Mem) (w : Int) (j : Nat) (h : j < ms.length), j < pos ms w → ms[j].i < w
  | [], _, _, h, _ => by simp at h
  | m :: r, w, j, h, hj => by
    simp only [pos] at hj
    split at hj
    · cases j with
      | zero => assumption
      | succ j => exact pos_lt r w j (by simpa using h) (by omega)
    · omega
theorem pos_ge : ∀ (ms : List Mem) (w : Int) (h : pos ms w < ms.length), w ≤ ms[pos ms w].i
  | [], _, h => by simp at h
  | m :: r, w, h => by
    by_cases hm : m.i < w
    · have e : pos (m :: r) w = pos r w + 1 := by simp [pos, hm]
      simp only [e, List.getElem_cons_succ]
      exact pos_ge r w (by rw [e] at h; simpa using h)
    · have e : pos (m :: r) w = 0 := by simp [pos, hm]
      simp only [e, List.getElem_cons_zero]
      omega
/-- Where it stands, if it is there. -/
theorem has_at {ms : List Mem} (hs : Sorted ms) (w : Int) : has ms w = true ↔ ∃ h : pos ms w < ms.length, ms[pos ms w].i = w := by
  constructor
  · intro h
    simp only [has, List.any_eq_true, decide_eq_true_eq] at h
    obtain ⟨m, hm, he⟩ := h
    obtain ⟨j, hj, rfl⟩ := List.mem_iff_getElem.1 hm
    have : pos ms w = j := pos_eq ms w j (by omega) (fun j' h' hlt => by have := hs.lt hj hlt; omega) (fun _ => by omega)
    subst this
    exact ⟨hj, he⟩
  · rintro ⟨h, he⟩
    simp only [has, List.any_eq_true, decide_eq_true_eq]
    exact ⟨_, List.getElem_mem h, he⟩

theorem half (i j : Nat) (h : i + j < 1000000) : IntKind.i64.wrap ((IntKind.u64.wrap ((i : Int) + (j : Int))).fdiv (2 ^ min (Int.toNat 1) IntKind.u64.bits)) = (((i + j) / 2 : Nat) : Int) := by
  have h1 : IntKind.u64.wrap ((i : Int) + (j : Int)) = (i : Int) + j := by
    simp [IntKind.wrap, IntKind.signed, IntKind.bits]
    omega
  have h2 : min (Int.toNat 1) IntKind.u64.bits = 1 := by decide
  rw [h1, h2, Int.fdiv_eq_ediv_of_nonneg _ (by decide), IntKind.wrap_i64]
  omega
theorem search_calls (H : AHeap) (L : Nat) (x : AV) (ms : List Mem) (w : Int) (hx : MemsAt H L x ms) (hs : Sorted ms) (hl : ms.length ≤ 1000) :
    ACalls Try.prog 38 [x, .v (.int .i64 w), .func (.func 39) []] H (fun r H' => r = .tup [.v (.int .i64 (pos ms w)), .v (.bool (has ms w))] ∧ H' = H) := by
  have hsl := hx.isSl
  have hfl := flat_length ms
  refine ACalls.quiet_keep ?_ (.tup (by simp only [List.forall_mem_cons]; exact ⟨.v _, .v _, fun _ h => absurd h List.not_mem_nil⟩))
  refine ACalls.lts fun hlt => ?_
  refine ACalls.of_body tok Try.func38 rfl Try.ntmps38 (Nat.le_of_ble_eq_true rfl) ?_
  refine AW.seq_region (fun K hK => ?_)
  refine AL.step rfl rfl rfl qRA18 ?_
  refine AL.step rfl rfl rfl qRA18 ?_
  refine AL.nil_then (hK _ _ ?_); clear hK K
  refine AW.seq_region (fun K hK => ?_)
  refine AL.step rfl rfl rfl qRA19 ?_
  refine AL.step rfl rfl rfl qRA20 ?_
  refine AL.step rfl rfl rfl qRA18 ?_
  refine AL.nil_then (hK _ _ ?_); clear hK K
  refine AW.seq_region (fun K hK => ?_)
  refine AL.step rfl rfl rfl qRA19 ?_
  refine AL.step rfl rfl rfl qRA18 ?_
  refine AL.step rfl rfl rfl qRA18 ?_
  refine AL.nil_then (hK _ _ ?_); clear hK K
  refine AW.seq_k (fun K hK => ?_)
  refine AW.block ?_
  refine AW.loop_at (ι := Nat × Nat) (fun y => [(9, .v (.int .i64 y.1)), (10, .v (.int .i64 y.2)), (8, .v (.int .i64 ms.length)), (0, x), (1, .v (.int .i64 w)), (2, .func (.func 39) [])])
    (fun y H' => y.1 ≤ y.2 ∧ y.2 ≤ ms.length ∧ (∀ (j : Nat) (h : j < ms.length), j < y.1 → ms[j].i < w) ∧ (∀ (j : Nat) (h : j < ms.length), y.2 ≤ j → w ≤ ms[j].i) ∧ H' = H) (fun y => y.2 - y.1) (0, ms.length) qRA21
    ⟨Nat.zero_le _, Nat.le_refl _, fun j h h' => by omega, fun j h h' => by omega, rfl⟩ ?_
  rintro ⟨i, j⟩ H1 ⟨hij, hjn, hlo, hhi, rfl⟩
  dsimp only at hij hjn hlo hhi ⊢
  refine AW.seq_k (fun K1 hK1 => ?_)
  refine AW.seq_region (fun K hK => ?_)
  refine AL.step rfl rfl rfl qRA19 ?_
  refine AL.step rfl rfl rfl qRA19 ?_
  refine AL.step rfl rfl rfl qRA3 ?_
  refine AL.nil_then (hK _ _ ?_); clear hK K
  refine AW.cond _ rfl (fun hc => ?_) (fun hc => ?_)
  · refine AW.skip (hK1 _ _ ?_); clear hK1 K1
    have hij : i < j := by have := of_decide_eq_true hc; omega
    have hm : (i + j) / 2 < ms.length := by omega
    obtain ⟨rfl, hH⟩ := hx.at hm
    have hfa := flat_at ms _ hm
    have hone := (ms[(i + j) / 2]).one
    refine AW.block ?_
    refine AW.seq_region (fun K hK => ?_)
    refine AL.step rfl rfl rfl qRA19 ?_
    refine AL.step rfl rfl rfl qRA19 ?_
    refine AL.step rfl rfl rfl qRA22 ?_
    refine AL.step rfl rfl rfl qRA29 ?_
    refine AL.step rfl rfl rfl (by exact AStepD.shr rfl rfl rfl (by omega) rfl) ?_
    refine AL.step rfl rfl rfl qRA29 ?_
    refine AL.step rfl rfl rfl qRA18 ?_
    refine AL.nil_then (hK _ _ ?_); clear hK K
    refine AW.sub (T' := [(11, .v (.int .i64 ((i + j) / 2 : Nat))), (9, .v (.int .i64 i)), (10, .v (.int .i64 j)), (8, .v (.int .i64 ms.length)), (0, .sl L 0 ms.length 5), (1, .v (.int .i64 w)), (2, .func (.func 39) [])]) (by rw [half i j (by omega)]; exact qRA21) ?_
    refine AW.seq_region (fun K hK => ?_)
    refine AL.step rfl rfl rfl qRA19 ?_
    refine AL.step rfl rfl rfl qRA19 ?_
    refine AL.step rfl rfl rfl qRA19 ?_
    refine AL.step rfl rfl rfl qRA24 ?_
    refine AL.step rfl rfl rfl qRA25 ?_
    refine AL.step rfl rfl rfl qRA19 ?_
    refine AL.step rfl rfl rfl (by exact AStepD.callv rfl rfl en39 rfl (cmp_calls _ ms[(i + j) / 2] w)) ?_
    refine AL.step rfl rfl rfl qRA3 ?_
    refine AL.nil_then (hK _ _ ?_); clear hK K
    refine AW.cond _ rfl (fun hc2 => ?_) (fun hc2 => ?_)
    · have hlt2 : ms[(i + j) / 2].i < w := by
        have := of_decide_eq_true hc2
        unfold cmpI at this
        split at this
        · assumption
        · split at this <;> omega
      refine AW.region ?_
      refine AL.step rfl rfl rfl qRA19 ?_
      refine AL.step rfl rfl rfl qRA22 ?_
      refine AL.step rfl rfl rfl qRA18 ?_
      refine AL.nil ?_
      refine ⟨((i + j) / 2 + 1, j), ?_, qRA21, ?_, hjn, ?_, hhi, rfl⟩
      · show j - ((i + j) / 2 + 1) < j - i
        omega
      · show (i + j) / 2 + 1 ≤ j
        omega
      · intro q hq hlt3
        have hlt3 : q < (i + j) / 2 + 1 := hlt3
        by_cases e : q = (i + j) / 2
        · subst e; exact hlt2
        · have := hs.lt hm (a := q) (by omega)
          omega
    · have hge : w ≤ ms[(i + j) / 2].i := by
        have := of_decide_eq_false hc2
        unfold cmpI at this
        split at this
        · omega
        · omega
      refine AW.region ?_
      refine AL.step rfl rfl rfl qRA19 ?_
      refine AL.step rfl rfl rfl qRA18 ?_
      refine AL.nil ?_
      refine ⟨(i, (i + j) / 2), ?_, qRA21, ?_, ?_, hlo, ?_, rfl⟩
      · show (i + j) / 2 - i < j - i
        omega
      · show i ≤ (i + j) / 2
        omega
      · show (i + j) / 2 ≤ ms.length
        omega
      · intro q hq hle
        have hle : (i + j) / 2 ≤ q := hle
        by_cases e : q = (i + j) / 2
        · subst e; exact hge
        · have := hs.lt hq (a := (i + j) / 2) (by omega)
          omega
  · refine AW.exit ?_
    refine hK _ _ ?_; clear hK1 K1 hK K
    have hij : i = j := by have := of_decide_eq_false hc; omega
    subst hij
    have hp : pos ms w = i := pos_eq ms w i hjn (fun j h hj => hlo j h hj) (fun h => hhi i h (Nat.le_refl _))
    by_cases hin : i < ms.length
    · obtain ⟨rfl, hH⟩ := hx.at hin
      have hfa := flat_at ms _ hin
      have hone := (ms[i]).one
      have hb : decide ((i : Int) < ms.length) = true := by simp; omega
      refine AW.sub (T' := [(9, .v (.int .i64 i)), (8, .v (.int .i64 ms.length)), (0, .sl L 0 ms.length 5), (1, .v (.int .i64 w)), (2, .func (.func 39) [])]) qRA21 ?_
      refine AW.seq_region (fun K hK => ?_)
      refine AL.step rfl rfl rfl qRA19 ?_
      refine AL.step rfl rfl rfl qRA19 ?_
      refine AL.step rfl rfl rfl qRA19 ?_
      refine AL.step rfl rfl rfl (by exact AStepD.bool (AStepD.lss rfl rfl rfl) hb) ?_
      refine AL.step rfl rfl rfl qRA19 ?_
      first | refine AL.gstep rfl rfl rfl rfl rfl rfl rfl qRA19 ?_ | refine AL.gskip rfl rfl rfl rfl rfl rfl rfl ?_ | refine AL.gnone rfl rfl rfl rfl rfl ?_ | refine AL.gmay rfl rfl rfl rfl rfl rfl qRA30 ?_ | refine AL.gmay2 rfl rfl rfl rfl rfl rfl qRA31 ?_
      first | refine AL.gstep rfl rfl rfl rfl rfl rfl rfl qRA19 ?_ | refine AL.gskip rfl rfl rfl rfl rfl rfl rfl ?_ | refine AL.gnone rfl rfl rfl rfl rfl ?_ | refine AL.gmay rfl rfl rfl rfl rfl rfl qRA32 ?_ | refine AL.gmay2 rfl rfl rfl rfl rfl rfl qRA33 ?_
      first | refine AL.gstep rfl rfl rfl rfl rfl rfl rfl qRA19 ?_ | refine AL.gskip rfl rfl rfl rfl rfl rfl rfl ?_ | refine AL.gnone rfl rfl rfl rfl rfl ?_ | refine AL.gmay rfl rfl rfl rfl rfl rfl qRA34 ?_ | refine AL.gmay2 rfl rfl rfl rfl rfl rfl qRA35 ?_
      first | refine AL.gstep rfl rfl rfl rfl rfl rfl rfl qRA24 ?_ | refine AL.gskip rfl rfl rfl rfl rfl rfl rfl ?_ | refine AL.gnone rfl rfl rfl rfl rfl ?_ | refine AL.gmay rfl rfl rfl rfl rfl rfl qRA36 ?_ | refine AL.gmay2 rfl rfl rfl rfl rfl rfl qRA37 ?_
      first | refine AL.gstep rfl rfl rfl rfl rfl rfl rfl qRA25 ?_ | refine AL.gskip rfl rfl rfl rfl rfl rfl rfl ?_ | refine AL.gnone rfl rfl rfl rfl rfl ?_ | refine AL.gmay rfl rfl rfl rfl rfl rfl qRA38 ?_ | refine AL.gmay2 rfl rfl rfl rfl rfl rfl qRA39 ?_
      first | refine AL.gstep rfl rfl rfl rfl rfl rfl rfl qRA19 ?_ | refine AL.gskip rfl rfl rfl rfl rfl rfl rfl ?_ | refine AL.gnone rfl rfl rfl rfl rfl ?_ | refine AL.gmay rfl rfl rfl rfl rfl rfl qRA40 ?_ | refine AL.gmay2 rfl rfl rfl rfl rfl rfl qRA41 ?_
      first | refine AL.gstep rfl rfl rfl rfl rfl rfl rfl (by exact AStepD.callv rfl rfl en39 rfl (cmp_calls _ ms[i] w)) ?_ | refine AL.gskip rfl rfl rfl rfl rfl rfl rfl ?_ | refine AL.gnone rfl rfl rfl rfl rfl ?_ | refine AL.gmay rfl rfl rfl rfl rfl rfl (fun hb => by (try (apply AStepD.uncond 40 rfl (gpf hb))); (try (apply AStepD.uncond 44 rfl (gpf hb))); (try (apply AStepD.uncond 45 rfl (gpf hb))); exact (by exact AStepD.callv rfl rfl en39 rfl (cmp_calls _ ms[i] w))) ?_ | refine AL.gmay2 rfl rfl rfl rfl rfl rfl (fun _ hb => by (try (apply AStepD.uncond 40 rfl (gpf hb))); (try (apply AStepD.uncond 44 rfl (gpf hb))); (try (apply AStepD.uncond 45 rfl (gpf hb))); exact (by exact AStepD.callv rfl rfl en39 rfl (cmp_calls _ ms[i] w))) ?_
      first | refine AL.gstep rfl rfl rfl rfl rfl rfl rfl qRA16 ?_ | refine AL.gskip rfl rfl rfl rfl rfl rfl rfl ?_ | refine AL.gnone rfl rfl rfl rfl rfl ?_ | refine AL.gmay rfl rfl rfl rfl rfl rfl qRA26 ?_ | refine AL.gmay2 rfl rfl rfl rfl rfl rfl qRA27 ?_
      refine AL.step rfl rfl rfl qRA28 ?_
      refine AL.step rfl rfl rfl qRA18 ?_
      refine AL.step rfl rfl rfl qRA18 ?_
      refine AL.nil_then (hK _ _ ?_); clear hK K
      have hh : has ms w = decide (cmpI ms[i].i w = 0) := by
        have h1 := has_at hs w
        simp only [hp] at h1
        have h2 := hhi i hin (Nat.le_refl _)
        by_cases e : ms[i].i = w
        · rw [h1.2 ⟨hin, e⟩, e]; simp [cmpI]
        · have h3 : has ms w = false := by
            cases hb2 : has ms w with
            | false => rfl
            | true => exact (e (h1.1 hb2).2).elim
          rw [h3]
          symm
          rw [decide_eq_false_iff_not]
          unfold cmpI
          split
          · omega
          · split <;> omega
      refine AW.ret (RetQ.mk (.inr rfl) (retA_tmp rfl qRA1 (retA_tmp rfl qRA1 retA_nil)) ⟨?_, qRA8⟩)
      rw [hp, hh]; rfl
    · have hb : decide ((i : Int) < ms.length) = false := by simp; omega
      refine AW.seq_region (fun K hK => ?_)
      refine AL.step rfl rfl rfl qRA19 ?_
      refine AL.step rfl rfl rfl qRA19 ?_
      refine AL.step rfl rfl rfl qRA19 ?_
      refine AL.step rfl rfl rfl (by exact AStepD.bool (AStepD.lss rfl rfl rfl) hb) ?_
      refine AL.step rfl rfl rfl qRA19 ?_
      first | refine AL.gstep rfl rfl rfl rfl rfl rfl rfl qRA19 ?_ | refine AL.gskip rfl rfl rfl rfl rfl rfl rfl ?_ | refine AL.gnone rfl rfl rfl rfl rfl ?_ | refine AL.gmay rfl rfl rfl rfl rfl rfl qRA30 ?_ | refine AL.gmay2 rfl rfl rfl rfl rfl rfl qRA31 ?_
      first | refine AL.gstep rfl rfl rfl rfl rfl rfl rfl qRA19 ?_ | refine AL.gskip rfl rfl rfl rfl rfl rfl rfl ?_ | refine AL.gnone rfl rfl rfl rfl rfl ?_ | refine AL.gmay rfl rfl rfl rfl rfl rfl qRA32 ?_ | refine AL.gmay2 rfl rfl rfl rfl rfl rfl qRA33 ?_
      first | refine AL.gstep rfl rfl rfl rfl rfl rfl rfl qRA19 ?_ | refine AL.gskip rfl rfl rfl rfl rfl rfl rfl ?_ | refine AL.gnone rfl rfl rfl rfl rfl ?_ | refine AL.gmay rfl rfl rfl rfl rfl rfl qRA34 ?_ | refine AL.gmay2 rfl rfl rfl rfl rfl rfl qRA35 ?_
      first | refine AL.gstep rfl rfl rfl rfl rfl rfl rfl qRA24 ?_ | refine AL.gskip rfl rfl rfl rfl rfl rfl rfl ?_ | refine AL.gnone rfl rfl rfl rfl rfl ?_ | refine AL.gmay rfl rfl rfl rfl rfl rfl qRA36 ?_ | refine AL.gmay2 rfl rfl rfl rfl rfl rfl qRA37 ?_
      first | refine AL.gstep rfl rfl rfl rfl rfl rfl rfl qRA25 ?_ | refine AL.gskip rfl rfl rfl rfl rfl rfl rfl ?_ | refine AL.gnone rfl rfl rfl rfl rfl ?_ | refine AL.gmay rfl rfl rfl rfl rfl rfl qRA38 ?_ | refine AL.gmay2 rfl rfl rfl rfl rfl rfl qRA39 ?_
      first | refine AL.gstep rfl rfl rfl rfl rfl rfl rfl qRA19 ?_ | refine AL.gskip rfl rfl rfl rfl rfl rfl rfl ?_ | refine AL.gnone rfl rfl rfl rfl rfl ?_ | refine AL.gmay rfl rfl rfl rfl rfl rfl qRA40 ?_ | refine AL.gmay2 rfl rfl rfl rfl rfl rfl qRA41 ?_
      first | refine AL.gstep rfl rfl rfl rfl rfl rfl rfl (by fail) ?_ | refine AL.gskip rfl rfl rfl rfl rfl rfl rfl ?_ | refine AL.gnone rfl rfl rfl rfl rfl ?_ | refine AL.gmay rfl rfl rfl rfl rfl rfl (fun hb => by (try (apply AStepD.uncond 40 rfl (gpf hb))); (try (apply AStepD.uncond 44 rfl (gpf hb))); (try (apply AStepD.uncond 45 rfl (gpf hb))); exact (by fail)) ?_ | refine AL.gmay2 rfl rfl rfl rfl rfl rfl (fun _ hb => by (try (apply AStepD.uncond 40 rfl (gpf hb))); (try (apply AStepD.uncond 44 rfl (gpf hb))); (try (apply AStepD.uncond 45 rfl (gpf hb))); exact (by fail)) ?_
      first | refine AL.gstep rfl rfl rfl rfl rfl rfl rfl qRA16 ?_ | refine AL.gskip rfl rfl rfl rfl rfl rfl rfl ?_ | refine AL.gnone rfl rfl rfl rfl rfl ?_ | refine AL.gmay rfl rfl rfl rfl rfl rfl qRA26 ?_ | refine AL.gmay2 rfl rfl rfl rfl rfl rfl qRA27 ?_
      refine AL.step rfl rfl rfl qRA28 ?_
      refine AL.step rfl rfl rfl qRA18 ?_
      refine AL.step rfl rfl rfl qRA18 ?_
      refine AL.nil_then (hK _ _ ?_); clear hK K
      have hh : has ms w = false := by
        cases hb2 : has ms w with
        | false => rfl
        | true =>
          obtain ⟨h, _⟩ := (has_at hs w).1 hb2
          rw [hp] at h
          exact (hin h).elim
      refine AW.ret (RetQ.mk (.inr rfl) (retA_tmp rfl qRA1 (retA_tmp rfl qRA1 retA_nil)) ⟨?_, qRA8⟩)
      rw [hp, hh]; rfl
end Go.Proofs.Ytjiifddmcmbbnaa
