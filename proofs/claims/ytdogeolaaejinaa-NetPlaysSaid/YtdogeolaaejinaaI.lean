/- The walks of the lists of places. -/
import Derived.Test.YtdogeolaaejinaaH
namespace Go.Proofs.Ytdogeolaaejinaa
open Go.Ax
set_option linter.unusedSimpArgs false
set_option linter.unusedVariables false

/-- The places of the messages for t. -/
def places (ms : List Msg) (t : Int) : List Nat := (ms.zipIdx.filter fun p => decide (p.1.t = t)).map (·.2)
theorem places_snoc (ms : List Msg) (m : Msg) (t : Int) : places (ms ++ [m]) t = places ms t ++ (if m.t = t then [ms.length] else []) := by
  simp only [places, List.zipIdx_append, List.filter_append, List.map_append]
  by_cases h : m.t = t <;> simp [h]
theorem places_length (ms : List Msg) (t : Int) : (places ms t).length ≤ ms.length := by
  simp only [places, List.length_map]
  exact Nat.le_trans (List.length_filter_le _ _) (by simp)

def natsA (l : List Nat) : List AV := l.map fun (n : Nat) => AV.v (.int .i64 (n : Int))
theorem natsA_length (l : List Nat) : (natsA l).length = l.length := by simp [natsA]
/-- A list of places that a function has made. -/
inductive OutInts (H0 H : AHeap) : AV → List Nat → Prop
  | nil : OutInts H0 H (.v (.slice none 0 0)) []
  | sl {L : Nat} {l : List Nat} (hn : H0.next ≤ L) (h : H.get L = some (.cells 3 (natsA l))) : OutInts H0 H (.sl L 0 l.length 1) l
theorem OutInts.mk {H0 H : AHeap} {L k : Nat} {l : List Nat} {cs : List AV} (hn : H0.next ≤ L) (h : H.get L = some (.cells 3 cs)) (hc : cs = natsA l) (hk : k = l.length) : OutInts H0 H (.sl L 0 k 1) l := by
  subst hc; subst hk
  exact .sl hn h
theorem OutInts.keep {H0 H H' : AHeap} {y : AV} {l : List Nat} (h : OutInts H0 H y l) (hlt : ∀ k q, H.get k = some q → k < H.next) (hk : Keep H H') : OutInts H0 H' y l := by
  cases h with
  | nil => exact .nil
  | sl hn h => exact .sl hn (hk.get h (hlt _ _ h))
theorem OutInts.isSl {H0 H : AHeap} {y : AV} {l : List Nat} (h : OutInts H0 H y l) : IsSl y l.length := by
  cases h with
  | nil => exact .nil
  | sl => exact .sl

theorem to_calls (H : AHeap) (n L : Nat) (ms : List Msg) (lost t : Int) (hN : NetAt H n L ms lost) (hb : ms.length ≤ 4096) :
    ACalls Try.prog 19 [.ptr n 0, .v (.int .i64 t)] H (fun r H' => OutInts H H' r (places ms t) ∧ Keep H H') := by
  obtain ⟨x0, hH, hL⟩ := hN
  have hsl := hL.isSl
  refine ACalls.lts fun hlt => ?_
  have hn := hlt _ _ hH
  refine ACalls.of_body tok Try.func19 rfl Try.ntmps19 (Nat.le_of_ble_eq_true rfl) ?_
  refine AW.seq_region (fun K hK => ?_)
  refine AL.step rfl rfl rfl (by exact AStepD.assign' rfl (by (conv => lhs; whnf); all_goals exact rfl)) ?_
  refine AL.nil_then (hK _ _ ?_); clear hK K
  refine AW.seq_region (fun K hK => ?_)
  refine AL.step rfl rfl rfl (by exact AStepD.assign' rfl (by (conv => lhs; whnf); all_goals exact rfl)) ?_
  refine AL.nil_then (hK _ _ ?_); clear hK K
  refine AW.seq_k (fun K hK => ?_)
  refine AW.seq_region (fun K hK => ?_)
  refine AL.step rfl rfl rfl (by exact AStepD.move' rfl (by (conv => lhs; whnf); all_goals exact rfl)) ?_
  refine AL.step rfl rfl rfl (by first | exact AStepD.nilCheck_ptr rfl rfl | exact AStepD.nilCheck_ip rfl rfl | exact AStepD.nilCheck_func rfl rfl) ?_
  refine AL.step rfl rfl rfl (by first | exact AStepD.fieldAddr' tok rfl rfl rfl rfl rfl rfl rfl (by first | exact Nat.zero_add 0 | exact (show _ + 0 = _ from (by simp only [Nat.reduceAdd]; exact rfl)) | exact (show _ + 0 = _ + 0 from rfl) | exact rfl) | exact AStepD.fieldAddr_ip' tok rfl rfl rfl rfl rfl rfl rfl (by (conv => lhs; whnf); all_goals exact rfl)) ?_
  refine AL.step rfl rfl rfl (by first | exact AStepD.load_one tok rfl rfl rfl rfl (by first | with_reducible assumption | (simp (disch := (first | omega | (refine id ?_; simp only [za, zb, zc]; done) | (simp only [za, zb, zc]; omega))) only [z1, z2, z3, z4, z5, z6, z7, z8, ne_eq, *]; done) | (simp (disch := (first | omega | (refine id ?_; simp only [za, zb, zc]; done) | (simp only [za, zb, zc]; omega))) only [z1, z2, z3, z4, z5, z6, z7, z8, ne_eq, *]; exact rfl)) rfl (by first | with_reducible assumption | exact rfl) | exact AStepD.load_one_ip tok rfl rfl rfl rfl rfl (by first | with_reducible assumption | exact rfl)) ?_
  refine AL.step rfl rfl rfl (by first | exact AStepD.len_str tok rfl rfl rfl rfl | exact AStepD.len_sl tok rfl (by (conv => lhs; whnf); all_goals exact rfl) (by first | exact IsSl.vec | exact IsSl.sl | exact IsSl.slc | exact IsSl.nil | with_reducible assumption) rfl rfl | exact AStepD.len_arr tok rfl rfl rfl) ?_
  refine AL.step rfl rfl rfl (by exact AStepD.move' rfl (by (conv => lhs; whnf); all_goals exact rfl)) ?_
  refine AL.nil_then (hK _ _ ?_); clear hK K
  refine AW.block ?_
  refine AW.loop_at (ι := Nat × AV) (fun x => [(13, .v (.int .i64 x.1)), (12, .v (.int .i64 ms.length)), (11, x0), (5, x.2), (0, .ptr n 0), (1, .v (.int .i64 t))]) (fun x H' => x.1 ≤ ms.length ∧ Keep H H' ∧ OutInts H H' x.2 (places (ms.take x.1) t)) (fun x => ms.length - x.1) (0, .v (.slice none 0 0)) (by repeat' (first | exact SubT.nil _ | refine SubT.cons_eq (by (conv => lhs; whnf); all_goals first | exact rfl | (simp; done) | (simp; omega)) ?_)) ⟨Nat.zero_le _, .refl _, .nil⟩ ?_
  rintro ⟨i, y⟩ H1 ⟨hi, hk, hy⟩
  dsimp only at hi hk hy ⊢
  refine AW.seq_region (fun K hK => ?_)
  refine AL.step rfl rfl rfl (by exact AStepD.lss rfl rfl rfl) ?_
  refine AL.nil_then (hK _ _ ?_); clear hK K
  refine AW.seq_k (fun K1 hK1 => ?_)
  refine AW.cond _ rfl (fun hc => ?_) (fun hc => ?_)
  · refine AW.skip (hK1 _ _ ?_); clear hK1 K1
    have hil : i < ms.length := by have := of_decide_eq_true hc; omega
    obtain ⟨rfl, hLH⟩ := hL.at hil
    have hLl := hlt _ _ hLH
    have hLH1 := hk.get hLH hLl
    have hfl := flat_length ms
    have hfa := flat_at ms i hil
    have hone := (ms[i]).one
    have hk1 := hk.1
    have hpn := places_snoc (ms.take i) ms[i] t
    rw [← take_next ms i hil, List.length_take, Nat.min_eq_left hi] at hpn
    have hpl := places_length (ms.take i) t
    rw [List.length_take, Nat.min_eq_left hi] at hpl
    refine AW.lts fun hlt1 => ?_
    refine AW.seq_k (fun K1 hK1 => ?_)
    refine AW.block ?_
    refine AW.seq_region (fun K hK => ?_)
    refine AL.step rfl rfl rfl (by exact AStepD.move' rfl (by (conv => lhs; whnf); all_goals exact rfl)) ?_
    refine AL.step rfl rfl rfl (by first | exact AStepD.indexAddr_vec' tok rfl rfl rfl rfl rfl rfl (show _ = 3 from rfl) (by first | exact rfl | exact (Int.toNat_of_nonneg (by omega)).symm) (by first | omega | (simp; done) | (simp; omega) | (simp only [over, List.length_append, List.length_take, List.length_drop, *]; omega) | (simp_all; done) | (simp_all; omega)) | exact AStepD.indexAddr_sl' tok rfl rfl rfl rfl rfl rfl (show _ = 3 from rfl) (by first | exact rfl | exact (Int.toNat_of_nonneg (by omega)).symm) (by first | omega | (simp; done) | (simp; omega) | (simp only [over, List.length_append, List.length_take, List.length_drop, *]; omega) | (simp_all; done) | (simp_all; omega)) (by first | (simp only [Nat.zero_add, Nat.zero_mul, Nat.sub_zero, Nat.add_zero]; exact rfl) | exact rfl) | exact AStepD.indexAddr_arr' tok rfl rfl rfl rfl rfl rfl (show _ = 3 from rfl) (by first | exact rfl | exact (Int.toNat_of_nonneg (by omega)).symm) (by first | omega | (simp; done) | (simp; omega) | (simp only [over, List.length_append, List.length_take, List.length_drop, *]; omega) | (simp_all; done) | (simp_all; omega)) (by first | (simp only [Nat.zero_add, Nat.zero_mul, Nat.sub_zero, Nat.add_zero]; exact rfl) | exact rfl)) ?_
    refine AL.step rfl rfl rfl (by first | exact AStepD.load_agg tok rfl rfl rfl (by first | with_reducible assumption | (simp (disch := (first | omega | (refine id ?_; simp only [za, zb, zc]; done) | (simp only [za, zb, zc]; omega))) only [z1, z2, z3, z4, z5, z6, z7, z8, ne_eq, *]; done) | (simp (disch := (first | omega | (refine id ?_; simp only [za, zb, zc]; done) | (simp only [za, zb, zc]; omega))) only [z1, z2, z3, z4, z5, z6, z7, z8, ne_eq, *]; exact rfl)) rfl (show _ = 3 from rfl) (by first | exact Nat.le_of_ble_eq_true rfl | (simp; done) | (simp; omega) | (simp_all; omega)) (by first | with_reducible assumption | (simp only [List.take_succ_cons, List.take_zero, List.drop_succ_cons, List.drop_zero]; exact rfl) | exact rfl) | exact AStepD.load_agg_ip tok rfl rfl rfl rfl (show _ = 3 from rfl) (by first | exact Nat.le_of_ble_eq_true rfl | (simp; done) | (simp; omega) | (simp_all; omega)) (by first | with_reducible assumption | (simp only [List.take_succ_cons, List.take_zero, List.drop_succ_cons, List.drop_zero]; exact rfl) | exact rfl)) ?_
    refine AL.step rfl rfl rfl (by exact AStepD.alloc tok rfl rfl) ?_
    refine AL.step rfl rfl rfl (by exact AStepD.assign' rfl (by (conv => lhs; whnf); all_goals exact rfl)) ?_
    refine AL.step0 rfl rfl (by exact AStepD.store' tok rfl rfl (by first | with_reducible assumption | (simp (disch := (first | omega | (refine id ?_; simp only [za, zb, zc]; done) | (simp only [za, zb, zc]; omega))) only [z1, z2, z3, z4, z5, z6, z7, z8, ne_eq, *]; done) | (simp (disch := (first | omega | (refine id ?_; simp only [za, zb, zc]; done) | (simp only [za, zb, zc]; omega))) only [z1, z2, z3, z4, z5, z6, z7, z8, ne_eq, *]; exact rfl)) (by (conv => lhs; whnf); all_goals exact rfl) (by first | exact one_cells (by with_reducible assumption) | exact (by (conv => lhs; whnf); all_goals exact rfl)) (by first | with_reducible assumption | exact ones_nil | (simp only [List.forall_mem_cons, List.not_mem_nil, false_implies, implies_true, and_true, one_v, one_ptr, one_ip, one_sl, one_slc, one_vec, one_map, one_func, one_iface, Value.oneCell', *]; done) | (simp [AV.one, Value.oneCell', *]; done)) rfl (by (conv => lhs; whnf); all_goals exact rfl) rfl (by first | exact Nat.le_of_ble_eq_true rfl | (simp; done) | (simp; omega) | (simp_all; omega)) (by first | ((with_reducible refine over_all ?_); exact rfl) | (simp only [over, List.take_succ_cons, List.take_zero, List.drop_succ_cons, List.drop_zero, List.length_cons, List.length_nil, List.nil_append, List.cons_append, Nat.reduceAdd, Nat.zero_add, List.drop_nil, List.append_nil]; exact rfl) | conv => lhs; whnf)) ?_
    refine AL.nil_then (hK _ _ ?_); clear hK K
    refine AW.seq_region (fun K hK => ?_)
    refine AL.step rfl rfl rfl (by first | exact AStepD.fieldAddr' tok rfl rfl rfl rfl rfl rfl rfl (by first | exact Nat.zero_add 1 | exact (show _ + 1 = _ from (by simp only [Nat.reduceAdd]; exact rfl)) | exact (show _ + 1 = _ + 1 from rfl) | exact rfl) | exact AStepD.fieldAddr_ip' tok rfl rfl rfl rfl rfl rfl rfl (by (conv => lhs; whnf); all_goals exact rfl)) ?_
    refine AL.step rfl rfl rfl (by first | exact AStepD.load_one tok rfl rfl rfl rfl (by first | with_reducible assumption | (simp (disch := (first | omega | (refine id ?_; simp only [za, zb, zc]; done) | (simp only [za, zb, zc]; omega))) only [z1, z2, z3, z4, z5, z6, z7, z8, ne_eq, *]; done) | (simp (disch := (first | omega | (refine id ?_; simp only [za, zb, zc]; done) | (simp only [za, zb, zc]; omega))) only [z1, z2, z3, z4, z5, z6, z7, z8, ne_eq, *]; exact rfl)) rfl (by first | with_reducible assumption | exact rfl) | exact AStepD.load_one_ip tok rfl rfl rfl rfl rfl (by first | with_reducible assumption | exact rfl)) ?_
    refine AL.step rfl rfl rfl (by exact AStepD.move' rfl (by (conv => lhs; whnf); all_goals exact rfl)) ?_
    refine AL.step rfl rfl rfl (by first | exact AStepD.eql rfl rfl rfl | exact AStepD.str_eql rfl rfl rfl | exact (AStepD.ptr_nil tok (.inl ⟨_, _, rfl⟩) rfl rfl rfl).1 rfl | exact (AStepD.nil_nil tok rfl rfl rfl rfl).1 rfl | exact (AStepD.bool_eq tok rfl rfl rfl rfl).1 rfl | exact (AStepD.iface_nil tok rfl rfl rfl rfl).1 rfl | exact (AStepD.nilIface_nil tok rfl rfl rfl rfl).1 rfl) ?_
    refine AL.nil_then (hK _ _ ?_); clear hK K
    refine AW.cond _ rfl (fun ht => ?_) (fun ht => ?_)
    · have ht := of_decide_eq_true ht
      rw [if_pos ht] at hpn
      generalize places (ms.take i) t = q at hy hpn hpl
      cases hy with
      | nil =>
        refine AW.region ?_
        refine AL.step rfl rfl rfl (by exact AStepD.move' rfl (by (conv => lhs; whnf); all_goals exact rfl)) ?_
        refine AL.step rfl rfl rfl (by exact AStepD.move' rfl (by (conv => lhs; whnf); all_goals exact rfl)) ?_
        refine AL.step rfl rfl rfl (by first | exact AStepD.buildSlice0 tok rfl rfl rfl rfl (show _ = 1 from rfl) | exact AStepD.buildSlice1 tok rfl rfl rfl rfl (show _ = 1 from rfl) (by (conv => lhs; whnf); all_goals exact rfl) (by (conv => lhs; whnf); all_goals exact rfl) (by first | omega | (simp; done) | (simp; omega) | (simp only [over, List.length_append, List.length_take, List.length_drop, *]; omega) | (simp_all; done) | (simp_all; omega)) (by decide) (by first | with_reducible assumption | exact ones_nil | (simp only [List.forall_mem_cons, List.not_mem_nil, false_implies, implies_true, and_true, one_v, one_ptr, one_ip, one_sl, one_slc, one_vec, one_map, one_func, one_iface, Value.oneCell', *]; done) | (simp [AV.one, Value.oneCell', *]; done)) | exact AStepD.buildSlice_seq tok rfl rfl rfl rfl (show _ = 1 from rfl) (map_p (by (conv => lhs; whnf); all_goals exact rfl) map_n) rfl (by decide) (by decide) rfl (by simp only [List.flatMap_cons, List.flatMap_nil, cells_v, cells_any, cells_ptr, cells_ip, cells_sl, cells_vec, cells_map, cells_func, cells_agg, cells_iface, List.cons_append, List.nil_append, List.append_nil]; all_goals exact rfl) (by first | with_reducible assumption | exact ones_nil | (simp only [List.forall_mem_cons, List.not_mem_nil, false_implies, implies_true, and_true, one_v, one_ptr, one_ip, one_sl, one_slc, one_vec, one_map, one_func, one_iface, Value.oneCell', *]; done) | (simp [AV.one, Value.oneCell', *]; done)) | exact AStepD.buildSlice tok rfl rfl rfl rfl (by (conv => lhs; whnf); all_goals exact rfl) (by decide) (by decide) rfl (by first | with_reducible assumption | exact ones_nil | (simp only [List.forall_mem_cons, List.not_mem_nil, false_implies, implies_true, and_true, one_v, one_ptr, one_ip, one_sl, one_slc, one_vec, one_map, one_func, one_iface, Value.oneCell', *]; done) | (simp [AV.one, Value.oneCell', *]; done))) ?_
        refine AL.step rfl rfl rfl (by first | exact AStepD.append' (bk := 64) tok rfl rfl rfl rfl rfl rfl rfl rfl (show _ = 1 from rfl) rfl (by first | with_reducible assumption | (simp (disch := (first | omega | (refine id ?_; simp only [za, zb, zc]; done) | (simp only [za, zb, zc]; omega))) only [z1, z2, z3, z4, z5, z6, z7, z8, ne_eq, *]; done) | (simp (disch := (first | omega | (refine id ?_; simp only [za, zb, zc]; done) | (simp only [za, zb, zc]; omega))) only [z1, z2, z3, z4, z5, z6, z7, z8, ne_eq, *]; exact rfl)) rfl (by first | omega | (simp; done) | (simp; omega) | (simp only [over, List.length_append, List.length_take, List.length_drop, *]; omega) | (simp_all; done) | (simp_all; omega)) (by first | with_reducible assumption | exact (by assumption : ∀ o, Src _ _ _ _ _) _ | exact Src.vec | exact Src.nil | exact Src.all (by first | with_reducible assumption | (simp (disch := (first | omega | (refine id ?_; simp only [za, zb, zc]; done) | (simp only [za, zb, zc]; omega))) only [z1, z2, z3, z4, z5, z6, z7, z8, ne_eq, *]; done) | (simp (disch := (first | omega | (refine id ?_; simp only [za, zb, zc]; done) | (simp only [za, zb, zc]; omega))) only [z1, z2, z3, z4, z5, z6, z7, z8, ne_eq, *]; exact rfl)) (by first | omega | (simp; done) | (simp; omega) | (simp only [over, List.length_append, List.length_take, List.length_drop, *]; omega) | (simp_all; done) | (simp_all; omega)) | exact Src.sl (by first | with_reducible assumption | (simp (disch := (first | omega | (refine id ?_; simp only [za, zb, zc]; done) | (simp only [za, zb, zc]; omega))) only [z1, z2, z3, z4, z5, z6, z7, z8, ne_eq, *]; done) | (simp (disch := (first | omega | (refine id ?_; simp only [za, zb, zc]; done) | (simp only [za, zb, zc]; omega))) only [z1, z2, z3, z4, z5, z6, z7, z8, ne_eq, *]; exact rfl)) (by first | exact Nat.le_of_ble_eq_true rfl | (simp; done) | (simp; omega) | (simp_all; omega))) (by first | omega | (simp; done) | (simp; omega) | (simp only [over, List.length_append, List.length_take, List.length_drop, *]; omega) | (simp_all; done) | (simp_all; omega)) (by first | with_reducible assumption | exact ones_nil | (simp only [List.forall_mem_cons, List.not_mem_nil, false_implies, implies_true, and_true, one_v, one_ptr, one_ip, one_sl, one_slc, one_vec, one_map, one_func, one_iface, Value.oneCell', *]; done) | (simp [AV.one, Value.oneCell', *]; done)) (by first | omega | (simp; done) | (simp; omega) | (simp only [over, List.length_append, List.length_take, List.length_drop, *]; omega) | (simp_all; done) | (simp_all; omega)) (by first | omega | (simp; done) | (simp; omega) | (simp only [over, List.length_append, List.length_take, List.length_drop, *]; omega) | (simp_all; done) | (simp_all; omega)) (by first | (simp only [Nat.zero_add, Nat.zero_mul, Nat.sub_zero, Nat.add_zero]; exact rfl) | exact rfl) (by first | exact List.nil_append _ | exact rfl) | exact AStepD.append_nil' (bk := 64) tok rfl rfl rfl rfl rfl rfl rfl rfl (show _ = 1 from rfl) rfl (by first | with_reducible assumption | exact (by assumption : ∀ o, Src _ _ _ _ _) _ | exact Src.vec | exact Src.nil | exact Src.all (by first | with_reducible assumption | (simp (disch := (first | omega | (refine id ?_; simp only [za, zb, zc]; done) | (simp only [za, zb, zc]; omega))) only [z1, z2, z3, z4, z5, z6, z7, z8, ne_eq, *]; done) | (simp (disch := (first | omega | (refine id ?_; simp only [za, zb, zc]; done) | (simp only [za, zb, zc]; omega))) only [z1, z2, z3, z4, z5, z6, z7, z8, ne_eq, *]; exact rfl)) (by first | omega | (simp; done) | (simp; omega) | (simp only [over, List.length_append, List.length_take, List.length_drop, *]; omega) | (simp_all; done) | (simp_all; omega)) | exact Src.sl (by first | with_reducible assumption | (simp (disch := (first | omega | (refine id ?_; simp only [za, zb, zc]; done) | (simp only [za, zb, zc]; omega))) only [z1, z2, z3, z4, z5, z6, z7, z8, ne_eq, *]; done) | (simp (disch := (first | omega | (refine id ?_; simp only [za, zb, zc]; done) | (simp only [za, zb, zc]; omega))) only [z1, z2, z3, z4, z5, z6, z7, z8, ne_eq, *]; exact rfl)) (by first | exact Nat.le_of_ble_eq_true rfl | (simp; done) | (simp; omega) | (simp_all; omega))) (by first | omega | (simp; done) | (simp; omega) | (simp only [over, List.length_append, List.length_take, List.length_drop, *]; omega) | (simp_all; done) | (simp_all; omega)) (by first | omega | (simp; done) | (simp; omega) | (simp only [over, List.length_append, List.length_take, List.length_drop, *]; omega) | (simp_all; done) | (simp_all; omega)) (by first | omega | (simp; done) | (simp; omega) | (simp only [over, List.length_append, List.length_take, List.length_drop, *]; omega) | (simp_all; done) | (simp_all; omega)) (by first | omega | (simp; done) | (simp; omega) | (simp only [over, List.length_append, List.length_take, List.length_drop, *]; omega) | (simp_all; done) | (simp_all; omega))) ?_
        refine AL.step rfl rfl rfl (by exact AStepD.assign' rfl (by (conv => lhs; whnf); all_goals exact rfl)) ?_
        refine AL.nil ?_
        refine hK1 _ _ ?_; clear hK1 K1
        refine AW.region ?_
        refine AL.step rfl rfl rfl (by first | exact AStepD.add rfl rfl rfl (by first | exact IntWalk.i64_in _ (by omega) | exact rfl) | exact AStepD.str_add rfl rfl rfl (by omega)) ?_
        refine AL.step rfl rfl rfl (by exact AStepD.move' rfl (by (conv => lhs; whnf); all_goals exact rfl)) ?_
        refine AL.nil ?_
        refine ⟨(i + 1, _), ?_, (by repeat' (first | exact SubT.nil _ | refine SubT.cons_eq (by (conv => lhs; whnf); all_goals first | exact rfl | (simp; done) | (simp; omega)) ?_)), hil, (by repeat' (first | exact Keep.refl _ | with_reducible assumption | apply Keep.new | apply Keep.set | apply Keep.del | (first | omega | (simp only [za, zb, zc]; omega)))), ?_⟩
        · show ms.length - (i + 1) < ms.length - i
          omega
        · show OutInts H _ _ (places (ms.take (i + 1)) t)
          rw [hpn]
          refine OutInts.mk (cs := [.v (.int .i64 (i : Nat))]) ?_ ?_ rfl rfl
          · exact (by (try simp only [za, zb, zc, ne_eq]); omega)
          · exact (by first | with_reducible assumption | (simp (disch := (first | omega | (refine id ?_; simp only [za, zb, zc]; done) | (simp only [za, zb, zc]; omega))) only [z1, z2, z3, z4, z5, z6, z7, z8, ne_eq, *]; done) | (simp (disch := (first | omega | (refine id ?_; simp only [za, zb, zc]; done) | (simp only [za, zb, zc]; omega))) only [z1, z2, z3, z4, z5, z6, z7, z8, ne_eq, *]; exact rfl))
      | @sl R _ hR hRH =>
        have hql := natsA_length q
        have hRl := hlt1 _ _ hRH
        refine AW.region ?_
        refine AL.step rfl rfl rfl (by exact AStepD.move' rfl (by (conv => lhs; whnf); all_goals exact rfl)) ?_
        refine AL.step rfl rfl rfl (by exact AStepD.move' rfl (by (conv => lhs; whnf); all_goals exact rfl)) ?_
        refine AL.step rfl rfl rfl (by first | exact AStepD.buildSlice0 tok rfl rfl rfl rfl (show _ = 1 from rfl) | exact AStepD.buildSlice1 tok rfl rfl rfl rfl (show _ = 1 from rfl) (by (conv => lhs; whnf); all_goals exact rfl) (by (conv => lhs; whnf); all_goals exact rfl) (by first | omega | (simp; done) | (simp; omega) | (simp only [over, List.length_append, List.length_take, List.length_drop, *]; omega) | (simp_all; done) | (simp_all; omega)) (by decide) (by first | with_reducible assumption | exact ones_nil | (simp only [List.forall_mem_cons, List.not_mem_nil, false_implies, implies_true, and_true, one_v, one_ptr, one_ip, one_sl, one_slc, one_vec, one_map, one_func, one_iface, Value.oneCell', *]; done) | (simp [AV.one, Value.oneCell', *]; done)) | exact AStepD.buildSlice_seq tok rfl rfl rfl rfl (show _ = 1 from rfl) (map_p (by (conv => lhs; whnf); all_goals exact rfl) map_n) rfl (by decide) (by decide) rfl (by simp only [List.flatMap_cons, List.flatMap_nil, cells_v, cells_any, cells_ptr, cells_ip, cells_sl, cells_vec, cells_map, cells_func, cells_agg, cells_iface, List.cons_append, List.nil_append, List.append_nil]; all_goals exact rfl) (by first | with_reducible assumption | exact ones_nil | (simp only [List.forall_mem_cons, List.not_mem_nil, false_implies, implies_true, and_true, one_v, one_ptr, one_ip, one_sl, one_slc, one_vec, one_map, one_func, one_iface, Value.oneCell', *]; done) | (simp [AV.one, Value.oneCell', *]; done)) | exact AStepD.buildSlice tok rfl rfl rfl rfl (by (conv => lhs; whnf); all_goals exact rfl) (by decide) (by decide) rfl (by first | with_reducible assumption | exact ones_nil | (simp only [List.forall_mem_cons, List.not_mem_nil, false_implies, implies_true, and_true, one_v, one_ptr, one_ip, one_sl, one_slc, one_vec, one_map, one_func, one_iface, Value.oneCell', *]; done) | (simp [AV.one, Value.oneCell', *]; done))) ?_
        refine AL.step rfl rfl rfl (by first | exact AStepD.append' (bk := 64) tok rfl rfl rfl rfl rfl rfl rfl rfl (show _ = 1 from rfl) rfl (by first | with_reducible assumption | (simp (disch := (first | omega | (refine id ?_; simp only [za, zb, zc]; done) | (simp only [za, zb, zc]; omega))) only [z1, z2, z3, z4, z5, z6, z7, z8, ne_eq, *]; done) | (simp (disch := (first | omega | (refine id ?_; simp only [za, zb, zc]; done) | (simp only [za, zb, zc]; omega))) only [z1, z2, z3, z4, z5, z6, z7, z8, ne_eq, *]; exact rfl)) rfl (by first | omega | (simp; done) | (simp; omega) | (simp only [over, List.length_append, List.length_take, List.length_drop, *]; omega) | (simp_all; done) | (simp_all; omega)) (by first | with_reducible assumption | exact (by assumption : ∀ o, Src _ _ _ _ _) _ | exact Src.vec | exact Src.nil | exact Src.all (by first | with_reducible assumption | (simp (disch := (first | omega | (refine id ?_; simp only [za, zb, zc]; done) | (simp only [za, zb, zc]; omega))) only [z1, z2, z3, z4, z5, z6, z7, z8, ne_eq, *]; done) | (simp (disch := (first | omega | (refine id ?_; simp only [za, zb, zc]; done) | (simp only [za, zb, zc]; omega))) only [z1, z2, z3, z4, z5, z6, z7, z8, ne_eq, *]; exact rfl)) (by first | omega | (simp; done) | (simp; omega) | (simp only [over, List.length_append, List.length_take, List.length_drop, *]; omega) | (simp_all; done) | (simp_all; omega)) | exact Src.sl (by first | with_reducible assumption | (simp (disch := (first | omega | (refine id ?_; simp only [za, zb, zc]; done) | (simp only [za, zb, zc]; omega))) only [z1, z2, z3, z4, z5, z6, z7, z8, ne_eq, *]; done) | (simp (disch := (first | omega | (refine id ?_; simp only [za, zb, zc]; done) | (simp only [za, zb, zc]; omega))) only [z1, z2, z3, z4, z5, z6, z7, z8, ne_eq, *]; exact rfl)) (by first | exact Nat.le_of_ble_eq_true rfl | (simp; done) | (simp; omega) | (simp_all; omega))) (by first | omega | (simp; done) | (simp; omega) | (simp only [over, List.length_append, List.length_take, List.length_drop, *]; omega) | (simp_all; done) | (simp_all; omega)) (by first | with_reducible assumption | exact ones_nil | (simp only [List.forall_mem_cons, List.not_mem_nil, false_implies, implies_true, and_true, one_v, one_ptr, one_ip, one_sl, one_slc, one_vec, one_map, one_func, one_iface, Value.oneCell', *]; done) | (simp [AV.one, Value.oneCell', *]; done)) (by first | omega | (simp; done) | (simp; omega) | (simp only [over, List.length_append, List.length_take, List.length_drop, *]; omega) | (simp_all; done) | (simp_all; omega)) (by first | omega | (simp; done) | (simp; omega) | (simp only [over, List.length_append, List.length_take, List.length_drop, *]; omega) | (simp_all; done) | (simp_all; omega)) (by first | (simp only [Nat.zero_add, Nat.zero_mul, Nat.sub_zero, Nat.add_zero]; exact rfl) | exact rfl) (by first | exact List.nil_append _ | exact rfl) | exact AStepD.append_nil' (bk := 64) tok rfl rfl rfl rfl rfl rfl rfl rfl (show _ = 1 from rfl) rfl (by first | with_reducible assumption | exact (by assumption : ∀ o, Src _ _ _ _ _) _ | exact Src.vec | exact Src.nil | exact Src.all (by first | with_reducible assumption | (simp (disch := (first | omega | (refine id ?_; simp only [za, zb, zc]; done) | (simp only [za, zb, zc]; omega))) only [z1, z2, z3, z4, z5, z6, z7, z8, ne_eq, *]; done) | (simp (disch := (first | omega | (refine id ?_; simp only [za, zb, zc]; done) | (simp only [za, zb, zc]; omega))) only [z1, z2, z3, z4, z5, z6, z7, z8, ne_eq, *]; exact rfl)) (by first | omega | (simp; done) | (simp; omega) | (simp only [over, List.length_append, List.length_take, List.length_drop, *]; omega) | (simp_all; done) | (simp_all; omega)) | exact Src.sl (by first | with_reducible assumption | (simp (disch := (first | omega | (refine id ?_; simp only [za, zb, zc]; done) | (simp only [za, zb, zc]; omega))) only [z1, z2, z3, z4, z5, z6, z7, z8, ne_eq, *]; done) | (simp (disch := (first | omega | (refine id ?_; simp only [za, zb, zc]; done) | (simp only [za, zb, zc]; omega))) only [z1, z2, z3, z4, z5, z6, z7, z8, ne_eq, *]; exact rfl)) (by first | exact Nat.le_of_ble_eq_true rfl | (simp; done) | (simp; omega) | (simp_all; omega))) (by first | omega | (simp; done) | (simp; omega) | (simp only [over, List.length_append, List.length_take, List.length_drop, *]; omega) | (simp_all; done) | (simp_all; omega)) (by first | omega | (simp; done) | (simp; omega) | (simp only [over, List.length_append, List.length_take, List.length_drop, *]; omega) | (simp_all; done) | (simp_all; omega)) (by first | omega | (simp; done) | (simp; omega) | (simp only [over, List.length_append, List.length_take, List.length_drop, *]; omega) | (simp_all; done) | (simp_all; omega)) (by first | omega | (simp; done) | (simp; omega) | (simp only [over, List.length_append, List.length_take, List.length_drop, *]; omega) | (simp_all; done) | (simp_all; omega))) ?_
        refine AL.step rfl rfl rfl (by exact AStepD.assign' rfl (by (conv => lhs; whnf); all_goals exact rfl)) ?_
        refine AL.nil ?_
        refine hK1 _ _ ?_; clear hK1 K1
        refine AW.region ?_
        refine AL.step rfl rfl rfl (by first | exact AStepD.add rfl rfl rfl (by first | exact IntWalk.i64_in _ (by omega) | exact rfl) | exact AStepD.str_add rfl rfl rfl (by omega)) ?_
        refine AL.step rfl rfl rfl (by exact AStepD.move' rfl (by (conv => lhs; whnf); all_goals exact rfl)) ?_
        refine AL.nil ?_
        refine ⟨(i + 1, _), ?_, (by repeat' (first | exact SubT.nil _ | refine SubT.cons_eq (by (conv => lhs; whnf); all_goals first | exact rfl | (simp; done) | (simp; omega)) ?_)), hil, (by repeat' (first | exact Keep.refl _ | with_reducible assumption | apply Keep.new | apply Keep.set | apply Keep.del | (first | omega | (simp only [za, zb, zc]; omega)))), ?_⟩
        · show ms.length - (i + 1) < ms.length - i
          omega
        · show OutInts H _ _ (places (ms.take (i + 1)) t)
          rw [hpn]
          refine OutInts.mk (cs := (natsA q).append [.v (.int .i64 i)]) ?_ ?_ ?_ ?_
          · exact (by (try simp only [za, zb, zc, ne_eq]); omega)
          · exact (by first | with_reducible assumption | (simp (disch := (first | omega | (refine id ?_; simp only [za, zb, zc]; done) | (simp only [za, zb, zc]; omega))) only [z1, z2, z3, z4, z5, z6, z7, z8, ne_eq, *]; done) | (simp (disch := (first | omega | (refine id ?_; simp only [za, zb, zc]; done) | (simp only [za, zb, zc]; omega))) only [z1, z2, z3, z4, z5, z6, z7, z8, ne_eq, *]; exact rfl))
          · simp [natsA]
          · simp
    · have ht := of_decide_eq_false ht
      rw [if_neg ht, List.append_nil] at hpn
      refine AW.skip ?_
      refine hK1 _ _ ?_; clear hK1 K1
      refine AW.region ?_
      refine AL.step rfl rfl rfl (by first | exact AStepD.add rfl rfl rfl (by first | exact IntWalk.i64_in _ (by omega) | exact rfl) | exact AStepD.str_add rfl rfl rfl (by omega)) ?_
      refine AL.step rfl rfl rfl (by exact AStepD.move' rfl (by (conv => lhs; whnf); all_goals exact rfl)) ?_
      refine AL.nil ?_
      refine ⟨(i + 1, y), ?_, (by repeat' (first | exact SubT.nil _ | refine SubT.cons_eq (by (conv => lhs; whnf); all_goals first | exact rfl | (simp; done) | (simp; omega)) ?_)), hil, (by repeat' (first | exact Keep.refl _ | with_reducible assumption | apply Keep.new | apply Keep.set | apply Keep.del | (first | omega | (simp only [za, zb, zc]; omega)))), ?_⟩
      · show ms.length - (i + 1) < ms.length - i
        omega
      · show OutInts H _ _ (places (ms.take (i + 1)) t)
        rw [hpn]
        exact hy.keep hlt1 (by repeat' (first | exact Keep.refl _ | apply Keep.new | apply Keep.set | apply Keep.del | (first | omega | (simp only [za, zb, zc]; omega))))
  · refine AW.exit ?_
    refine hK _ _ ?_; clear hK1 K1 hK K
    have hi2 : i = ms.length := by have := of_decide_eq_false hc; omega
    subst hi2
    rw [List.take_length] at hy
    refine AW.seq_region (fun K hK => ?_)
    refine AL.step rfl rfl rfl (by exact AStepD.move' rfl (by (conv => lhs; whnf); all_goals exact rfl)) ?_
    refine AL.step rfl rfl rfl (by exact AStepD.assign' rfl (by (conv => lhs; whnf); all_goals exact rfl)) ?_
    refine AL.nil_then (hK _ _ ?_); clear hK K
    refine AW.ret (RetQ.mk (.inr rfl) (retA_tmp rfl (by (conv => lhs; whnf); all_goals exact rfl) retA_nil) ⟨hy, hk⟩)
end Go.Proofs.Ytdogeolaaejinaa
