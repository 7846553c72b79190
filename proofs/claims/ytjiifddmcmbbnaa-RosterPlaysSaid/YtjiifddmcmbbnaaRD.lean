/- The walks of the roster's lists: Clone, Delete, List, Add. -/
import Derived.Test.YtjiifddmcmbbnaaRC
namespace Go.Proofs.Ytjiifddmcmbbnaa
open Go.Ax
theorem qRD1 {p : Prop} (h : p := by exact AStepD.slice_slc_in tok rfl SubV.sl_slc rfl rfl rfl (show _ = 5 from rfl) qRA13 qRA13 qRA11 qRA11 qRA11 qRA14 qRA14 qRA14) : p := h
theorem qRD2 {p : Prop} (h : p := by first | exact AStepD.slice_vec' tok rfl rfl rfl rfl rfl (show _ = 5 from rfl) rfl rfl qRA13 qRA13 qRA11 qRA11 rfl rfl | exact AStepD.slice_sl_in tok rfl rfl rfl rfl rfl (show _ = 5 from rfl) qRA13 qRA13 qRA11 qRA11 qRA11 qRA14 qRA14 | exact AStepD.slice_sl_end tok rfl rfl rfl rfl rfl (show _ = 5 from rfl) qRA13 qRA13 qRA11 qRA11 qRA11 | exact AStepD.slice_slx tok rfl rfl rfl rfl rfl (show _ = 5 from rfl) qRA13 qRA13 qRA11 qRA11 qRA11 qRA14 qRA14 qRA14 | exact AStepD.slice_slc_in tok rfl (SubV.refl _) rfl rfl rfl (show _ = 5 from rfl) qRA13 qRA13 qRA11 qRA11 qRA11 qRA14 qRA14 qRA14 | exact AStepD.slice_str' tok rfl rfl rfl rfl rfl rfl qRA13 qRA13 qRA11 qRA11 | exact AStepD.slice_nil tok rfl rfl rfl rfl rfl rfl rfl | exact AStepD.slice_arr' tok rfl rfl rfl rfl rfl (show _ = 5 from rfl) qRA6 rfl rfl qRA13 qRA13 qRA12 (by decide) qRA11 qRA11 qRA11) : p := h
theorem qRD3 {p : Prop} (h : p := by exact AStepD.clear_slc tok rfl rfl rfl rfl rfl qRA1 (by decide) qRA6 qRA11 rfl) : p := h
theorem qRD4 {p : Prop} (h : p := by rw [AHeap.set_set, AHeap.set_set]) : p := h
theorem qRD5 {p : Prop} (h : p := by simp only [List.flatMap_cons, List.flatMap_nil, cells_v, cells_any, cells_ptr, cells_ip, cells_sl, cells_vec, cells_map, cells_func, cells_agg, cells_iface, List.cons_append, List.nil_append, List.append_nil]; all_goals exact rfl) : p := h
theorem qRD6 {p : Prop} (h : p := by first | exact Nat.zero_add 1 | exact (show _ + 1 = _ from qRB4) | exact (show _ + 1 = _ + 1 from rfl) | exact rfl) : p := h
theorem qRD7 {p : Prop} (h : p := by first | ((with_reducible refine over_all ?_); exact rfl) | (simp only [over, List.take_succ_cons, List.take_zero, List.drop_succ_cons, List.drop_zero, List.length_cons, List.length_nil, List.nil_append, List.cons_append, Nat.reduceAdd, Nat.zero_add, List.drop_nil, List.append_nil]; exact rfl) | conv => lhs; whnf) : p := h
theorem qRD8 {p : Prop} (h : p := by first | exact AStepD.buildSlice0 tok rfl rfl rfl rfl (show _ = 5 from rfl) | exact AStepD.buildSlice1 tok rfl rfl rfl rfl (show _ = 5 from rfl) qRA1 qRA1 qRA11 (by decide) qRA4 | exact AStepD.buildSlice_seq tok rfl rfl rfl rfl (show _ = 5 from rfl) map_n rfl (by decide) (by decide) rfl qRD5 qRA4 | exact AStepD.buildSlice tok rfl rfl rfl rfl qRA1 (by decide) (by decide) rfl qRA4) : p := h
theorem qRD9 {p : Prop} (h : p := by first | exact AStepD.fieldAddr' tok rfl rfl rfl rfl rfl rfl rfl qRD6 | exact AStepD.fieldAddr_ip' tok rfl rfl rfl rfl rfl rfl rfl (show List.drop 1 _ = _ from rfl)) : p := h
set_option linter.unusedSimpArgs false
set_option linter.unusedVariables false

theorem delete_calls (H : AHeap) (L len i j : Nat) (cs : List AV) (hH : H.get L = some (.cells 34 cs)) (hl : cs.length = len * 5) (hone : ∀ z ∈ cs, z.one = true) (hij : i < j) (hj : j ≤ len) (hb : len ≤ 4096) :
    ACalls Try.prog 33 [.sl L 0 len 5, .v (.int .i64 i), .v (.int .i64 j)] H (fun r H' => r = .sl L 0 (i + (len - j)) 5 ∧ H' = H.set L (.cells 34 (cs.take (i * 5) ++ cs.drop (j * 5)))) := by
  refine ACalls.of_body tok Try.func33 rfl Try.ntmps33 (Nat.le_of_ble_eq_true rfl) ?_
  refine AW.seq_region (fun K hK => ?_)
  refine AL.step rfl rfl rfl qRA18 ?_
  refine AL.nil_then (hK _ _ ?_); clear hK K
  refine AW.seq_region (fun K hK => ?_)
  refine AL.step rfl rfl rfl qRA19 ?_
  refine AL.step rfl rfl rfl qRA19 ?_
  refine AL.step rfl rfl rfl qRA19 ?_
  refine AL.step rfl rfl rfl qRA19 ?_
  refine AL.step rfl rfl rfl qRC9 ?_
  refine AL.step rfl rfl rfl (by exact AStepD.slice3_any tok rfl rfl rfl rfl rfl qRA13 qRA13 qRA13 qRA11 qRA11 qRA11) ?_
  refine AL.nil_then (hK _ _ ?_); clear hK K
  refine AW.seq_k (fun K hK => ?_)
  refine AW.seq_region (fun K hK => ?_)
  refine AL.step rfl rfl rfl qRA19 ?_
  refine AL.step rfl rfl rfl qRA19 ?_
  refine AL.step rfl rfl rfl qRA16 ?_
  refine AL.nil_then (hK _ _ ?_); clear hK K
  refine AW.cond_false rfl (by simp; omega) (AW.skip (hK _ _ ?_)); clear hK K
  refine AW.seq_region (fun K hK => ?_)
  refine AL.step rfl rfl rfl qRA19 ?_
  refine AL.step rfl rfl rfl qRC9 ?_
  refine AL.step rfl rfl rfl qRA18 ?_
  refine AL.nil_then (hK _ _ ?_); clear hK K
  have hr : i + (len - j) ≤ len := by omega
  rcases Nat.lt_or_ge j len with hjl | hjl
  · refine AW.seq_k (fun K hK => ?_)
    apply AW.draw mixed [_, _, _, _, _, _, _, _] [6] [_, _] [(0, 0), (1, 0), (2, 0), (3, 0), (4, 0), (5, 0), (6, 0), (7, 1)] rfl rfl rfl qRC6
    · refine ⟨?_, ?_, ?_, ?_, ?_, ?_, ?_, ?_⟩
      · refine Ob.mk _ [0] 0 rfl rfl (restr_cons qRA1 restr_nil) rfl ?_
        simp only [List.getD_cons_zero, List.getD_cons_succ]
        exact GStep.plain rfl qRA19
      · refine Ob.mk _ [1] 0 rfl rfl (restr_cons qRA1 restr_nil) rfl ?_
        simp only [List.getD_cons_zero, List.getD_cons_succ]
        exact GStep.plain rfl qRA19
      · refine Ob.mk _ [20, 21] 0 rfl rfl (restr_cons qRA1 (restr_cons qRA1 restr_nil)) rfl ?_
        simp only [List.getD_cons_zero, List.getD_cons_succ]
        exact GStep.plain rfl qRD1
      · refine Ob.mk _ [0] 0 rfl rfl (restr_cons qRA1 restr_nil) rfl ?_
        simp only [List.getD_cons_zero, List.getD_cons_succ]
        exact GStep.plain rfl qRA19
      · refine Ob.mk _ [2] 0 rfl rfl (restr_cons qRA1 restr_nil) rfl ?_
        simp only [List.getD_cons_zero, List.getD_cons_succ]
        exact GStep.plain rfl qRA19
      · refine Ob.mk _ [23, 24] 0 rfl rfl (restr_cons qRA1 (restr_cons qRA1 restr_nil)) rfl ?_
        simp only [List.getD_cons_zero, List.getD_cons_succ]
        exact GStep.plain rfl qRD2
      · refine Ob.mk _ [22, 25] 1 rfl rfl (restr_cons qRA1 (restr_cons qRA1 restr_nil)) rfl ?_
        simp only [List.getD_cons_zero, List.getD_cons_succ]
        exact GStep.plain rfl (by exact AStepD.append_slc (bk := 64) (n := len - j) (ys := cs.drop (j * 5)) tok rfl (SubV.refl _) rfl rfl rfl rfl rfl rfl (show _ = 5 from rfl) rfl qRA6 (Src.tail qRA6 hl hj rfl rfl) (by simp; omega) (fun z hz => hone z (List.mem_of_mem_drop hz)) (by omega) (by omega) (by omega) (by omega) rfl rfl)
      · refine Ob.mk _ [26] 1 rfl rfl (restr_cons qRA1 restr_nil) rfl ?_
        simp only [List.getD_cons_zero, List.getD_cons_succ]
        exact GStep.plain rfl qRA18
    refine hK _ _ ?_; clear hK K
    refine AW.frame qRC7 qRC8 ?_
    refine AW.seq_region (fun K hK => ?_)
    refine AL.step rfl rfl rfl qRA19 ?_
    refine AL.step rfl rfl rfl qRA19 ?_
    refine AL.step rfl rfl rfl qRC9 ?_
    refine AL.step rfl rfl rfl qRA19 ?_
    refine AL.step rfl rfl rfl qRD2 ?_
    refine AL.step0 rfl rfl qRD3 ?_
    refine AL.nil_then (hK _ _ ?_); clear hK K
    refine AW.seq_region (fun K hK => ?_)
    refine AL.step rfl rfl rfl qRA19 ?_
    refine AL.step rfl rfl rfl qRA18 ?_
    refine AL.nil_then (hK _ _ ?_); clear hK K
    refine AW.ret ⟨.inr rfl, _, .sl L 0 (i + (len - j)) 5, H.set L (.cells 34 (cs.take (i * 5) ++ cs.drop (j * 5))), (retA_tmp rfl qRA1 retA_nil), (Shift.sub1 SubV.slc).trans (Shift.take (l := L) (t := 34) (m := (i + (len - j)) * 5) _ qRA6 ?_ qRD4), rfl, rfl⟩
    have hd : (i + (len - j)) * 5 = i * 5 + (cs.drop (j * 5)).length := by simp; omega
    rw [take_over (by simp only [over, List.length_append, List.length_take, List.length_drop]; omega), hd, over_take (by omega)]
  · obtain rfl : j = len := by omega
    refine AW.seq_k (fun K hK => ?_)
    apply AW.draw mixed [_, _, _, _, _, _, _, _] [6] [_, _] [(0, 0), (1, 0), (2, 0), (3, 0), (4, 0), (5, 0), (6, 0), (7, 1)] rfl rfl rfl qRC6
    · refine ⟨?_, ?_, ?_, ?_, ?_, ?_, ?_, ?_⟩
      · refine Ob.mk _ [0] 0 rfl rfl (restr_cons qRA1 restr_nil) rfl ?_
        simp only [List.getD_cons_zero, List.getD_cons_succ]
        exact GStep.plain rfl qRA19
      · refine Ob.mk _ [1] 0 rfl rfl (restr_cons qRA1 restr_nil) rfl ?_
        simp only [List.getD_cons_zero, List.getD_cons_succ]
        exact GStep.plain rfl qRA19
      · refine Ob.mk _ [20, 21] 0 rfl rfl (restr_cons qRA1 (restr_cons qRA1 restr_nil)) rfl ?_
        simp only [List.getD_cons_zero, List.getD_cons_succ]
        exact GStep.plain rfl qRD1
      · refine Ob.mk _ [0] 0 rfl rfl (restr_cons qRA1 restr_nil) rfl ?_
        simp only [List.getD_cons_zero, List.getD_cons_succ]
        exact GStep.plain rfl qRA19
      · refine Ob.mk _ [2] 0 rfl rfl (restr_cons qRA1 restr_nil) rfl ?_
        simp only [List.getD_cons_zero, List.getD_cons_succ]
        exact GStep.plain rfl qRA19
      · refine Ob.mk _ [23, 24] 0 rfl rfl (restr_cons qRA1 (restr_cons qRA1 restr_nil)) rfl ?_
        simp only [List.getD_cons_zero, List.getD_cons_succ]
        exact GStep.plain rfl qRD2
      · refine Ob.mk _ [22, 25] 1 rfl rfl (restr_cons qRA1 (restr_cons qRA1 restr_nil)) rfl ?_
        simp only [List.getD_cons_zero, List.getD_cons_succ]
        exact GStep.plain rfl (by exact AStepD.append_slc (bk := 64) (n := 0) (ys := []) tok rfl (SubV.refl _) rfl rfl rfl rfl rfl rfl (show _ = 5 from rfl) rfl qRA6 Src.vec rfl ones_nil (by omega) (by omega) (by omega) (by omega) rfl rfl)
      · refine Ob.mk _ [26] 1 rfl rfl (restr_cons qRA1 restr_nil) rfl ?_
        simp only [List.getD_cons_zero, List.getD_cons_succ]
        exact GStep.plain rfl qRA18
    refine hK _ _ ?_; clear hK K
    refine AW.frame qRC7 qRC8 ?_
    refine AW.seq_region (fun K hK => ?_)
    refine AL.step rfl rfl rfl qRA19 ?_
    refine AL.step rfl rfl rfl qRA19 ?_
    refine AL.step rfl rfl rfl qRC9 ?_
    refine AL.step rfl rfl rfl qRA19 ?_
    refine AL.step rfl rfl rfl qRD2 ?_
    refine AL.step0 rfl rfl qRD3 ?_
    refine AL.nil_then (hK _ _ ?_); clear hK K
    refine AW.seq_region (fun K hK => ?_)
    refine AL.step rfl rfl rfl qRA19 ?_
    refine AL.step rfl rfl rfl qRA18 ?_
    refine AL.nil_then (hK _ _ ?_); clear hK K
    refine AW.ret ⟨.inr rfl, _, .sl L 0 (i + 0) 5, H.set L (.cells 34 (cs.take (i * 5) ++ cs.drop (j * 5))), (retA_tmp rfl qRA1 retA_nil), (Shift.sub1 SubV.slc).trans (Shift.take (l := L) (t := 34) (m := i * 5) _ qRA6 ?_ qRD4), by simp, rfl⟩
    rw [take_over (by simp only [over, List.length_append, List.length_take, List.length_drop, List.length_nil]; omega), take_over (by omega), List.drop_of_length_le (by omega), List.append_nil]

theorem flat_plain (ms : List Mem) : ∀ z ∈ flat ms, Plain z := by
  intro z hz
  obtain ⟨m, _, hm⟩ := List.mem_flatMap.1 hz
  exact m.plain z hm
theorem clone_calls (H : AHeap) (L : Nat) (x : AV) (ms : List Mem) (hx : MemsAt H L x ms) (hl : ms.length ≤ 1000) :
    ACalls Try.prog 28 [x] H (fun r H' => r = .vec ms.length (flat ms) ∧ H' = H) := by
  refine ACalls.quiet_keep (ACalls.lts fun hlt => ?_) (.vec (flat_plain ms))
  have hsl := hx.isSl
  have hfl := flat_length ms
  have hfo := flat_ones ms
  refine ACalls.of_body tok Try.func28 rfl Try.ntmps28 (Nat.le_of_ble_eq_true rfl) ?_
  refine AW.seq_region (fun K hK => ?_)
  refine AL.step rfl rfl rfl qRA18 ?_
  refine AL.nil_then (hK _ _ ?_); clear hK K
  refine AW.seq_k (fun K hK => ?_)
  refine AW.seq_region (fun K2 hK2 => ?_)
  refine AL.step rfl rfl rfl (by exact AStepD.move' rfl (by conv => lhs; whnf)) ?_
  refine AL.call rfl rfl rfl (AStep.eq_nil tok rfl hsl rfl rfl rfl) ?_
  rintro _ H1 ⟨e, b, rfl, hb⟩
  obtain rfl := e.symm
  refine AL.nil_then (hK2 _ _ ?_); clear hK2 K2
  refine AW.cond b rfl (fun hb1 => ?_) (fun hb1 => ?_)
  · refine AW.seq_region (fun K hK => ?_)
    refine AL.step rfl rfl rfl qRA18 ?_
    refine AL.nil_then (hK _ _ ?_); clear hK K
    have hn0 := hb hb1
    obtain rfl : ms = [] := List.length_eq_zero_iff.1 hn0
    exact AW.ret (RetQ.sub (.inr rfl) rfl SubV.nil_vec ⟨rfl, Keep.refl _⟩)
  · refine AW.skip (hK _ _ ?_); clear hK K
    cases hx with
    | nil =>
      refine AW.seq_region (fun K hK => ?_)
      refine AL.step rfl rfl rfl qRD8 ?_
      refine AL.step rfl rfl rfl qRA19 ?_
      refine AL.step rfl rfl rfl (by exact AStepD.append' (bk := 64) (n := 0) (ys := []) tok rfl rfl rfl rfl rfl rfl rfl rfl (show _ = 5 from rfl) rfl qRA6 rfl qRA11 Src.nil rfl ones_nil (by omega) (by omega) rfl rfl) ?_
      refine AL.step rfl rfl rfl qRA18 ?_
      refine AL.nil_then (hK _ _ ?_); clear hK K
      refine AW.ret (RetQ.frz (l := (H.new (.cells 34 [])).next) (t := 34) (cs := []) (.inr rfl) rfl ?_ (Frz.sl (by simp)) ⟨?_, ?_⟩)
      · rw [AHeap.get_del_ne _ (by simp [AHeap.new]), AHeap.get_new_same]; rfl
      · simp [flat]
      · exact qRA8
    | sl hH =>
      have hLl := hlt _ _ hH
      refine AW.seq_region (fun K hK => ?_)
      refine AL.step rfl rfl rfl qRD8 ?_
      refine AL.step rfl rfl rfl qRA19 ?_
      refine AL.step rfl rfl rfl (by exact AStepD.append' (bk := 64) (n := ms.length) (ys := flat ms) tok rfl rfl rfl rfl rfl rfl rfl rfl (show _ = 5 from rfl) rfl qRA6 rfl qRA11 (Src.all qRA6 (by omega)) hfl hfo (by omega) (by omega) (Nat.zero_add _) rfl) ?_
      refine AL.step rfl rfl rfl qRA18 ?_
      refine AL.nil_then (hK _ _ ?_); clear hK K
      refine AW.ret (RetQ.frz (l := (H.new (.cells 34 [])).next) (t := 34) (cs := flat ms) (.inr rfl) rfl ?_ (Frz.sl (by simp; omega)) ⟨?_, ?_⟩)
      · rw [AHeap.get_del_ne _ (by simp [AHeap.new]), AHeap.get_new_same]; rfl
      · simp [← hfl]
      · exact qRA8
theorem list_calls (H : AHeap) (n L B : Nat) (r : Ros) (hR : RosAt H n L B r) (hl : r.ms.length ≤ 1000) :
    ACalls Try.prog 12 [.ptr n 0] H (fun v H' => v = .vec r.ms.length (flat r.ms) ∧ H' = H) := by
  obtain ⟨x0, hn, hM, hB⟩ := hR
  have hx1 := hM.one
  refine ACalls.of_body tok Try.func12 rfl Try.ntmps12 (Nat.le_of_ble_eq_true rfl) ?_
  refine AW.seq_region (fun K hK => ?_)
  refine AL.step rfl rfl rfl qRA18 ?_
  refine AL.nil_then (hK _ _ ?_); clear hK K
  refine AW.seq_region (fun K hK => ?_)
  refine AL.step rfl rfl rfl qRA19 ?_
  refine AL.step rfl rfl rfl qRB3 ?_
  refine AL.step rfl rfl rfl qRD9 ?_
  refine AL.step rfl rfl rfl qRB5 ?_
  refine AL.step rfl rfl rfl (by exact AStepD.callf rfl en28 rfl (clone_calls _ L x0 r.ms hM hl)) ?_
  refine AL.step rfl rfl rfl qRA18 ?_
  refine AL.nil_then (hK _ _ ?_); clear hK K
  refine AW.ret (RetQ.mk (.inr rfl) (retA_tmp rfl qRA1 retA_nil) ⟨rfl, rfl⟩)

theorem MemsAt.loc {H : AHeap} {L : Nat} {x : AV} {ms : List Mem} (h : MemsAt H L x ms) : ms = [] ∨ H.get L = some (.cells 34 (flat ms)) := by
  cases h with
  | nil => exact .inl rfl
  | sl h => exact .inr h
/-- Members at a place of their own, whatever the place of none. -/
theorem MemsAt.pick {H : AHeap} {L : Nat} {x : AV} {ms : List Mem} (h : MemsAt H L x ms) (hlt : ∀ l q, H.get l = some q → l < H.next) :
    ∃ L0, (∀ H', (L0 < H.next → H'.get L0 = H.get L0) → MemsAt H' L0 x ms) ∧ (L0 = L ∧ L0 < H.next ∧ H.get L0 = some (.cells 34 (flat ms)) ∨ L0 = H.next + 100 ∧ ms = []) := by
  cases h with
  | nil => exact ⟨H.next + 100, fun _ _ => .nil, .inr ⟨rfl, rfl⟩⟩
  | sl h => exact ⟨L, fun H' hk => .sl ((hk (hlt _ _ h)).trans h), .inl ⟨rfl, hlt _ _ h, h⟩⟩
/-- What an addition answers, and leaves. -/
def addE (r : Ros) (w t : Int) : Int := if asked r.self w t ≠ 0 then asked r.self w t else if has r.ms w then 32 else if banned r.bs w t then 34 else if r.ms.length = 15 then 31 else 0
def fresh (w : Int) : Mem := ⟨w, 0, 0, 0, -1⟩
def addR (r : Ros) (w : Int) : Ros := ⟨r.self, r.ms.take (pos r.ms w) ++ fresh w :: r.ms.drop (pos r.ms w), delB r.bs w, r.cur⟩
/-- Nothing else is touched. -/
def Only (H H' : AHeap) (n L B L' : Nat) : Prop := H.next ≤ H'.next ∧ (∀ q, q < H.next → q ≠ n → q ≠ L → q ≠ B → H'.get q = H.get q) ∧ (L' = L ∨ (H.next ≤ L' ∧ L' < H'.next))
theorem Only.refl (H : AHeap) (n L B : Nat) : Only H H n L B L := ⟨Nat.le_refl _, fun _ _ _ _ _ => rfl, .inl rfl⟩

theorem add_calls (H : AHeap) (n L B : Nat) (r : Ros) (w t : Int) (hR : RosAt H n L B r) (hs : Sorted r.ms) (hl : r.ms.length ≤ 15) :
    ACalls Try.prog 13 [.ptr n 0, .v (.int .i64 w), .v (.int .i64 t)] H (fun v H' => ∃ L', v = .v (.int .i64 (addE r w t)) ∧ RosAt H' n L' B (if addE r w t = 0 then addR r w else r) ∧ Only H H' n L B L') := by
  have hR0 := hR
  obtain ⟨x0, hn, hM, hB⟩ := hR
  have hx1 := hM.one
  have hsl := hM.isSl
  have hno : ∀ e : Int, addE r w t = e → e ≠ 0 → ∃ L', AV.v (.int .i64 e) = .v (.int .i64 (addE r w t)) ∧ RosAt H n L' B (if addE r w t = 0 then addR r w else r) ∧ Only H H n L B L' := by
    intro e he h0
    subst he
    exact ⟨L, rfl, by rw [if_neg h0]; exact hR0, Only.refl H n L B⟩
  refine ACalls.lts fun hlt => ?_
  refine ACalls.of_body tok Try.func13 rfl Try.ntmps13 (Nat.le_of_ble_eq_true rfl) ?_
  refine AW.seq_region (fun K hK => ?_)
  refine AL.step rfl rfl rfl qRA18 ?_
  refine AL.nil_then (hK _ _ ?_); clear hK K
  refine AW.seq_region (fun K hK => ?_)
  refine AL.step rfl rfl rfl qRA19 ?_
  refine AL.step rfl rfl rfl qRA19 ?_
  refine AL.step rfl rfl rfl (by exact AStepD.callf rfl en29 rfl (find_calls _ n L B r w hR0 hs (by omega))) ?_
  refine AL.step rfl rfl rfl qRA19 ?_
  refine AL.step rfl rfl rfl qRB6 ?_
  refine AL.step rfl rfl rfl qRB6 ?_
  refine AL.step rfl rfl rfl qRA18 ?_
  refine AL.step rfl rfl rfl qRA18 ?_
  refine AL.nil_then (hK _ _ ?_); clear hK K
  refine AW.seq_region (fun K hK => ?_)
  refine AL.step rfl rfl rfl qRA19 ?_
  refine AL.step rfl rfl rfl qRA19 ?_
  refine AL.step rfl rfl rfl qRA19 ?_
  refine AL.step rfl rfl rfl (by exact AStepD.callf rfl en30 rfl (asked_calls _ n L B r w t hR0)) ?_
  refine AL.step rfl rfl rfl qRA18 ?_
  refine AL.nil_then (hK _ _ ?_); clear hK K
  refine AW.seq_k (fun K hK => ?_)
  refine AW.block ?_
  refine AW.seq_region (fun K hK => ?_)
  refine AL.step rfl rfl rfl qRA19 ?_
  refine AL.step rfl rfl rfl qRA2 ?_
  refine AL.step rfl rfl rfl qRA18 ?_
  refine AL.nil_then (hK _ _ ?_); clear hK K
  refine AW.cond _ rfl (fun hc => ?_) (fun hc => ?_)
  · have hc := of_decide_eq_true hc
    refine AW.seq_region (fun K hK => ?_)
    refine AL.step rfl rfl rfl qRA19 ?_
    refine AL.step rfl rfl rfl qRA18 ?_
    refine AL.nil_then (hK _ _ ?_); clear hK K
    exact AW.ret (RetQ.mk (.inr rfl) (retA_tmp rfl qRA1 retA_nil) (hno _ (by rw [addE, if_pos hc]) hc))
  have hc := of_decide_eq_false hc
  refine AW.seq_region (fun K hK => ?_)
  refine AL.step rfl rfl rfl qRA19 ?_
  refine AL.step rfl rfl rfl qRA18 ?_
  refine AL.nil_then (hK _ _ ?_); clear hK K
  refine AW.cond _ rfl (fun hc2 => ?_) (fun hc2 => ?_)
  · refine AW.seq_region (fun K hK => ?_)
    refine AL.step rfl rfl rfl qRA18 ?_
    refine AL.nil_then (hK _ _ ?_); clear hK K
    exact AW.ret (RetQ.mk (.inr rfl) (retA_tmp rfl qRA1 retA_nil) (hno _ (by rw [addE, if_neg hc, if_pos hc2]) (by decide)))
  refine AW.seq_region (fun K hK => ?_)
  refine AL.step rfl rfl rfl qRA19 ?_
  refine AL.step rfl rfl rfl qRA19 ?_
  refine AL.step rfl rfl rfl qRA19 ?_
  refine AL.step rfl rfl rfl (by exact AStepD.callf rfl en18 rfl (banned_calls _ n L B r w t hR0)) ?_
  refine AL.step rfl rfl rfl qRA18 ?_
  refine AL.nil_then (hK _ _ ?_); clear hK K
  refine AW.cond _ rfl (fun hc3 => ?_) (fun hc3 => ?_)
  · refine AW.seq_region (fun K hK => ?_)
    refine AL.step rfl rfl rfl qRA18 ?_
    refine AL.nil_then (hK _ _ ?_); clear hK K
    exact AW.ret (RetQ.mk (.inr rfl) (retA_tmp rfl qRA1 retA_nil) (hno _ (by rw [addE, if_neg hc, if_neg (by rw [hc2]; decide), if_pos hc3]) (by decide)))
  refine AW.seq_region (fun K hK => ?_)
  refine AL.step rfl rfl rfl qRA19 ?_
  refine AL.step rfl rfl rfl qRB3 ?_
  refine AL.step rfl rfl rfl qRD9 ?_
  refine AL.step rfl rfl rfl qRB5 ?_
  refine AL.step rfl rfl rfl qRC9 ?_
  refine AL.step rfl rfl rfl qRA16 ?_
  refine AL.step rfl rfl rfl qRA18 ?_
  refine AL.nil_then (hK _ _ ?_); clear hK K
  refine AW.cond _ rfl (fun hc4 => ?_) (fun hc4 => ?_)
  · have hc4 := of_decide_eq_true hc4
    refine AW.seq_region (fun K hK => ?_)
    refine AL.step rfl rfl rfl qRA18 ?_
    refine AL.nil_then (hK _ _ ?_); clear hK K
    exact AW.ret (RetQ.mk (.inr rfl) (retA_tmp rfl qRA1 retA_nil) (hno _ (by rw [addE, if_neg hc, if_neg (by rw [hc2]; decide), if_neg (by rw [hc3]; decide), if_pos (by omega)]) (by decide)))
  have hc4 := of_decide_eq_false hc4
  refine AW.skip (hK _ _ ?_); clear hK K
  have he : addE r w t = 0 := by rw [addE, if_neg hc, if_neg (by rw [hc2]; decide), if_neg (by rw [hc3]; decide), if_neg (by omega)]
  have hnl := hlt _ _ hn
  have hBl := hlt _ _ hB
  have hnB : n ≠ B := by rintro rfl; rw [hn] at hB; simp at hB
  have hpl := pos_le r.ms w
  obtain ⟨L0, hM0, hL0⟩ := hM.pick hlt
  have hL0n : L0 ≠ n := by
    rcases hL0 with ⟨rfl, _, h⟩ | ⟨rfl, _⟩
    · rintro rfl; rw [hn] at h; simp at h
    · omega
  have hL0B : L0 ≠ B := by
    rcases hL0 with ⟨rfl, _, h⟩ | ⟨rfl, _⟩
    · rintro rfl; rw [hB] at h; simp at h
    · omega
  have hL0v : L0 ≠ H.next := by rcases hL0 with ⟨_, h, _⟩ | ⟨h, _⟩ <;> omega
  refine AW.seq_region (fun K hK => ?_)
  refine AL.step rfl rfl rfl qRA19 ?_
  refine AL.step rfl rfl rfl qRB3 ?_
  refine AL.step rfl rfl rfl qRB17 ?_
  refine AL.step rfl rfl rfl qRB5 ?_
  refine AL.step rfl rfl rfl qRA19 ?_
  refine AL.step0 rfl rfl (by exact AStepD.delete tok rfl rfl rfl rfl rfl rfl rfl qRA6 (delI_bans _ _)) ?_
  refine AL.nil_then (hK _ _ ?_); clear hK K
  refine AW.seq_region (fun K hK => ?_)
  refine AL.step rfl rfl rfl qRA19 ?_
  refine AL.step rfl rfl rfl qRA19 ?_
  refine AL.step rfl rfl rfl qRB3 ?_
  refine AL.step rfl rfl rfl qRD9 ?_
  refine AL.step rfl rfl rfl qRB5 ?_
  refine AL.step rfl rfl rfl qRA19 ?_
  refine AL.step rfl rfl rfl qRA19 ?_
  refine AL.step rfl rfl rfl (by exact AStepD.val (AStepD.build tok rfl rfl rfl (by decide) rfl (show ∀ p ∈ [((0 : Nat), AV.v (.int .i64 w)), (4, AV.v (.int .i64 (-1)))], ∀ x ∈ p.2.cells, x.one = true from by simp [AV.cells, AV.one, Value.oneCell'])) (show _ = AV.agg (fresh w).cells from rfl)) ?_
  refine AL.step rfl rfl rfl (by exact AStepD.buildSlice1 tok rfl rfl rfl rfl (show _ = 5 from rfl) rfl (show _ = (fresh w).cells from rfl) rfl (by decide) (fresh w).one) ?_
  refine AL.call rfl rfl rfl (AStep.callf' rfl en31 rfl (insert_calls _ L0 _ (pos r.ms w) x0 r.ms (fresh w) (hM0 _ fun hl => qRC4) qRA6 (.inr qRC3) hpl (by omega))) ?_; rintro y H5 ⟨L5, hM5, hn5, hk5, hL5, hl5⟩; have hy1 := hM5.one; have hg5 : H5.get n = some (.cells 62 [.v (.int .i64 r.self), x0, .map B, .v (.int .i64 r.cur)]) := (hk5 n qRC3 (Ne.symm hL0n)).trans qRA6; have hgB5 : H5.get B = some (.map (imap .i64 (bansA (delB r.bs w)))) := (hk5 B qRC3 (Ne.symm hL0B)).trans qRA6; have hL5n : L5 ≠ n := by (rintro rfl; rcases hM5.loc with h | h; (simp at h); (rw [hg5] at h; simp at h))
  refine AL.step rfl rfl rfl qRB3 ?_
  refine AL.step rfl rfl rfl qRD9 ?_
  refine AL.step0 rfl rfl (by exact AStepD.store' tok rfl rfl qRA6 qRA1 (by first | exact one_cells (by with_reducible assumption) | exact qRA1) qRA4 rfl qRA1 rfl qRA12 qRD7) ?_
  refine AL.nil_then (hK _ _ ?_); clear hK K
  refine AW.seq_region (fun K hK => ?_)
  refine AL.step rfl rfl rfl qRA18 ?_
  refine AL.nil_then (hK _ _ ?_); clear hK K
  refine AW.ret (RetQ.mk (.inr rfl) (retA_tmp rfl qRA1 retA_nil) ⟨L5, by rw [he]; rfl, ?_, ?_, ?_, ?_⟩)
  · rw [if_pos he]
    refine ⟨y, qRA6, hM5.same ?_, qRA6⟩
    exact qRC4
  · simp only [za, zb, zc] at hn5 ⊢
    omega
  · intro q h1 h2 h3 h4
    rw [z4 _ _ h2, hk5 q qRC3 (by rcases hL0 with ⟨e, _, _⟩ | ⟨e, _⟩ <;> omega)]
    exact qRC4
  · simp only [za, zb, zc] at hL5 hl5 ⊢
    rcases hL5 with h | h
    · rcases hL0 with ⟨e, _, _⟩ | ⟨e, _⟩
      · exact .inl (h.trans e)
      · right; omega
    · right
      omega
end Go.Proofs.Ytjiifddmcmbbnaa
