/- The walks of the roster's anchor. -/
import Derived.Test.YtjiifddmcmbbnaaRE
namespace Go.Proofs.Ytjiifddmcmbbnaa
open Go.Ax
theorem qRF1 {p : Prop} (h : p := by first | exact AStepD.buildSlice0 tok rfl rfl rfl rfl (show _ = 1 from rfl) | exact AStepD.buildSlice1 tok rfl rfl rfl rfl (show _ = 1 from rfl) qRA1 qRA1 qRA11 (by decide) qRA4 | exact AStepD.buildSlice_seq tok rfl rfl rfl rfl (show _ = 1 from rfl) (map_p qRA1 (map_p qRA1 map_n)) rfl (by decide) (by decide) rfl qRD5 qRA4 | exact AStepD.buildSlice tok rfl rfl rfl rfl qRA1 (by decide) (by decide) rfl qRA4) : p := h
set_option linter.unusedSimpArgs false
set_option linter.unusedVariables false

theorem same_calls (H H0 : AHeap) (a b : List Int) (y : AV) (hy : Ints H0 H y b) (hl : a.length ≤ 1000000) :
    ACalls Try.prog 24 [.vec a.length (intsA a), y] H (fun v H' => v = .v (.bool (decide (a = b))) ∧ H' = H) := by
  have hysl := hy.isSl
  have hia := intsA_length a
  have hib := intsA_length b
  refine ACalls.of_body tok Try.func24 rfl Try.ntmps24 (Nat.le_of_ble_eq_true rfl) ?_
  refine AW.seq_region (fun K hK => ?_)
  refine AL.step rfl rfl rfl qRA18 ?_
  refine AL.nil_then (hK _ _ ?_); clear hK K
  refine AW.seq_k (fun K hK => ?_)
  refine AW.seq_region (fun K hK => ?_)
  refine AL.step rfl rfl rfl qRA19 ?_
  refine AL.step rfl rfl rfl qRC9 ?_
  refine AL.step rfl rfl rfl qRA19 ?_
  refine AL.step rfl rfl rfl qRC9 ?_
  refine AL.step rfl rfl rfl qRA2 ?_
  refine AL.nil_then (hK _ _ ?_); clear hK K
  refine AW.cond _ rfl (fun hc => ?_) (fun hc => ?_)
  · have hne : a ≠ b := by rintro rfl; simp at hc
    refine AW.seq_region (fun K hK => ?_)
    refine AL.step rfl rfl rfl qRA18 ?_
    refine AL.nil_then (hK _ _ ?_); clear hK K
    refine AW.ret (RetQ.mk (.inr rfl) (retA_tmp rfl qRA1 retA_nil) ⟨?_, rfl⟩)
    rw [decide_eq_false hne]; rfl
  · refine AW.skip (hK _ _ ?_); clear hK K
    have hlen : a.length = b.length := by have := of_decide_eq_false hc; omega
    refine AW.seq_k (fun K hK => ?_)
    refine AW.seq_region (fun K hK => ?_)
    refine AL.step rfl rfl rfl qRA19 ?_
    refine AL.step rfl rfl rfl qRC9 ?_
    refine AL.step rfl rfl rfl qRA19 ?_
    refine AL.nil_then (hK _ _ ?_); clear hK K
    refine AW.block ?_
    refine AW.loop_at (ι := Nat) (fun x => [(14, .v (.int .i64 x)), (13, .v (.int .i64 a.length)), (12, .vec a.length (intsA a)), (1, y)])
      (fun x H' => x ≤ a.length ∧ a.take x = b.take x ∧ H' = H) (fun x => a.length - x) 0 qRA21 ⟨Nat.zero_le _, rfl, rfl⟩ ?_
    rintro i H1 ⟨hi, hab, rfl⟩
    refine AW.seq_region (fun K hK => ?_)
    refine AL.step rfl rfl rfl qRA3 ?_
    refine AL.nil_then (hK _ _ ?_); clear hK K
    refine AW.seq_k (fun K1 hK1 => ?_)
    refine AW.cond _ rfl (fun hc2 => ?_) (fun hc2 => ?_)
    · refine AW.skip (hK1 _ _ ?_); clear hK1 K1
      have hil : i < a.length := by have := of_decide_eq_true hc2; omega
      obtain ⟨D, rfl, _, hD⟩ := hy.at (i := i) (by omega)
      have hav : ((intsA a).drop (i * 1))[0]? = some (.v (.int .i64 a[i])) := by rw [Nat.mul_one, List.getElem?_drop, Nat.add_zero]; exact intsA_at a i hil
      have hbv : (intsA b)[i * 1]? = some (.v (.int .i64 (b[i]'(by omega)))) := by rw [Nat.mul_one]; exact intsA_at b i (by omega)
      refine AW.seq_k (fun K1 hK1 => ?_)
      refine AW.block ?_
      refine AW.seq_region (fun K hK => ?_)
      refine AL.step rfl rfl rfl qRA19 ?_
      refine AL.step rfl rfl rfl qRE4 ?_
      refine AL.step rfl rfl rfl qRB5 ?_
      refine AL.step rfl rfl rfl qRA18 ?_
      refine AL.step rfl rfl rfl qRA18 ?_
      refine AL.nil_then (hK _ _ ?_); clear hK K
      refine AW.seq_region (fun K hK => ?_)
      refine AL.step rfl rfl rfl qRA19 ?_
      refine AL.step rfl rfl rfl qRA19 ?_
      refine AL.step rfl rfl rfl qRA19 ?_
      refine AL.step rfl rfl rfl qRE4 ?_
      refine AL.step rfl rfl rfl qRB5 ?_
      refine AL.step rfl rfl rfl qRA2 ?_
      refine AL.nil_then (hK _ _ ?_); clear hK K
      refine AW.cond _ rfl (fun hc3 => ?_) (fun hc3 => ?_)
      · have hne : a ≠ b := by rintro rfl; simp at hc3
        refine AW.seq_region (fun K hK => ?_)
        refine AL.step rfl rfl rfl qRA18 ?_
        refine AL.nil_then (hK _ _ ?_); clear hK K
        refine AW.ret (RetQ.mk (.inr rfl) (retA_tmp rfl qRA1 retA_nil) ⟨?_, rfl⟩)
        rw [decide_eq_false hne]; rfl
      · have he : a[i] = b[i]'(by omega) := by have := of_decide_eq_false hc3; omega
        refine AW.skip ?_
        refine hK1 _ _ ?_; clear hK1 K1
        refine AW.region ?_
        refine AL.step rfl rfl rfl qRA22 ?_
        refine AL.step rfl rfl rfl qRA19 ?_
        refine AL.nil ?_
        refine ⟨i + 1, ?_, qRA21, hil, ?_, rfl⟩
        · show a.length - (i + 1) < a.length - i
          omega
        · rw [take_next a i hil, take_next b i (by omega), hab, he]
    · refine AW.exit ?_
      refine hK _ _ ?_; clear hK1 K1 hK K
      have hil : i = a.length := by have := of_decide_eq_false hc2; omega
      have he : a = b := by
        rw [hil, List.take_length, hlen, List.take_length] at hab
        exact hab
      refine AW.seq_region (fun K hK => ?_)
      refine AL.step rfl rfl rfl qRA18 ?_
      refine AL.nil_then (hK _ _ ?_); clear hK K
      refine AW.ret (RetQ.mk (.inr rfl) (retA_tmp rfl qRA1 retA_nil) ⟨?_, rfl⟩)
      rw [decide_eq_true he]; rfl

theorem same_ok (H H0 : AHeap) (a : List Int) (y : AV) (hy : Ints H0 H y a) (hl : a.length ≤ 1000000) :
    ACalls Try.prog 24 [.vec a.length (intsA a), y] H (fun v H' => v = .v (.bool true) ∧ H' = H) := by
  have := same_calls H H0 a a y hy hl
  simpa using this
theorem has_false {ms : List Mem} {w : Int} (h : has ms w = false) : ∀ m ∈ ms, m.i ≠ w := by
  intro m hm e
  have : has ms w = true := by
    simp only [has, List.any_eq_true, decide_eq_true_eq]
    exact ⟨m, hm, e⟩
  rw [h] at this; cases this
theorem Sorted.add {ms : List Mem} {w : Int} {m : Mem} (h : Sorted ms) (hn : has ms w = false) (hm : m.i = w) : Sorted (ms.take (pos ms w) ++ m :: ms.drop (pos ms w)) := by
  have hgt : ∀ a ∈ ms.drop (pos ms w), w < a.i := by
    intro a ha
    have hne := has_false hn a (List.mem_of_mem_drop ha)
    obtain ⟨i, hi, rfl⟩ := List.mem_iff_getElem.1 ha
    rw [List.getElem_drop] at hne ⊢
    rw [List.length_drop] at hi
    have h0 := pos_ge ms w (by omega)
    by_cases e : i = 0
    · subst e
      simp only [Nat.add_zero] at hne ⊢
      omega
    · have := h.lt (a := pos ms w) (b := pos ms w + i) (by omega) (by omega)
      omega
  have hlt : ∀ a ∈ ms.take (pos ms w), a.i < w := by
    intro a ha
    obtain ⟨i, hi, rfl⟩ := List.mem_iff_getElem.1 ha
    rw [List.length_take] at hi
    rw [List.getElem_take]
    exact pos_lt ms w i (by omega) (by omega)
  rw [Sorted, List.pairwise_append]
  refine ⟨h.sublist (List.take_sublist _ _), List.pairwise_cons.2 ⟨fun a ha => by rw [hm]; exact hgt a ha, h.sublist (List.drop_sublist _ _)⟩, fun a ha b hb => ?_⟩
  rcases List.mem_cons.1 hb with rfl | hb
  · rw [hm]; exact hlt a ha
  · have := hlt a ha
    have := hgt b hb
    omega
theorem addE_zero {r : Ros} {w t : Int} (h : addE r w t = 0) : asked r.self w t = 0 ∧ has r.ms w = false ∧ banned r.bs w t = false ∧ r.ms.length ≠ 15 := by
  unfold addE at h
  split at h
  · contradiction
  · rename_i h1
    split at h
    · cases h
    · rename_i h2
      split at h
      · cases h
      · rename_i h3
        split at h
        · cases h
        · rename_i h4
          exact ⟨by omega, by simpa using h2, by simpa using h3, h4⟩
/-- What holds of every roster. -/
def Inv (r : Ros) : Prop := Sorted r.ms ∧ r.ms.length ≤ 15
theorem addR_length (r : Ros) (w : Int) : (addR r w).ms.length = r.ms.length + 1 := by
  have := pos_le r.ms w
  simp [addR]; omega
theorem Inv.add {r : Ros} {w t : Int} (h : Inv r) (he : addE r w t = 0) : Inv (addR r w) := by
  obtain ⟨_, h2, _, h4⟩ := addE_zero he
  have := h.2
  exact ⟨h.1.add h2 rfl, by rw [addR_length]; omega⟩
theorem Inv.new (a : Int) : Inv ⟨a, [], [], 0⟩ := ⟨List.Pairwise.nil, Nat.zero_le _⟩

theorem Only.keep {H0 H H' : AHeap} {n L B L' : Nat} (ho : Only H H' n L B L') (hk : Keep H0 H) (hn : H0.next ≤ n) (hL : H0.next ≤ L) (hB : H0.next ≤ B) : Keep H0 H' ∧ H0.next ≤ L' := by
  obtain ⟨h1, h2, h3⟩ := ho
  have := hk.1
  refine ⟨⟨by omega, fun l hl => (h2 l (by omega) (by omega) (by omega) (by omega)).trans (hk.2 l hl)⟩, by omega⟩

theorem add_ok (H : AHeap) (n L B : Nat) (r : Ros) (w t : Int) (hR : RosAt H n L B r) (hi : Inv r) (he : addE r w t = 0) :
    ACalls Try.prog 13 [.ptr n 0, .v (.int .i64 w), .v (.int .i64 t)] H (fun v H' => ∃ L', v = .v (.int .i64 0) ∧ RosAt H' n L' B (addR r w) ∧ Only H H' n L B L') := by
  have := add_calls H n L B r w t hR hi.1 hi.2
  simpa only [he, if_true] using this
theorem next_ok (H : AHeap) (n L B : Nat) (r : Ros) (k w : Int) (m : Nat) (l : List Int) (hR : RosAt H n L B r) (hi : Inv r) (hcur : r.cur ≤ 1000000000000) (hm : many k (allBut r.ms w).length = m) (ht : turn (allBut r.ms w) r.cur m = l) :
    ACalls Try.prog 14 [.ptr n 0, .v (.int .i64 k), .v (.int .i64 w)] H (fun v H' => v = .vec l.length (intsA l) ∧ RosAt H' n L B { r with cur := r.cur + m } ∧ Only H H' n L B L) := by
  have h15 := hi.2
  have := next_calls H n L B r k w hR (by omega) hcur
  rw [hm, ht] at this
  have hl : l.length = m := by rw [← ht, turn_length]
  rw [hl]
  exact this
theorem anchor_calls (H : AHeap) : ACalls Try.prog 10 [] H (fun v H' => v = .v (.bool true) ∧ H' = H) := by
  refine ACalls.quiet_keep ?_ (.v _)
  have e0 : addE ⟨5, [], [], 0⟩ 7 0 = 0 := by decide
  have i0 := Inv.add (Inv.new 5) e0
  have e1 : addE (addR ⟨5, [], [], 0⟩ 7) 3 0 = 0 := by decide
  have i1 := i0.add e1
  have e2 : addE (addR (addR ⟨5, [], [], 0⟩ 7) 3) 9 0 = 0 := by decide
  have i2 := i1.add e2
  refine ACalls.of_body tok Try.func10 rfl Try.ntmps10 (Nat.le_of_ble_eq_true rfl) ?_
  refine AW.seq_region (fun K hK => ?_)
  refine AL.step rfl rfl rfl qRA18 ?_
  refine AL.nil_then (hK _ _ ?_); clear hK K
  refine AW.seq_region (fun K hK => ?_)
  refine AL.call rfl rfl rfl (AStep.callf' rfl en11 rfl (new_ok _ 5 rfl)) ?_; rintro _ H1 ⟨rfl, hR1, hk1, hx1⟩
  refine AL.step rfl rfl rfl qRA19 ?_
  refine AL.step rfl rfl rfl qRB6 ?_
  refine AL.step rfl rfl rfl qRB6 ?_
  refine AL.step rfl rfl rfl qRA18 ?_
  refine AL.step rfl rfl rfl qRA18 ?_
  refine AL.nil_then (hK _ _ ?_); clear hK K
  refine AW.seq_k (fun K hK => ?_)
  have hK1 : Keep H H1 := hk1
  refine AW.seq_region (fun K hK => ?_)
  refine AL.step rfl rfl rfl qRA19 ?_
  refine AL.step rfl rfl rfl qRA2 ?_
  refine AL.step rfl rfl rfl qRA19 ?_
  first | refine AL.gstep rfl rfl rfl rfl rfl rfl rfl qRA19 ?_ | refine AL.gskip rfl rfl rfl rfl rfl rfl rfl ?_ | refine AL.gnone rfl rfl rfl rfl rfl ?_ | refine AL.gmay rfl rfl rfl rfl rfl rfl qRA40 ?_ | refine AL.gmay2 rfl rfl rfl rfl rfl rfl qRA41 ?_
  first | refine AL.gstep rfl rfl rfl rfl rfl rfl rfl qRA16 ?_ | refine AL.gskip rfl rfl rfl rfl rfl rfl rfl ?_ | refine AL.gnone rfl rfl rfl rfl rfl ?_ | refine AL.gmay rfl rfl rfl rfl rfl rfl (fun hb => by (try (apply AStepD.uncond 10 rfl (gpf hb))); exact qRA16) ?_ | refine AL.gmay2 rfl rfl rfl rfl rfl rfl (fun _ hb => by (try (apply AStepD.uncond 10 rfl (gpf hb))); exact qRA16) ?_
  refine AL.step rfl rfl rfl qRA28 ?_
  refine AL.step rfl rfl rfl qRA19 ?_
  first | refine AL.gstep rfl rfl rfl rfl rfl rfl rfl qRA19 ?_ | refine AL.gskip rfl rfl rfl rfl rfl rfl rfl ?_ | refine AL.gnone rfl rfl rfl rfl rfl ?_ | refine AL.gmay rfl rfl rfl rfl rfl rfl qRA40 ?_ | refine AL.gmay2 rfl rfl rfl rfl rfl rfl qRA41 ?_
  refine AL.gcall rfl rfl rfl rfl rfl rfl rfl (AStep.callf' rfl en13 rfl (add_ok _ _ _ _ _ 7 0 hR1 (Inv.new 5) e0)) ?_; rintro _ H2 ⟨L2, rfl, hR2, hO2⟩; obtain ⟨hK2, hL2⟩ := hO2.keep hK1 (by omega) (by omega) (by omega)
  first | refine AL.gstep rfl rfl rfl rfl rfl rfl rfl qRA2 ?_ | refine AL.gskip rfl rfl rfl rfl rfl rfl rfl ?_ | refine AL.gnone rfl rfl rfl rfl rfl ?_ | refine AL.gmay rfl rfl rfl rfl rfl rfl (fun hb => by (try (apply AStepD.uncond 15 rfl (gpf hb))); exact qRA2) ?_ | refine AL.gmay2 rfl rfl rfl rfl rfl rfl (fun _ hb => by (try (apply AStepD.uncond 15 rfl (gpf hb))); exact qRA2) ?_
  refine AL.step rfl rfl rfl qRA28 ?_
  refine AL.step rfl rfl rfl qRA19 ?_
  first | refine AL.gstep rfl rfl rfl rfl rfl rfl rfl qRA19 ?_ | refine AL.gskip rfl rfl rfl rfl rfl rfl rfl ?_ | refine AL.gnone rfl rfl rfl rfl rfl ?_ | refine AL.gmay rfl rfl rfl rfl rfl rfl qRA40 ?_ | refine AL.gmay2 rfl rfl rfl rfl rfl rfl qRA41 ?_
  refine AL.gcall rfl rfl rfl rfl rfl rfl rfl (AStep.callf' rfl en13 rfl (add_ok _ _ _ _ _ 3 0 hR2 i0 e1)) ?_; rintro _ H3 ⟨L3, rfl, hR3, hO3⟩; obtain ⟨hK3, hL3⟩ := hO3.keep hK2 (by omega) hL2 (by omega)
  first | refine AL.gstep rfl rfl rfl rfl rfl rfl rfl qRA2 ?_ | refine AL.gskip rfl rfl rfl rfl rfl rfl rfl ?_ | refine AL.gnone rfl rfl rfl rfl rfl ?_ | refine AL.gmay rfl rfl rfl rfl rfl rfl (fun hb => by (try (apply AStepD.uncond 20 rfl (gpf hb))); exact qRA2) ?_ | refine AL.gmay2 rfl rfl rfl rfl rfl rfl (fun _ hb => by (try (apply AStepD.uncond 20 rfl (gpf hb))); exact qRA2) ?_
  refine AL.step rfl rfl rfl qRA28 ?_
  refine AL.step rfl rfl rfl qRA19 ?_
  first | refine AL.gstep rfl rfl rfl rfl rfl rfl rfl qRA19 ?_ | refine AL.gskip rfl rfl rfl rfl rfl rfl rfl ?_ | refine AL.gnone rfl rfl rfl rfl rfl ?_ | refine AL.gmay rfl rfl rfl rfl rfl rfl qRA40 ?_ | refine AL.gmay2 rfl rfl rfl rfl rfl rfl qRA41 ?_
  refine AL.gcall rfl rfl rfl rfl rfl rfl rfl (AStep.callf' rfl en13 rfl (add_ok _ _ _ _ _ 9 0 hR3 i1 e2)) ?_; rintro _ H4 ⟨L4, rfl, hR4, hO4⟩; obtain ⟨hK4, hL4⟩ := hO4.keep hK3 (by omega) hL3 (by omega)
  first | refine AL.gstep rfl rfl rfl rfl rfl rfl rfl qRA2 ?_ | refine AL.gskip rfl rfl rfl rfl rfl rfl rfl ?_ | refine AL.gnone rfl rfl rfl rfl rfl ?_ | refine AL.gmay rfl rfl rfl rfl rfl rfl (fun hb => by (try (apply AStepD.uncond 25 rfl (gpf hb))); exact qRA2) ?_ | refine AL.gmay2 rfl rfl rfl rfl rfl rfl (fun _ hb => by (try (apply AStepD.uncond 25 rfl (gpf hb))); exact qRA2) ?_
  refine AL.step rfl rfl rfl qRA28 ?_
  refine AL.nil_then (hK _ _ ?_); clear hK K
  refine AW.cond_false rfl rfl (AW.skip (hK _ _ ?_)); clear hK K
  refine AW.sub (T' := [(1, .ptr (H.next + 1) 0)]) qRA21 ?_
  refine AW.lts fun hlt4 => ?_
  refine AW.seq_region (fun K hK => ?_)
  refine AL.step rfl rfl rfl qRA19 ?_
  refine AL.call rfl rfl rfl (AStep.callf' rfl en14 rfl (next_ok _ _ _ _ _ 2 0 2 [3, 7] hR4 i2 (by decide) (by decide) (by decide))) ?_; rintro _ H5 ⟨rfl, hR5, hO5⟩; obtain ⟨hK5, _⟩ := hO5.keep hK4 (by omega) hL4 (by omega); refine AL.lts fun hlt5 => ?_; have hn5 := hK5.1
  refine AL.step rfl rfl rfl qRF1 ?_
  refine AL.step rfl rfl rfl (by exact AStepD.callf rfl en24 rfl (same_ok _ H [3, 7] _ (Ints.mk (l := [3, 7]) qRC3 qRA6 rfl rfl) (by decide))) ?_
  refine AL.step rfl rfl rfl qRA19 ?_
  first | refine AL.gstep rfl rfl rfl rfl rfl rfl rfl qRA19 ?_ | refine AL.gskip rfl rfl rfl rfl rfl rfl rfl ?_ | refine AL.gnone rfl rfl rfl rfl rfl ?_ | refine AL.gmay rfl rfl rfl rfl rfl rfl qRA40 ?_ | refine AL.gmay2 rfl rfl rfl rfl rfl rfl qRA41 ?_
  refine AL.gcall rfl rfl rfl rfl rfl rfl rfl (AStep.callf' rfl en14 rfl (next_ok _ _ _ _ _ 2 0 2 [9, 3] (hR5.keep hlt5 qRA8) i2 (by decide) (by decide) (by decide))) ?_; rintro _ H6 ⟨rfl, hR6, hO6⟩; obtain ⟨hK6, _⟩ := hO6.keep (hK5.trans qRA8) (by omega) hL4 (by omega); refine AL.lts fun hlt6 => ?_; have hn6 := hK6.1
  first | refine AL.gstep rfl rfl rfl rfl rfl rfl rfl qRF1 ?_ | refine AL.gskip rfl rfl rfl rfl rfl rfl rfl ?_ | refine AL.gnone rfl rfl rfl rfl rfl ?_ | refine AL.gmay rfl rfl rfl rfl rfl rfl (fun hb => by exact qRF1) ?_ | refine AL.gmay2 rfl rfl rfl rfl rfl rfl (fun _ hb => by exact qRF1) ?_
  first | refine AL.gstep rfl rfl rfl rfl rfl rfl rfl (by exact AStepD.callf rfl en24 rfl (same_ok _ H [9, 3] _ (Ints.mk (l := [9, 3]) qRC3 qRA6 rfl rfl) (by decide))) ?_ | refine AL.gskip rfl rfl rfl rfl rfl rfl rfl ?_ | refine AL.gnone rfl rfl rfl rfl rfl ?_ | refine AL.gmay rfl rfl rfl rfl rfl rfl (fun hb => by (try (apply AStepD.uncond 34 rfl (gpf hb))); (try (apply AStepD.uncond 35 rfl (gpf hb))); exact (by exact AStepD.callf rfl en24 rfl (same_ok _ H [9, 3] _ (Ints.mk (l := [9, 3]) qRC3 qRA6 rfl rfl) (by decide)))) ?_ | refine AL.gmay2 rfl rfl rfl rfl rfl rfl (fun _ hb => by (try (apply AStepD.uncond 34 rfl (gpf hb))); (try (apply AStepD.uncond 35 rfl (gpf hb))); exact (by exact AStepD.callf rfl en24 rfl (same_ok _ H [9, 3] _ (Ints.mk (l := [9, 3]) qRC3 qRA6 rfl rfl) (by decide)))) ?_
  refine AL.step rfl rfl rfl qRA28 ?_
  refine AL.step rfl rfl rfl qRA19 ?_
  first | refine AL.gstep rfl rfl rfl rfl rfl rfl rfl qRA19 ?_ | refine AL.gskip rfl rfl rfl rfl rfl rfl rfl ?_ | refine AL.gnone rfl rfl rfl rfl rfl ?_ | refine AL.gmay rfl rfl rfl rfl rfl rfl qRA40 ?_ | refine AL.gmay2 rfl rfl rfl rfl rfl rfl qRA41 ?_
  refine AL.gcall rfl rfl rfl rfl rfl rfl rfl (AStep.callf' rfl en14 rfl (next_ok _ _ _ _ _ 5 7 2 [3, 9] (hR6.keep hlt6 qRA8) i2 (by decide) (by decide) (by decide))) ?_; rintro _ H7 ⟨rfl, hR7, hO7⟩; obtain ⟨hK7, _⟩ := hO7.keep (hK6.trans qRA8) (by omega) hL4 (by omega); refine AL.lts fun hlt7 => ?_; have hn7 := hK7.1
  first | refine AL.gstep rfl rfl rfl rfl rfl rfl rfl qRF1 ?_ | refine AL.gskip rfl rfl rfl rfl rfl rfl rfl ?_ | refine AL.gnone rfl rfl rfl rfl rfl ?_ | refine AL.gmay rfl rfl rfl rfl rfl rfl (fun hb => by exact qRF1) ?_ | refine AL.gmay2 rfl rfl rfl rfl rfl rfl (fun _ hb => by exact qRF1) ?_
  first | refine AL.gstep rfl rfl rfl rfl rfl rfl rfl (by exact AStepD.callf rfl en24 rfl (same_ok _ H [3, 9] _ (Ints.mk (l := [3, 9]) qRC3 qRA6 rfl rfl) (by decide))) ?_ | refine AL.gskip rfl rfl rfl rfl rfl rfl rfl ?_ | refine AL.gnone rfl rfl rfl rfl rfl ?_ | refine AL.gmay rfl rfl rfl rfl rfl rfl (fun hb => by (try (apply AStepD.uncond 40 rfl (gpf hb))); (try (apply AStepD.uncond 41 rfl (gpf hb))); exact (by exact AStepD.callf rfl en24 rfl (same_ok _ H [3, 9] _ (Ints.mk (l := [3, 9]) qRC3 qRA6 rfl rfl) (by decide)))) ?_ | refine AL.gmay2 rfl rfl rfl rfl rfl rfl (fun _ hb => by (try (apply AStepD.uncond 40 rfl (gpf hb))); (try (apply AStepD.uncond 41 rfl (gpf hb))); exact (by exact AStepD.callf rfl en24 rfl (same_ok _ H [3, 9] _ (Ints.mk (l := [3, 9]) qRC3 qRA6 rfl rfl) (by decide)))) ?_
  refine AL.step rfl rfl rfl qRA28 ?_
  refine AL.step rfl rfl rfl qRA19 ?_
  first | refine AL.gstep rfl rfl rfl rfl rfl rfl rfl qRA19 ?_ | refine AL.gskip rfl rfl rfl rfl rfl rfl rfl ?_ | refine AL.gnone rfl rfl rfl rfl rfl ?_ | refine AL.gmay rfl rfl rfl rfl rfl rfl qRA40 ?_ | refine AL.gmay2 rfl rfl rfl rfl rfl rfl qRA41 ?_
  first | refine AL.gstep rfl rfl rfl rfl rfl rfl rfl (by exact AStepD.callf rfl en26 rfl (self_calls _ _ _ _ _ (hR7.keep hlt7 qRA8))) ?_ | refine AL.gskip rfl rfl rfl rfl rfl rfl rfl ?_ | refine AL.gnone rfl rfl rfl rfl rfl ?_ | refine AL.gmay rfl rfl rfl rfl rfl rfl (fun hb => by (try (apply AStepD.uncond 45 rfl (gpf hb))); exact (by exact AStepD.callf rfl en26 rfl (self_calls _ _ _ _ _ (hR7.keep hlt7 qRA8)))) ?_ | refine AL.gmay2 rfl rfl rfl rfl rfl rfl (fun _ hb => by (try (apply AStepD.uncond 45 rfl (gpf hb))); exact (by exact AStepD.callf rfl en26 rfl (self_calls _ _ _ _ _ (hR7.keep hlt7 qRA8)))) ?_
  first | refine AL.gstep rfl rfl rfl rfl rfl rfl rfl qRA16 ?_ | refine AL.gskip rfl rfl rfl rfl rfl rfl rfl ?_ | refine AL.gnone rfl rfl rfl rfl rfl ?_ | refine AL.gmay rfl rfl rfl rfl rfl rfl qRA26 ?_ | refine AL.gmay2 rfl rfl rfl rfl rfl rfl qRA27 ?_
  refine AL.step rfl rfl rfl qRA28 ?_
  refine AL.step rfl rfl rfl qRA18 ?_
  refine AL.nil_then (hK _ _ ?_); clear hK K
  refine AW.ret (RetQ.mk (.inr rfl) (retA_tmp rfl qRA1 retA_nil) ⟨rfl, hK7.trans qRA8⟩)
end Go.Proofs.Ytjiifddmcmbbnaa
