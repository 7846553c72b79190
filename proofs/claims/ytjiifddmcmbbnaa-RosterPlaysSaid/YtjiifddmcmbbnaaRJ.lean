/- The walk of the statement on forgetting. -/
import Derived.Test.YtjiifddmcmbbnaaRI
namespace Go.Proofs.Ytjiifddmcmbbnaa
open Go.Ax
theorem qRJ1 {p : Prop} (h : p := by exact AStepD.alloc tok rfl rfl) : p := h
theorem qRJ2 {p : Prop} (h : p := by exact (fun hb => by (try (apply AStepD.uncond 13 rfl (gpf hb))); exact qRA19)) : p := h
theorem qRJ3 {p : Prop} (h : p := by exact (fun _ hb => by (try (apply AStepD.uncond 13 rfl (gpf hb))); exact qRA19)) : p := h
theorem qRJ4 {p : Prop} (h : p := by exact (fun hb => by (try (apply AStepD.uncond 65 rfl (gpf hb))); exact qRA19)) : p := h
theorem qRJ5 {p : Prop} (h : p := by exact (fun _ hb => by (try (apply AStepD.uncond 65 rfl (gpf hb))); exact qRA19)) : p := h
theorem qRJ6 {p : Prop} (h : p := by exact (fun hb => by (try (apply AStepD.uncond 68 rfl (gpf hb))); exact qRC9)) : p := h
theorem qRJ7 {p : Prop} (h : p := by exact (fun _ hb => by (try (apply AStepD.uncond 68 rfl (gpf hb))); exact qRC9)) : p := h
theorem qRJ8 {p : Prop} (h : p := by exact (fun hb => by (try (apply AStepD.uncond 11 rfl (gpf hb))); exact qRA19)) : p := h
theorem qRJ9 {p : Prop} (h : p := by exact (fun _ hb => by (try (apply AStepD.uncond 11 rfl (gpf hb))); exact qRA19)) : p := h
theorem qRJ10 {p : Prop} (h : p := by exact AStepD.sub rfl rfl rfl qRA10) : p := h
theorem qRJ11 {p : Prop} (h : p := by exact (fun hb => by (try (apply AStepD.uncond 66 rfl (gpf hb))); (try (apply AStepD.uncond 72 rfl (gpf hb))); exact qRA28)) : p := h
theorem qRJ12 {p : Prop} (h : p := by exact (fun _ hb => by (try (apply AStepD.uncond 66 rfl (gpf hb))); (try (apply AStepD.uncond 72 rfl (gpf hb))); exact qRA28)) : p := h
theorem qRJ13 {p : Prop} (h : p := by exact (fun hb => by (try (apply AStepD.uncond 76 rfl (gpf hb))); exact qRB9)) : p := h
theorem qRJ14 {p : Prop} (h : p := by exact (fun _ hb => by (try (apply AStepD.uncond 76 rfl (gpf hb))); exact qRB9)) : p := h
theorem qRJ15 {p : Prop} (h : p := by exact (fun hb => by (try (apply AStepD.uncond 77 rfl (gpf hb))); exact qRA19)) : p := h
theorem qRJ16 {p : Prop} (h : p := by exact (fun _ hb => by (try (apply AStepD.uncond 77 rfl (gpf hb))); exact qRA19)) : p := h
theorem qRJ17 {p : Prop} (h : p := by exact (fun hb => by (try (apply AStepD.uncond 80 rfl (gpf hb))); exact qRC9)) : p := h
theorem qRJ18 {p : Prop} (h : p := by exact (fun _ hb => by (try (apply AStepD.uncond 80 rfl (gpf hb))); exact qRC9)) : p := h
theorem qRJ19 {p : Prop} (h : p := by exact (fun hb => by (try (apply AStepD.uncond 78 rfl (gpf hb))); (try (apply AStepD.uncond 83 rfl (gpf hb))); exact qRA28)) : p := h
theorem qRJ20 {p : Prop} (h : p := by exact (fun _ hb => by (try (apply AStepD.uncond 78 rfl (gpf hb))); (try (apply AStepD.uncond 83 rfl (gpf hb))); exact qRA28)) : p := h
theorem qRJ21 {p : Prop} (h : p := by exact (fun hb => by (try (apply AStepD.uncond 70 rfl (gpf hb))); exact qRJ10)) : p := h
theorem qRJ22 {p : Prop} (h : p := by exact (fun _ hb => by (try (apply AStepD.uncond 70 rfl (gpf hb))); exact qRJ10)) : p := h
set_option linter.unusedSimpArgs false
set_option linter.unusedVariables false

/-- All members are members. -/
def MemOK (r : Ros) : Prop := ∀ m ∈ r.ms, idB m.i = true ∧ m.i ≠ r.self
theorem MemOK.new (a : Int) : MemOK ⟨a, [], [], 0⟩ := fun _ h => absurd h List.not_mem_nil
theorem MemOK.add {r : Ros} {w t : Int} (h : MemOK r) (he : addE r w t = 0) : MemOK (addR r w) := by
  obtain ⟨h1, _⟩ := addE_zero he
  obtain ⟨h2, _, h3⟩ := asked_time h1
  intro m hm
  rcases List.mem_append.1 hm with hm | hm
  · exact h m (List.mem_of_mem_take hm)
  · rcases List.mem_cons.1 hm with rfl | hm
    · exact ⟨h2, h3⟩
    · exact h m (List.mem_of_mem_drop hm)
theorem MemOK.forget {r : Ros} {w t : Int} (h : MemOK r) : MemOK (forR r w t) := by
  intro m hm
  rcases List.mem_append.1 hm with hm | hm
  · exact h m (List.mem_of_mem_take hm)
  · exact h m (List.mem_of_mem_drop hm)
theorem has_mem {ms : List Mem} {w : Int} : has ms w = true ↔ ∃ m ∈ ms, m.i = w := by simp [has]
theorem has_none {ms : List Mem} {w : Int} (h : ∀ m ∈ ms, m.i ≠ w) : has ms w = false := by
  cases e : has ms w with
  | false => rfl
  | true =>
    obtain ⟨m, hm, hw⟩ := has_mem.1 e
    exact (h m hm hw).elim
theorem MemOK.asked {r : Ros} (h : MemOK r) {w t : Int} (hw : has r.ms w = true) (ht : timeB t = true) : asked r.self w t = 0 := by
  obtain ⟨m, hm, rfl⟩ := has_mem.1 hw
  obtain ⟨h1, h2⟩ := h m hm
  rw [Go.Proofs.Ytjiifddmcmbbnaa.asked, h1, ht, if_neg (by decide), if_neg h2]
theorem forR_none {r : Ros} {w t : Int} (hI : Inv r) (hw : has r.ms w = true) : has (forR r w t).ms w = false := by
  obtain ⟨hp, he⟩ := (has_at hI.1 w).1 hw
  refine has_none fun m hm => ?_
  rcases List.mem_append.1 hm with hm | hm
  · obtain ⟨i, hi, rfl⟩ := List.mem_iff_getElem.1 hm
    rw [List.length_take] at hi
    rw [List.getElem_take]
    have := pos_lt r.ms w i (by omega) (by omega)
    omega
  · obtain ⟨i, hi, rfl⟩ := List.mem_iff_getElem.1 hm
    rw [List.length_drop] at hi
    rw [List.getElem_drop]
    have := hI.1.lt (a := pos r.ms w) (b := pos r.ms w + 1 + i) (by omega) (by omega)
    omega
theorem forR_length {r : Ros} {w t : Int} (hI : Inv r) (hw : has r.ms w = true) : (forR r w t).ms.length + 1 = r.ms.length := by
  obtain ⟨hp, _⟩ := (has_at hI.1 w).1 hw
  simp [forR]; omega
theorem turn_mem {all : List Int} {cur m i : Nat} (hm : m ≤ all.length) (hi : i < (turn all cur m).length) : (turn all cur m)[i] ∈ all := by
  rw [turn_length] at hi
  have h0 : 0 < all.length := by omega
  have hx : (cur + i) % all.length < all.length := Nat.mod_lt _ h0
  simp only [turn, List.getElem_map, List.getElem_range, List.getD_eq_getElem?_getD, List.getElem?_eq_getElem hx, Option.getD_some]
  exact List.getElem_mem hx
theorem allBut_mem {ms : List Mem} {w a : Int} (h : a ∈ allBut ms w) : has ms a = true := by
  simp only [allBut, List.mem_map, List.mem_filter] at h
  obtain ⟨m, ⟨hm, _⟩, rfl⟩ := h
  exact has_mem.2 ⟨m, hm, rfl⟩

theorem AW.abs {P : Program} {c : Code} {Q : APost} {T : Fr} {H : AHeap} {n : Nat} (C : Fr → AHeap → Prop) (h : C T H) (k : ∀ T' H', C T' H' → AW P c Q T' H' n) : AW P c Q T H n := k T H h
theorem forgets_law (ids : List Int) (out k : Int) : ACalls Try.prog 8 [.vec ids.length (intsA ids), .v (.int .i64 out), .v (.int .i64 k)] AHeap.empty (fun v _ => v = .v (.bool true)) := by
  have hil := intsA_length ids
  refine ACalls.of_body tok Try.func8 rfl Try.ntmps8 (Nat.le_of_ble_eq_true rfl) ?_
  refine AW.seq_region (fun K hK => ?_)
  refine AL.step rfl rfl rfl qRA18 ?_
  refine AL.nil_then (hK _ _ ?_); clear hK K
  refine AW.seq_k (fun K hK => ?_)
  refine AW.seq_region (fun K hK => ?_)
  refine AL.step rfl rfl rfl (by exact AStepD.callf rfl en10 rfl (anchor_calls _)) ?_
  refine AL.step rfl rfl rfl qRB9 ?_
  refine AL.nil_then (hK _ _ ?_); clear hK K
  refine AW.cond_false rfl rfl (AW.skip (hK _ _ ?_)); clear hK K
  refine AW.seq_region (fun K hK => ?_)
  refine AL.call rfl rfl rfl (AStep.callf' rfl en11 rfl (new_ok _ 1 rfl)) ?_; rintro _ H1 ⟨rfl, hR1, hk1, hx1⟩
  refine AL.step rfl rfl rfl qRA19 ?_
  refine AL.step rfl rfl rfl qRB6 ?_
  refine AL.step rfl rfl rfl qRB6 ?_
  refine AL.step rfl rfl rfl qRA18 ?_
  refine AL.step rfl rfl rfl qRA18 ?_
  refine AL.nil_then (hK _ _ ?_); clear hK K
  refine AW.seq_k (fun K hK => ?_)
  refine AW.seq_region (fun K hK => ?_)
  refine AL.step rfl rfl rfl qRA19 ?_
  refine AL.step rfl rfl rfl qRA2 ?_
  refine AL.step rfl rfl rfl qRA19 ?_
  first | refine AL.gstep rfl rfl rfl rfl rfl rfl rfl qRA19 ?_ | refine AL.gskip rfl rfl rfl rfl rfl rfl rfl ?_ | refine AL.gnone rfl rfl rfl rfl rfl ?_ | refine AL.gmay rfl rfl rfl rfl rfl rfl qRA32 ?_ | refine AL.gmay2 rfl rfl rfl rfl rfl rfl qRA33 ?_
  first | refine AL.gstep rfl rfl rfl rfl rfl rfl rfl qRC9 ?_ | refine AL.gskip rfl rfl rfl rfl rfl rfl rfl ?_ | refine AL.gnone rfl rfl rfl rfl rfl ?_ | refine AL.gmay rfl rfl rfl rfl rfl rfl (fun hb => by (try (apply AStepD.uncond 28 rfl (gpf hb))); exact qRC9) ?_ | refine AL.gmay2 rfl rfl rfl rfl rfl rfl (fun _ hb => by (try (apply AStepD.uncond 28 rfl (gpf hb))); exact qRC9) ?_
  first | refine AL.gstep rfl rfl rfl rfl rfl rfl rfl qRI1 ?_ | refine AL.gskip rfl rfl rfl rfl rfl rfl rfl ?_ | refine AL.gnone rfl rfl rfl rfl rfl ?_ | refine AL.gmay rfl rfl rfl rfl rfl rfl (fun hb => by (try (apply AStepD.uncond 29 rfl (gpf hb))); exact qRI1) ?_ | refine AL.gmay2 rfl rfl rfl rfl rfl rfl (fun _ hb => by (try (apply AStepD.uncond 29 rfl (gpf hb))); exact qRI1) ?_
  refine AL.step rfl rfl rfl qRA28 ?_
  refine AL.step rfl rfl rfl qRA19 ?_
  first | refine AL.gstep rfl rfl rfl rfl rfl rfl rfl qRA19 ?_ | refine AL.gskip rfl rfl rfl rfl rfl rfl rfl ?_ | refine AL.gnone rfl rfl rfl rfl rfl ?_ | refine AL.gmay rfl rfl rfl rfl rfl rfl qRA30 ?_ | refine AL.gmay2 rfl rfl rfl rfl rfl rfl qRA31 ?_
  first | refine AL.gstep rfl rfl rfl rfl rfl rfl rfl qRI1 ?_ | refine AL.gskip rfl rfl rfl rfl rfl rfl rfl ?_ | refine AL.gnone rfl rfl rfl rfl rfl ?_ | refine AL.gmay rfl rfl rfl rfl rfl rfl (fun hb => by (try (apply AStepD.uncond 33 rfl (gpf hb))); exact qRI1) ?_ | refine AL.gmay2 rfl rfl rfl rfl rfl rfl (fun _ hb => by (try (apply AStepD.uncond 33 rfl (gpf hb))); exact qRI1) ?_
  refine AL.step rfl rfl rfl qRA28 ?_
  refine AL.nil_then (hK _ _ ?_); clear hK K
  refine AW.cond _ rfl (fun hc => ?_) (fun hc => ?_)
  · refine AW.seq_region (fun K hK => ?_)
    refine AL.step rfl rfl rfl qRA19 ?_
    refine AL.step rfl rfl rfl qRA16 ?_
    refine AL.step rfl rfl rfl qRA18 ?_
    refine AL.nil_then (hK _ _ ?_); clear hK K
    exact AW.ret (RetQ.mk (.inr rfl) (retA_tmp rfl qRA1 retA_nil) rfl)
  refine AW.skip (hK _ _ ?_); clear hK K
  have hll : ids.length ≤ 40 := by
    simp only [Bool.or_eq_false_iff, decide_eq_false_iff_not] at hc
    omega
  clear hc
  refine AW.sub (T' := [(7, .ptr (AHeap.empty.next + 1) 0), (0, .vec ids.length (intsA ids)), (1, .v (.int .i64 out)), (2, .v (.int .i64 k))]) qRA21 ?_
  clear hk1 hx1
  generalize AHeap.empty.next + 1 = n at hR1 ⊢
  generalize AHeap.empty.next = B at hR1 ⊢
  refine AW.seq_k (fun K hK => ?_)
  refine AW.seq_region (fun K hK => ?_)
  refine AL.step rfl rfl rfl qRA19 ?_
  refine AL.step rfl rfl rfl qRC9 ?_
  refine AL.step rfl rfl rfl qRA19 ?_
  refine AL.nil_then (hK _ _ ?_); clear hK K
  refine AW.block ?_
  refine AW.loop_at (ι := Nat × Nat × Ros) (fun x => [(40, .v (.int .i64 x.1)), (39, .v (.int .i64 ids.length)), (38, .vec ids.length (intsA ids)), (7, .ptr n 0), (1, .v (.int .i64 out)), (2, .v (.int .i64 k))])
    (fun x H' => x.1 ≤ ids.length ∧ Inv x.2.2 ∧ MemOK x.2.2 ∧ x.2.2.cur = 0 ∧ RosAt H' n x.2.1 B x.2.2) (fun x => ids.length - x.1) (0, n, ⟨1, [], [], 0⟩) qRA21 ⟨Nat.zero_le _, Inv.new 1, MemOK.new 1, rfl, hR1⟩ ?_
  rintro ⟨i, L, r⟩ H2 ⟨hi, hI, hO, hcu, hR⟩
  dsimp only at hi hI hO hcu hR ⊢
  refine AW.seq_region (fun K hK => ?_)
  refine AL.step rfl rfl rfl qRA3 ?_
  refine AL.nil_then (hK _ _ ?_); clear hK K
  refine AW.seq_k (fun K1 hK1 => ?_)
  refine AW.cond _ rfl (fun hc => ?_) (fun hc => ?_)
  · refine AW.skip (hK1 _ _ ?_); clear hK1 K1
    have hil2 : i < ids.length := by have := of_decide_eq_true hc; omega
    have hat : ((intsA ids).drop (i * 1))[0]? = some (.v (.int .i64 ids[i])) := by rw [Nat.mul_one, List.getElem?_drop, Nat.add_zero]; exact intsA_at ids i hil2
    refine AW.seq_k (fun K1 hK1 => ?_)
    refine AW.block ?_
    refine AW.seq_region (fun K hK => ?_)
    refine AL.step rfl rfl rfl qRE4 ?_
    refine AL.step rfl rfl rfl qRB5 ?_
    refine AL.step rfl rfl rfl qRA18 ?_
    refine AL.nil_then (hK _ _ ?_); clear hK K
    refine AW.region ?_
    refine AL.step rfl rfl rfl qRA19 ?_
    refine AL.step rfl rfl rfl qRA19 ?_
    refine AL.call rfl rfl rfl (AStep.callf' rfl en13 rfl (add_calls _ n L B r ids[i] 0 hR hI.1 hI.2)) ?_; rintro _ H3 ⟨L3, rfl, hR3, hO3⟩
    refine AL.nil ?_
    refine hK1 _ _ ?_; clear hK1 K1
    refine AW.region ?_
    refine AL.step rfl rfl rfl qRA22 ?_
    refine AL.step rfl rfl rfl qRA19 ?_
    refine AL.nil ?_
    refine ⟨(i + 1, L3, if addE r ids[i] 0 = 0 then addR r ids[i] else r), ?_, qRA21, hil2, ?_, ?_, ?_, hR3⟩
    · show ids.length - (i + 1) < ids.length - i
      omega
    · show Inv (if _ then _ else _)
      split
      · rename_i he; exact hI.add he
      · exact hI
    · show MemOK (if _ then _ else _)
      split
      · rename_i he; exact hO.add he
      · exact hO
    · show Ros.cur (if _ then _ else _) = 0
      split
      · exact hcu
      · exact hcu
  · refine AW.exit ?_
    refine hK _ _ ?_; clear hK1 K1 hK K
    have h15 := hI.2
    refine AW.seq_region (fun K hK => ?_)
    refine AL.step rfl rfl rfl qRA19 ?_
    refine AL.step rfl rfl rfl (by exact AStepD.callf rfl en12 rfl (list_calls _ n L B r hR (by omega))) ?_
    refine AL.step rfl rfl rfl qRC9 ?_
    refine AL.step rfl rfl rfl qRA18 ?_
    refine AL.nil_then (hK _ _ ?_); clear hK K
    refine AW.lts fun hlt2 => ?_
    refine AW.seq_region (fun K hK => ?_)
    refine AL.step rfl rfl rfl qRA19 ?_
    refine AL.step rfl rfl rfl qRA19 ?_
    refine AL.step rfl rfl rfl (by exact AStepD.callf rfl en16 rfl (get_calls _ n L B r out hR hI)) ?_
    refine AL.step rfl rfl rfl qRA19 ?_
    refine AL.step rfl rfl rfl qRB6 ?_
    refine AL.step rfl rfl rfl qRB6 ?_
    refine AL.step rfl rfl rfl qRJ1 ?_
    refine AL.step0 rfl rfl qRE5 ?_
    refine AL.step rfl rfl rfl qRA18 ?_
    refine AL.nil_then (hK _ _ ?_); clear hK K
    refine AW.abs (fun T' H' => SubT T' [(13, .v (.bool (has r.ms out))), (11, .v (.int .i64 r.ms.length)), (7, .ptr n 0), (1, .v (.int .i64 out)), (2, .v (.int .i64 k))] ∧ RosAt H' n L B r) ⟨qRA21, hR.keep hlt2 qRA8⟩ ?_
    rintro T3 H3 ⟨hs3, hR3⟩
    refine AW.sub hs3 ?_
    clear hs3
    refine AW.seq_region (fun K hK => ?_)
    refine AL.step rfl rfl rfl qRA19 ?_
    refine AL.step rfl rfl rfl qRA19 ?_
    refine AL.call rfl rfl rfl (AStep.callf' rfl en17 rfl (forget_calls _ n L B r out 0 hR3 hI)) ?_; rintro _ H4 ⟨rfl, hR4, -⟩
    refine AL.step rfl rfl rfl qRA18 ?_
    refine AL.nil_then (hK _ _ ?_); clear hK K
    refine AW.seq_k (fun K hK => ?_)
    have hK2 : ∀ T' H', (∃ L' r', SubT T' [(13, .v (.bool (has r.ms out))), (7, .ptr n 0), (1, .v (.int .i64 out)), (2, .v (.int .i64 k))] ∧ Inv r' ∧ r'.cur = 0 ∧ RosAt H' n L' B r' ∧ (has r.ms out = true → has r'.ms out = false)) → K T' H' := by
      rintro T' H' ⟨L', r', hs, hI', hcu', hR', hho⟩
      refine hK _ _ ?_
      clear hK
      refine AW.sub hs ?_
      clear hs
      refine AW.seq_k (fun K hK => ?_)
      generalize hl : turn (allBut r'.ms 0) r'.cur (many k (allBut r'.ms 0).length) = l
      have hmem : ∀ (i : Nat) (h : i < l.length), has r'.ms l[i] = true := by
        intro i h
        subst hl
        exact allBut_mem (turn_mem (many_le _ _) h)
      have hil := intsA_length l
      refine AW.seq_region (fun K hK => ?_)
      refine AL.step rfl rfl rfl qRA19 ?_
      refine AL.step rfl rfl rfl qRA19 ?_
      refine AL.call rfl rfl rfl (AStep.callf' rfl en14 rfl (next_ok _ n L' B r' k 0 _ l hR' hI' (by omega) rfl hl)) ?_; rintro _ H5 ⟨rfl, hR5, -⟩
      refine AL.step rfl rfl rfl qRC9 ?_
      refine AL.step rfl rfl rfl qRA19 ?_
      refine AL.nil_then (hK _ _ ?_); clear hK K
      have hI5 : Inv { r' with cur := r'.cur + many k (allBut r'.ms 0).length } := hI'
      have hll5 : l.length ≤ 100 := by
        have h1 := many_le k (allBut r'.ms 0).length
        have h2 := allBut_le r'.ms 0
        have h3 := hI'.2
        rw [← hl, turn_length]
        omega
      generalize hr5 : ({ r' with cur := r'.cur + many k (allBut r'.ms 0).length } : Ros) = r5 at hR5 hI5
      have hms : r5.ms = r'.ms := by rw [← hr5]
      refine AW.block ?_
      refine AW.loop_at (ι := Nat) (fun x => [(90, .v (.int .i64 x)), (89, .v (.int .i64 l.length)), (88, .vec l.length (intsA l)), (13, .v (.bool (has r.ms out))), (7, .ptr n 0), (1, .v (.int .i64 out))])
        (fun x H' => x ≤ l.length ∧ RosAt H' n L' B r5) (fun x => l.length - x) 0 qRA21 ⟨Nat.zero_le _, hR5⟩ ?_
      rintro i H6 ⟨hi6, hR6⟩
      refine AW.seq_region (fun K hK => ?_)
      refine AL.step rfl rfl rfl qRA3 ?_
      refine AL.nil_then (hK _ _ ?_); clear hK K
      refine AW.seq_k (fun K1 hK1 => ?_)
      refine AW.cond _ rfl (fun hc2 => ?_) (fun hc2 => ?_)
      · refine AW.skip (hK1 _ _ ?_); clear hK1 K1
        have hil2 : i < l.length := by have := of_decide_eq_true hc2; omega
        have hat : ((intsA l).drop (i * 1))[0]? = some (.v (.int .i64 l[i])) := by rw [Nat.mul_one, List.getElem?_drop, Nat.add_zero]; exact intsA_at l i hil2
        have hh := hmem i hil2
        rw [← hms] at hh
        have hg := get_calls H6 n L' B r5 l[i] hR6 hI5
        rw [hh] at hg
        refine AW.lts fun hlt6 => ?_
        refine AW.seq_k (fun K1 hK1 => ?_)
        refine AW.block ?_
        refine AW.seq_region (fun K hK => ?_)
        refine AL.step rfl rfl rfl qRE4 ?_
        refine AL.step rfl rfl rfl qRB5 ?_
        refine AL.step rfl rfl rfl qRA18 ?_
        refine AL.nil_then (hK _ _ ?_); clear hK K
        refine AW.seq_region (fun K hK => ?_)
        refine AL.step rfl rfl rfl qRA19 ?_
        refine AL.step rfl rfl rfl qRA19 ?_
        refine AL.step rfl rfl rfl (by exact AStepD.callf rfl en16 rfl hg) ?_
        refine AL.step rfl rfl rfl qRA19 ?_
        refine AL.step rfl rfl rfl qRB6 ?_
        refine AL.step rfl rfl rfl qRB6 ?_
        refine AL.step rfl rfl rfl qRJ1 ?_
        refine AL.step0 rfl rfl qRE5 ?_
        refine AL.step rfl rfl rfl qRA18 ?_
        refine AL.nil_then (hK _ _ ?_); clear hK K
        refine AW.seq_region (fun K hK => ?_)
        refine AL.step rfl rfl rfl qRA19 ?_
        refine AL.step rfl rfl rfl qRB9 ?_
        refine AL.step rfl rfl rfl qRA19 ?_
        first | refine AL.gstep rfl rfl rfl rfl rfl rfl rfl qRA19 ?_ | refine AL.gskip rfl rfl rfl rfl rfl rfl rfl ?_ | refine AL.gnone rfl rfl rfl rfl rfl ?_ | refine AL.gmay rfl rfl rfl rfl rfl rfl qRJ2 ?_ | refine AL.gmay2 rfl rfl rfl rfl rfl rfl qRJ3 ?_
        first | refine AL.gstep rfl rfl rfl rfl rfl rfl rfl qRA19 ?_ | refine AL.gskip rfl rfl rfl rfl rfl rfl rfl ?_ | refine AL.gnone rfl rfl rfl rfl rfl ?_ | refine AL.gmay rfl rfl rfl rfl rfl rfl (fun hb => by (try (apply AStepD.uncond 103 rfl (gpf hb))); exact qRA19) ?_ | refine AL.gmay2 rfl rfl rfl rfl rfl rfl (fun _ hb => by (try (apply AStepD.uncond 103 rfl (gpf hb))); exact qRA19) ?_
        first | refine AL.gstep rfl rfl rfl rfl rfl rfl rfl qRA19 ?_ | refine AL.gskip rfl rfl rfl rfl rfl rfl rfl ?_ | refine AL.gnone rfl rfl rfl rfl rfl ?_ | refine AL.gmay rfl rfl rfl rfl rfl rfl (fun hb => by (try (apply AStepD.uncond 16 rfl (gpf hb))); exact qRA19) ?_ | refine AL.gmay2 rfl rfl rfl rfl rfl rfl (fun _ hb => by (try (apply AStepD.uncond 16 rfl (gpf hb))); exact qRA19) ?_
        first | refine AL.gstep rfl rfl rfl rfl rfl rfl rfl qRA19 ?_ | refine AL.gskip rfl rfl rfl rfl rfl rfl rfl ?_ | refine AL.gnone rfl rfl rfl rfl rfl ?_ | refine AL.gmay rfl rfl rfl rfl rfl rfl qRA40 ?_ | refine AL.gmay2 rfl rfl rfl rfl rfl rfl qRA41 ?_
        first | refine AL.gstep rfl rfl rfl rfl rfl rfl rfl qRA16 ?_ | refine AL.gskip rfl rfl rfl rfl rfl rfl rfl ?_ | refine AL.gnone rfl rfl rfl rfl rfl ?_ | refine AL.gmay rfl rfl rfl rfl rfl rfl (fun hb => by (try (apply AStepD.uncond 105 rfl (gpf hb))); (try (apply AStepD.uncond 106 rfl (gpf hb))); exact qRA16) ?_ | refine AL.gmay2 rfl rfl rfl rfl rfl rfl (fun _ hb => by (try (apply AStepD.uncond 105 rfl (gpf hb))); (try (apply AStepD.uncond 106 rfl (gpf hb))); exact qRA16) ?_
        first | refine AL.gstep rfl rfl rfl rfl rfl rfl rfl qRA28 ?_ | refine AL.gskip rfl rfl rfl rfl rfl rfl rfl ?_ | refine AL.gnone rfl rfl rfl rfl rfl ?_ | refine AL.gmay rfl rfl rfl rfl rfl rfl (fun hb => by (try (apply AStepD.uncond 104 rfl (gpf hb))); (try (apply AStepD.uncond 107 rfl (gpf hb))); exact qRA28) ?_ | refine AL.gmay2 rfl rfl rfl rfl rfl rfl (fun _ hb => by (try (apply AStepD.uncond 104 rfl (gpf hb))); (try (apply AStepD.uncond 107 rfl (gpf hb))); exact qRA28) ?_
        refine AL.step rfl rfl rfl qRA28 ?_
        refine AL.nil_then (hK _ _ ?_); clear hK K
        refine AW.cond_false rfl ?_ (AW.skip ?_)
        · cases hb : has r.ms out with
          | false => rfl
          | true =>
            have h1 := hho hb
            have hne : l[i] ≠ out := by
              intro e
              rw [e, hms, h1] at hh
              cases hh
            simp [hne]
        · refine hK1 _ _ ?_; clear hK1 K1
          refine AW.region ?_
          refine AL.step rfl rfl rfl qRA22 ?_
          refine AL.step rfl rfl rfl qRA19 ?_
          refine AL.nil ?_
          refine ⟨i + 1, ?_, qRA21, hil2, hR6.keep hlt6 qRA8⟩
          show l.length - (i + 1) < l.length - i
          omega
      · refine AW.exit ?_
        refine hK _ _ ?_; clear hK1 K1 hK K
        refine AW.seq_region (fun K hK => ?_)
        refine AL.step rfl rfl rfl qRA18 ?_
        refine AL.nil_then (hK _ _ ?_); clear hK K
        exact AW.ret (RetQ.mk (.inr rfl) (retA_tmp rfl qRA1 retA_nil) rfl)
    clear hK
    cases hh : has r.ms out with
    | true =>
      have ha := hO.asked hh (show timeB 0 = true by decide)
      have hf : forE r out 0 = 0 := by rw [forE, if_neg (by omega), if_pos hh]
      rw [if_pos hf] at hR4
      have hfl := forR_length (t := 0) hI hh
      have hI4 := hI.forget (w := out) (t := 0)
      have hf15 := hI4.2
      refine AW.sub (T' := [(14, .v (.int .i64 0)), (13, .v (.bool true)), (11, .v (.int .i64 r.ms.length)), (7, .ptr n 0), (1, .v (.int .i64 out)), (2, .v (.int .i64 k))]) (by rw [hf]; exact qRA21) ?_
      refine AW.seq_region (fun K hK => ?_)
      refine AL.step rfl rfl rfl qRA19 ?_
      refine AL.step rfl rfl rfl qRA16 ?_
      refine AL.step rfl rfl rfl qRA19 ?_
      refine AL.step rfl rfl rfl qRA2 ?_
      refine AL.step rfl rfl rfl qRA19 ?_
      first | refine AL.gstep rfl rfl rfl rfl rfl rfl rfl qRA19 ?_ | refine AL.gskip rfl rfl rfl rfl rfl rfl rfl ?_ | refine AL.gnone rfl rfl rfl rfl rfl ?_ | refine AL.gmay rfl rfl rfl rfl rfl rfl qRJ2 ?_ | refine AL.gmay2 rfl rfl rfl rfl rfl rfl qRJ3 ?_
      first | refine AL.gstep rfl rfl rfl rfl rfl rfl rfl qRA19 ?_ | refine AL.gskip rfl rfl rfl rfl rfl rfl rfl ?_ | refine AL.gnone rfl rfl rfl rfl rfl ?_ | refine AL.gmay rfl rfl rfl rfl rfl rfl qRJ4 ?_ | refine AL.gmay2 rfl rfl rfl rfl rfl rfl qRJ5 ?_
      first | refine AL.gstep rfl rfl rfl rfl rfl rfl rfl qRA19 ?_ | refine AL.gskip rfl rfl rfl rfl rfl rfl rfl ?_ | refine AL.gnone rfl rfl rfl rfl rfl ?_ | refine AL.gmay rfl rfl rfl rfl rfl rfl qRB7 ?_ | refine AL.gmay2 rfl rfl rfl rfl rfl rfl qRB8 ?_
      first | refine AL.gstep rfl rfl rfl rfl rfl rfl rfl (by exact AStepD.callf rfl en12 rfl (list_calls _ n L B _ hR4 (by omega))) ?_ | refine AL.gskip rfl rfl rfl rfl rfl rfl rfl ?_ | refine AL.gnone rfl rfl rfl rfl rfl ?_ | refine AL.gmay rfl rfl rfl rfl rfl rfl (fun hb => by (try (apply AStepD.uncond 67 rfl (gpf hb))); exact (by exact AStepD.callf rfl en12 rfl (list_calls _ n L B _ hR4 (by omega)))) ?_ | refine AL.gmay2 rfl rfl rfl rfl rfl rfl (fun _ hb => by (try (apply AStepD.uncond 67 rfl (gpf hb))); exact (by exact AStepD.callf rfl en12 rfl (list_calls _ n L B _ hR4 (by omega)))) ?_
      first | refine AL.gstep rfl rfl rfl rfl rfl rfl rfl qRC9 ?_ | refine AL.gskip rfl rfl rfl rfl rfl rfl rfl ?_ | refine AL.gnone rfl rfl rfl rfl rfl ?_ | refine AL.gmay rfl rfl rfl rfl rfl rfl qRJ6 ?_ | refine AL.gmay2 rfl rfl rfl rfl rfl rfl qRJ7 ?_
      first | refine AL.gstep rfl rfl rfl rfl rfl rfl rfl qRA19 ?_ | refine AL.gskip rfl rfl rfl rfl rfl rfl rfl ?_ | refine AL.gnone rfl rfl rfl rfl rfl ?_ | refine AL.gmay rfl rfl rfl rfl rfl rfl qRJ8 ?_ | refine AL.gmay2 rfl rfl rfl rfl rfl rfl qRJ9 ?_
      first | refine AL.gstep rfl rfl rfl rfl rfl rfl rfl qRJ10 ?_ | refine AL.gskip rfl rfl rfl rfl rfl rfl rfl ?_ | refine AL.gnone rfl rfl rfl rfl rfl ?_ | refine AL.gmay rfl rfl rfl rfl rfl rfl qRJ21 ?_ | refine AL.gmay2 rfl rfl rfl rfl rfl rfl qRJ22 ?_
      first | refine AL.gstep rfl rfl rfl rfl rfl rfl rfl (by exact AStepD.bool (AStepD.neq rfl rfl rfl) (c := false) (by simp; omega)) ?_ | refine AL.gskip rfl rfl rfl rfl rfl rfl rfl ?_ | refine AL.gnone rfl rfl rfl rfl rfl ?_ | refine AL.gmay rfl rfl rfl rfl rfl rfl (fun hb => by (try (apply AStepD.uncond 69 rfl (gpf hb))); (try (apply AStepD.uncond 71 rfl (gpf hb))); exact (by exact AStepD.bool (AStepD.neq rfl rfl rfl) (c := false) (by simp; omega))) ?_ | refine AL.gmay2 rfl rfl rfl rfl rfl rfl (fun _ hb => by (try (apply AStepD.uncond 69 rfl (gpf hb))); (try (apply AStepD.uncond 71 rfl (gpf hb))); exact (by exact AStepD.bool (AStepD.neq rfl rfl rfl) (c := false) (by simp; omega))) ?_
      first | refine AL.gstep rfl rfl rfl rfl rfl rfl rfl qRA28 ?_ | refine AL.gskip rfl rfl rfl rfl rfl rfl rfl ?_ | refine AL.gnone rfl rfl rfl rfl rfl ?_ | refine AL.gmay rfl rfl rfl rfl rfl rfl qRJ11 ?_ | refine AL.gmay2 rfl rfl rfl rfl rfl rfl qRJ12 ?_
      refine AL.step rfl rfl rfl qRA28 ?_
      refine AL.step rfl rfl rfl qRA19 ?_
      first | refine AL.gstep rfl rfl rfl rfl rfl rfl rfl qRA19 ?_ | refine AL.gskip rfl rfl rfl rfl rfl rfl rfl ?_ | refine AL.gnone rfl rfl rfl rfl rfl ?_ | refine AL.gmay rfl rfl rfl rfl rfl rfl qRJ2 ?_ | refine AL.gmay2 rfl rfl rfl rfl rfl rfl qRJ3 ?_
      first | refine AL.gstep rfl rfl rfl rfl rfl rfl rfl qRB9 ?_ | refine AL.gskip rfl rfl rfl rfl rfl rfl rfl ?_ | refine AL.gnone rfl rfl rfl rfl rfl ?_ | refine AL.gmay rfl rfl rfl rfl rfl rfl qRJ13 ?_ | refine AL.gmay2 rfl rfl rfl rfl rfl rfl qRJ14 ?_
      first | refine AL.gstep rfl rfl rfl rfl rfl rfl rfl qRA19 ?_ | refine AL.gskip rfl rfl rfl rfl rfl rfl rfl ?_ | refine AL.gnone rfl rfl rfl rfl rfl ?_ | refine AL.gmay rfl rfl rfl rfl rfl rfl qRJ15 ?_ | refine AL.gmay2 rfl rfl rfl rfl rfl rfl qRJ16 ?_
      first | refine AL.gstep rfl rfl rfl rfl rfl rfl rfl qRA19 ?_ | refine AL.gskip rfl rfl rfl rfl rfl rfl rfl ?_ | refine AL.gnone rfl rfl rfl rfl rfl ?_ | refine AL.gmay rfl rfl rfl rfl rfl rfl qRB7 ?_ | refine AL.gmay2 rfl rfl rfl rfl rfl rfl qRB8 ?_
      first | refine AL.gstep rfl rfl rfl rfl rfl rfl rfl (by fail) ?_ | refine AL.gskip rfl rfl rfl rfl rfl rfl rfl ?_ | refine AL.gnone rfl rfl rfl rfl rfl ?_ | refine AL.gmay rfl rfl rfl rfl rfl rfl (fun hb => by (try (apply AStepD.uncond 79 rfl (gpf hb))); exact (by fail)) ?_ | refine AL.gmay2 rfl rfl rfl rfl rfl rfl (fun _ hb => by (try (apply AStepD.uncond 79 rfl (gpf hb))); exact (by fail)) ?_
      first | refine AL.gstep rfl rfl rfl rfl rfl rfl rfl qRC9 ?_ | refine AL.gskip rfl rfl rfl rfl rfl rfl rfl ?_ | refine AL.gnone rfl rfl rfl rfl rfl ?_ | refine AL.gmay rfl rfl rfl rfl rfl rfl qRJ17 ?_ | refine AL.gmay2 rfl rfl rfl rfl rfl rfl qRJ18 ?_
      first | refine AL.gstep rfl rfl rfl rfl rfl rfl rfl qRA19 ?_ | refine AL.gskip rfl rfl rfl rfl rfl rfl rfl ?_ | refine AL.gnone rfl rfl rfl rfl rfl ?_ | refine AL.gmay rfl rfl rfl rfl rfl rfl qRJ8 ?_ | refine AL.gmay2 rfl rfl rfl rfl rfl rfl qRJ9 ?_
      first | refine AL.gstep rfl rfl rfl rfl rfl rfl rfl qRA2 ?_ | refine AL.gskip rfl rfl rfl rfl rfl rfl rfl ?_ | refine AL.gnone rfl rfl rfl rfl rfl ?_ | refine AL.gmay rfl rfl rfl rfl rfl rfl (fun hb => by (try (apply AStepD.uncond 81 rfl (gpf hb))); (try (apply AStepD.uncond 82 rfl (gpf hb))); exact qRA2) ?_ | refine AL.gmay2 rfl rfl rfl rfl rfl rfl (fun _ hb => by (try (apply AStepD.uncond 81 rfl (gpf hb))); (try (apply AStepD.uncond 82 rfl (gpf hb))); exact qRA2) ?_
      first | refine AL.gstep rfl rfl rfl rfl rfl rfl rfl qRA28 ?_ | refine AL.gskip rfl rfl rfl rfl rfl rfl rfl ?_ | refine AL.gnone rfl rfl rfl rfl rfl ?_ | refine AL.gmay rfl rfl rfl rfl rfl rfl qRJ19 ?_ | refine AL.gmay2 rfl rfl rfl rfl rfl rfl qRJ20 ?_
      refine AL.step rfl rfl rfl qRA28 ?_
      refine AL.nil_then (hK _ _ ?_); clear hK K
      refine AW.cond_false rfl rfl (AW.skip ?_)
      refine hK2 _ _ ⟨L, _, by rw [hh]; exact qRA21, hI4, hcu, hR4, fun _ => forR_none hI hh⟩
    | false =>
      have hf : forE r out 0 ≠ 0 := by
        intro h
        have := (forE_zero h).2
        rw [hh] at this; cases this
      rw [if_neg hf] at hR4
      refine AW.sub (T' := [(14, .v (.int .i64 (forE r out 0))), (13, .v (.bool false)), (11, .v (.int .i64 r.ms.length)), (7, .ptr n 0), (1, .v (.int .i64 out)), (2, .v (.int .i64 k))]) qRA21 ?_
      refine AW.seq_region (fun K hK => ?_)
      refine AL.step rfl rfl rfl qRA19 ?_
      refine AL.step rfl rfl rfl (by exact AStepD.bool (AStepD.eql rfl rfl rfl) (decide_eq_false hf)) ?_
      refine AL.step rfl rfl rfl qRA19 ?_
      refine AL.step rfl rfl rfl qRA2 ?_
      refine AL.step rfl rfl rfl qRA19 ?_
      first | refine AL.gstep rfl rfl rfl rfl rfl rfl rfl qRA19 ?_ | refine AL.gskip rfl rfl rfl rfl rfl rfl rfl ?_ | refine AL.gnone rfl rfl rfl rfl rfl ?_ | refine AL.gmay rfl rfl rfl rfl rfl rfl qRJ2 ?_ | refine AL.gmay2 rfl rfl rfl rfl rfl rfl qRJ3 ?_
      first | refine AL.gstep rfl rfl rfl rfl rfl rfl rfl qRA19 ?_ | refine AL.gskip rfl rfl rfl rfl rfl rfl rfl ?_ | refine AL.gnone rfl rfl rfl rfl rfl ?_ | refine AL.gmay rfl rfl rfl rfl rfl rfl qRJ4 ?_ | refine AL.gmay2 rfl rfl rfl rfl rfl rfl qRJ5 ?_
      first | refine AL.gstep rfl rfl rfl rfl rfl rfl rfl qRA19 ?_ | refine AL.gskip rfl rfl rfl rfl rfl rfl rfl ?_ | refine AL.gnone rfl rfl rfl rfl rfl ?_ | refine AL.gmay rfl rfl rfl rfl rfl rfl qRB7 ?_ | refine AL.gmay2 rfl rfl rfl rfl rfl rfl qRB8 ?_
      first | refine AL.gstep rfl rfl rfl rfl rfl rfl rfl (by fail) ?_ | refine AL.gskip rfl rfl rfl rfl rfl rfl rfl ?_ | refine AL.gnone rfl rfl rfl rfl rfl ?_ | refine AL.gmay rfl rfl rfl rfl rfl rfl (fun hb => by (try (apply AStepD.uncond 67 rfl (gpf hb))); exact (by fail)) ?_ | refine AL.gmay2 rfl rfl rfl rfl rfl rfl (fun _ hb => by (try (apply AStepD.uncond 67 rfl (gpf hb))); exact (by fail)) ?_
      first | refine AL.gstep rfl rfl rfl rfl rfl rfl rfl qRC9 ?_ | refine AL.gskip rfl rfl rfl rfl rfl rfl rfl ?_ | refine AL.gnone rfl rfl rfl rfl rfl ?_ | refine AL.gmay rfl rfl rfl rfl rfl rfl qRJ6 ?_ | refine AL.gmay2 rfl rfl rfl rfl rfl rfl qRJ7 ?_
      first | refine AL.gstep rfl rfl rfl rfl rfl rfl rfl qRA19 ?_ | refine AL.gskip rfl rfl rfl rfl rfl rfl rfl ?_ | refine AL.gnone rfl rfl rfl rfl rfl ?_ | refine AL.gmay rfl rfl rfl rfl rfl rfl qRJ8 ?_ | refine AL.gmay2 rfl rfl rfl rfl rfl rfl qRJ9 ?_
      first | refine AL.gstep rfl rfl rfl rfl rfl rfl rfl qRJ10 ?_ | refine AL.gskip rfl rfl rfl rfl rfl rfl rfl ?_ | refine AL.gnone rfl rfl rfl rfl rfl ?_ | refine AL.gmay rfl rfl rfl rfl rfl rfl qRJ21 ?_ | refine AL.gmay2 rfl rfl rfl rfl rfl rfl qRJ22 ?_
      first | refine AL.gstep rfl rfl rfl rfl rfl rfl rfl qRA2 ?_ | refine AL.gskip rfl rfl rfl rfl rfl rfl rfl ?_ | refine AL.gnone rfl rfl rfl rfl rfl ?_ | refine AL.gmay rfl rfl rfl rfl rfl rfl (fun hb => by (try (apply AStepD.uncond 69 rfl (gpf hb))); (try (apply AStepD.uncond 71 rfl (gpf hb))); exact qRA2) ?_ | refine AL.gmay2 rfl rfl rfl rfl rfl rfl (fun _ hb => by (try (apply AStepD.uncond 69 rfl (gpf hb))); (try (apply AStepD.uncond 71 rfl (gpf hb))); exact qRA2) ?_
      first | refine AL.gstep rfl rfl rfl rfl rfl rfl rfl qRA28 ?_ | refine AL.gskip rfl rfl rfl rfl rfl rfl rfl ?_ | refine AL.gnone rfl rfl rfl rfl rfl ?_ | refine AL.gmay rfl rfl rfl rfl rfl rfl qRJ11 ?_ | refine AL.gmay2 rfl rfl rfl rfl rfl rfl qRJ12 ?_
      refine AL.step rfl rfl rfl qRA28 ?_
      refine AL.step rfl rfl rfl qRA19 ?_
      first | refine AL.gstep rfl rfl rfl rfl rfl rfl rfl qRA19 ?_ | refine AL.gskip rfl rfl rfl rfl rfl rfl rfl ?_ | refine AL.gnone rfl rfl rfl rfl rfl ?_ | refine AL.gmay rfl rfl rfl rfl rfl rfl qRJ2 ?_ | refine AL.gmay2 rfl rfl rfl rfl rfl rfl qRJ3 ?_
      first | refine AL.gstep rfl rfl rfl rfl rfl rfl rfl qRB9 ?_ | refine AL.gskip rfl rfl rfl rfl rfl rfl rfl ?_ | refine AL.gnone rfl rfl rfl rfl rfl ?_ | refine AL.gmay rfl rfl rfl rfl rfl rfl qRJ13 ?_ | refine AL.gmay2 rfl rfl rfl rfl rfl rfl qRJ14 ?_
      first | refine AL.gstep rfl rfl rfl rfl rfl rfl rfl qRA19 ?_ | refine AL.gskip rfl rfl rfl rfl rfl rfl rfl ?_ | refine AL.gnone rfl rfl rfl rfl rfl ?_ | refine AL.gmay rfl rfl rfl rfl rfl rfl qRJ15 ?_ | refine AL.gmay2 rfl rfl rfl rfl rfl rfl qRJ16 ?_
      first | refine AL.gstep rfl rfl rfl rfl rfl rfl rfl qRA19 ?_ | refine AL.gskip rfl rfl rfl rfl rfl rfl rfl ?_ | refine AL.gnone rfl rfl rfl rfl rfl ?_ | refine AL.gmay rfl rfl rfl rfl rfl rfl qRB7 ?_ | refine AL.gmay2 rfl rfl rfl rfl rfl rfl qRB8 ?_
      first | refine AL.gstep rfl rfl rfl rfl rfl rfl rfl (by exact AStepD.callf rfl en12 rfl (list_calls _ n L B _ hR4 (by omega))) ?_ | refine AL.gskip rfl rfl rfl rfl rfl rfl rfl ?_ | refine AL.gnone rfl rfl rfl rfl rfl ?_ | refine AL.gmay rfl rfl rfl rfl rfl rfl (fun hb => by (try (apply AStepD.uncond 79 rfl (gpf hb))); exact (by exact AStepD.callf rfl en12 rfl (list_calls _ n L B _ hR4 (by omega)))) ?_ | refine AL.gmay2 rfl rfl rfl rfl rfl rfl (fun _ hb => by (try (apply AStepD.uncond 79 rfl (gpf hb))); exact (by exact AStepD.callf rfl en12 rfl (list_calls _ n L B _ hR4 (by omega)))) ?_
      first | refine AL.gstep rfl rfl rfl rfl rfl rfl rfl qRC9 ?_ | refine AL.gskip rfl rfl rfl rfl rfl rfl rfl ?_ | refine AL.gnone rfl rfl rfl rfl rfl ?_ | refine AL.gmay rfl rfl rfl rfl rfl rfl qRJ17 ?_ | refine AL.gmay2 rfl rfl rfl rfl rfl rfl qRJ18 ?_
      first | refine AL.gstep rfl rfl rfl rfl rfl rfl rfl qRA19 ?_ | refine AL.gskip rfl rfl rfl rfl rfl rfl rfl ?_ | refine AL.gnone rfl rfl rfl rfl rfl ?_ | refine AL.gmay rfl rfl rfl rfl rfl rfl qRJ8 ?_ | refine AL.gmay2 rfl rfl rfl rfl rfl rfl qRJ9 ?_
      first | refine AL.gstep rfl rfl rfl rfl rfl rfl rfl (by exact AStepD.bool (AStepD.neq rfl rfl rfl) (c := false) (by simp)) ?_ | refine AL.gskip rfl rfl rfl rfl rfl rfl rfl ?_ | refine AL.gnone rfl rfl rfl rfl rfl ?_ | refine AL.gmay rfl rfl rfl rfl rfl rfl (fun hb => by (try (apply AStepD.uncond 81 rfl (gpf hb))); (try (apply AStepD.uncond 82 rfl (gpf hb))); exact (by exact AStepD.bool (AStepD.neq rfl rfl rfl) (c := false) (by simp))) ?_ | refine AL.gmay2 rfl rfl rfl rfl rfl rfl (fun _ hb => by (try (apply AStepD.uncond 81 rfl (gpf hb))); (try (apply AStepD.uncond 82 rfl (gpf hb))); exact (by exact AStepD.bool (AStepD.neq rfl rfl rfl) (c := false) (by simp))) ?_
      first | refine AL.gstep rfl rfl rfl rfl rfl rfl rfl qRA28 ?_ | refine AL.gskip rfl rfl rfl rfl rfl rfl rfl ?_ | refine AL.gnone rfl rfl rfl rfl rfl ?_ | refine AL.gmay rfl rfl rfl rfl rfl rfl qRJ19 ?_ | refine AL.gmay2 rfl rfl rfl rfl rfl rfl qRJ20 ?_
      refine AL.step rfl rfl rfl qRA28 ?_
      refine AL.nil_then (hK _ _ ?_); clear hK K
      refine AW.cond_false rfl rfl (AW.skip ?_)
      refine hK2 _ _ ⟨L, _, by rw [hh]; exact qRA21, hI, hcu, hR4, fun h => by rw [hh] at h; cases h⟩
end Go.Proofs.Ytjiifddmcmbbnaa
