/- The walk of Parse. -/
import Derived.Test.YtlkbckffeegikaaDoorCX1
import Derived.Test.YtlkbckffeegikaaDoorCE4
set_option linter.unusedSimpArgs false
set_option linter.unusedVariables false
namespace Go.Proofs.YtlkbckffeegikaaDoor
open Go.Ax
open Cel (c)
theorem qW41 {p : Prop} (h : p := by exact AStepD.alloc tok rfl rfl) : p := h
theorem qW42 {p : Prop} (h : p := by exact AStepD.build tok rfl rfl rfl (by decide) rfl qW14) : p := h
theorem qW43 {p : Prop} (h : p := by first | exact retA_agg rfl rfl rfl qW222 rfl (show _ = 4 from rfl) qW212 qW214 (retA_tmp rfl qW11 retA_nil) | exact retA_one rfl rfl rfl rfl qW222 rfl qW217 (retA_tmp rfl qW11 retA_nil)) : p := h
theorem qW44 {p : Prop} (h : p := by exact AStepD.extract rfl rfl rfl) : p := h
theorem qW45 {p : Prop} (h : p := by first | exact AStepD.load_cel_ip tok rfl rfl rfl rfl (show _ = 4 from rfl) rfl | exact AStepD.load_agg tok rfl rfl rfl qW222 rfl (show _ = 4 from rfl) qW212 qW214 | exact AStepD.load_agg_ip tok rfl rfl rfl rfl (show _ = 4 from rfl) qW212 qW214) : p := h
theorem qW46 {p : Prop} (h : p := by repeat' (first | exact Keep.refl _ | with_reducible assumption | apply Keep.new | apply Keep.set | apply Keep.del | (first | omega | (simp only [za, zb, zc]; omega)))) : p := h
theorem qW47 {p : Prop} (h : p := by first | exact Nat.zero_add 2 | exact (show _ + 2 = _ from qW216) | exact (show _ + 2 = _ + 2 from rfl) | exact rfl) : p := h
theorem qW48 {p : Prop} (h : p := by exact (fun hb => by (try (apply AStepD.uncond 5 rfl (gpf hb))); exact qW16)) : p := h
theorem qW49 {p : Prop} (h : p := by exact (fun _ hb => by (try (apply AStepD.uncond 5 rfl (gpf hb))); exact qW16)) : p := h
theorem qW410 {p : Prop} (h : p := by exact (fun hb => by (try (apply AStepD.uncond 11 rfl (gpf hb))); exact qW16)) : p := h
theorem qW411 {p : Prop} (h : p := by exact (fun _ hb => by (try (apply AStepD.uncond 11 rfl (gpf hb))); exact qW16)) : p := h
theorem qW412 {p : Prop} (h : p := by exact AStepD.geq rfl rfl rfl) : p := h
theorem qW413 {p : Prop} (h : p := by first | exact AStepD.fieldAddr' tok rfl rfl rfl rfl rfl rfl rfl qW47 | exact AStepD.fieldAddr_ip' tok rfl rfl rfl rfl rfl rfl rfl (show List.drop 2 _ = _ from rfl)) : p := h
set_option linter.unusedSimpArgs false
set_option linter.unusedVariables false

theorem zL_zero : AV.ofV (tt 26).zero = c zL := rfl
theorem atoiV_bounds (l : List UInt8) : -9223372036854775808 ≤ atoiV l ∧ atoiV l ≤ 9223372036854775807 := by
  rw [atoiV]
  rcases h : Lib.atoiAll l with v | _ | _
  · exact Lib.atoiAll_bounds h
  · simp
  · skip
    simp only [Lib.atoiSat]
    split <;> simp
theorem err_eql {o : Oper} {T : Fr} {H : AHeap} {t yt : TypeId} {x : Operand} {l : List UInt8} {ms : Array (String × TypeId)} (ho : o.op = .binOp .eql t x (.const .nilIface) yt) (hx : aev T x = atoiE l) (hok : (tt t).ok = true) (hu : (tt t).und = .interface ms) : AStepD Tryd.prog o T H (.v (.bool (!atoiB l))) H := by
  rw [atoiE] at hx
  rw [atoiB]
  rcases hat : Lib.atoiAll l with v | _ | _
  · skip
    rw [hat] at hx
    exact (AStepD.nilIface_nil tok hx rfl hok hu).1 ho
  · skip
    rw [hat] at hx
    exact (AStepD.iface_nil tok hx rfl hok hu).1 ho
  · skip
    rw [hat] at hx
    exact (AStepD.iface_nil tok hx rfl hok hu).1 ho
theorem kind_build {o : Oper} {T : Fr} {H : AHeap} {x : Operand} {k : Int} (ho : o.op = .build 26 #[(0, x)]) (hx : aev T x = .v (.int .i64 k)) : AStepD Tryd.prog o T H (.agg (c (⟨k, 0, 0#64, []⟩ : Ln))) H := by
  refine AStepD.build tok ho rfl rfl (by decide) (by show afill _ _ [(0, aev T x)] = _; rw [hx]; rfl) ?_
  intro p hp z hz
  have hp2 : p = (0, aev T x) := by simpa using hp
  subst hp2
  rw [hx] at hz
  simp only [AV.cells, List.mem_singleton] at hz
  subst hz; rfl
theorem args_le : ∀ w ∈ wordsL, w.args = 0 ∨ w.args = 1 ∨ w.args = 2 ∨ w.args = 3 := by decide
theorem kind_le : ∀ w ∈ wordsL, w.kind ≤ 16 := by decide

set_option maxHeartbeats 4000000 in
theorem cmd_calls (H : AHeap) (l : List UInt8) (hl : l.length ≤ 1000000) : ACalls Tryd.prog 8 [strA l] H (fun r H' => r = .tup [.agg (c (cmdO l).1), .v (.int .i64 (cmdO l).2)] ∧ H' = H) := by
  refine ACalls.quiet_keep ?_ (.tup (by simp only [List.forall_mem_cons]; exact ⟨.agg (Cel.pl _), .v _, fun _ h => absurd h List.not_mem_nil⟩))
  refine ACalls.lts fun hlt => ?_
  refine ACalls.of_body tok Tryd.func8 rfl Tryd.ntmps8 (Nat.le_of_ble_eq_true rfl) (fun base => ?_)
  refine AW.seq_region (fun K hK => ?_)
  refine AL.step rfl rfl rfl qW41 ?_
  refine AL.step rfl rfl rfl qW15 ?_
  refine AL.nil_then (hK _ _ ?_); clear hK K
  rw [zL_zero]
  refine AW.seq_k (fun K1 hK1 => ?_)
  refine AW.seq_region (fun K hK => ?_)
  refine AL.step rfl rfl rfl qW16 ?_
  refine AL.step rfl rfl rfl (by exact strA_len tok rfl rfl rfl rfl) ?_
  refine AL.step rfl rfl rfl qW36 ?_
  refine AL.nil_then (hK _ _ ?_); clear hK K
  refine AW.cond _ rfl (fun hc => ?_) (fun hc => ?_)
  · have hbig : 8192 < l.length := by
      have := of_decide_eq_true hc
      omega
    have hO : cmdO l = (zL, 12) := by rw [cmdO, if_pos hbig]
    refine AW.seq_region (fun K hK => ?_)
    refine AL.step rfl rfl rfl qW42 ?_
    refine AL.step0 rfl rfl qW231 ?_
    refine AL.step rfl rfl rfl qW15 ?_
    refine AL.nil_then (hK _ _ ?_); clear hK K
    refine AW.ret (RetQ.mk (.inr rfl) qW43 ⟨?_, qW12⟩)
    rw [hO]; rfl
  have hsm : ¬ 8192 < l.length := by
    have := of_decide_eq_false hc
    omega
  clear hc
  have hcl := cut_len 32 l
  obtain ⟨x, hx⟩ : ∃ x, x = (cutB 32 l).1 := ⟨_, rfl⟩
  obtain ⟨z, hz⟩ : ∃ z, z = (cutB 32 l).2.1 := ⟨_, rfl⟩
  obtain ⟨two, htwo⟩ : ∃ two, two = (cutB 32 l).2.2 := ⟨_, rfl⟩
  have hO : cmdO l = match wordsL.find? (fun w => decide (w.name = bigL x)) with
    | none => (zL, 61)
    | some w => match argsO w.args two z with
      | none => (zL, 62)
      | some (i, s, k) => (⟨w.kind, i, s, k⟩, 0) := by rw [hx, hz, htwo, cmdO, if_neg hsm]; rfl
  rw [← hx, ← hz] at hcl
  have hxl : x.length ≤ 1000000 := by omega
  have hzl : z.length ≤ 1000000 := by omega
  refine AW.skip ?_
  refine hK1 _ _ ?_; try clear hK1 K1
  refine AW.seq_region (fun K hK => ?_)
  refine AL.step rfl rfl rfl qW16 ?_
  refine AL.step rfl rfl rfl (by exact AStepD.val (AStepD.callf rfl en13 rfl (cut_calls _ l 32 hl)) (y := .tup [strA x, strA z, .v (.bool two)]) (by rw [hx, hz, htwo])) ?_
  refine AL.step rfl rfl rfl qW16 ?_
  refine AL.step rfl rfl rfl qW44 ?_
  refine AL.step rfl rfl rfl qW44 ?_
  refine AL.step rfl rfl rfl qW44 ?_
  refine AL.step rfl rfl rfl qW41 ?_
  refine AL.step0 rfl rfl qW231 ?_
  refine AL.step rfl rfl rfl qW15 ?_
  refine AL.step rfl rfl rfl qW15 ?_
  refine AL.nil_then (hK _ _ ?_); clear hK K
  clear hx hz htwo hcl
  refine AW.seq_region (fun K hK => ?_)
  refine AL.step rfl rfl rfl (by exact AStepD.callf rfl en14 rfl (words_calls _)) ?_
  refine AL.step rfl rfl rfl qW15 ?_
  refine AL.nil_then (hK _ _ ?_); clear hK K
  refine AW.seq_region (fun K hK => ?_)
  refine AL.step rfl rfl rfl qW16 ?_
  refine AL.step rfl rfl rfl (by first | exact AStepD.val (AStepD.makeFunc rfl) (congrArg (AV.func _) (amap_cons qW11 amap_nil)) | exact AStepD.makeFunc rfl) ?_
  refine AL.step rfl rfl rfl (by exact AStepD.callf rfl en15 rfl (index2_calls _ wordsL 16 [.ptr (H.next + 1) 0] (fun w => decide (w.name = bigL x)) en16 (by decide) (fun a _ => isname_calls _ a x (H.next + 1) hxl qW222))) ?_
  refine AL.step rfl rfl rfl qW15 ?_
  refine AL.nil_then (hK _ _ ?_); clear hK K
  refine AW.seq_k (fun K2 hK2 => ?_)
  rcases idxF_find (fun w : Wd => decide (w.name = bigL x)) wordsL with ⟨e1, e2⟩ | ⟨k, hk, e1, e2⟩
  · rw [e1]
    rw [e2] at hO
    simp only at hO
    refine AW.seq_region (fun K hK => ?_)
    refine AL.step rfl rfl rfl qW16 ?_
    refine AL.step rfl rfl rfl qW25 ?_
    refine AL.nil_then (hK _ _ ?_); clear hK K
    refine AW.cond_true rfl rfl ?_
    refine AW.seq_region (fun K hK => ?_)
    refine AL.step rfl rfl rfl qW42 ?_
    refine AL.step0 rfl rfl qW231 ?_
    refine AL.step rfl rfl rfl qW15 ?_
    refine AL.nil_then (hK _ _ ?_); clear hK K
    refine AW.ret (RetQ.mk (.inr rfl) qW43 ⟨?_, qW12⟩)
    rw [hO]; rfl
  rw [e1]
  rw [e2] at hO
  simp only at hO
  obtain ⟨w, hw⟩ : ∃ w, w = wordsL[k] := ⟨_, rfl⟩
  have hmem : w ∈ wordsL := hw ▸ List.getElem_mem hk
  have hargs := args_le w hmem
  have hkind := kind_le w hmem
  rw [← hw] at hO
  have hk15 : k < 15 := hk
  refine AW.seq_region (fun K hK => ?_)
  refine AL.step rfl rfl rfl qW16 ?_
  refine AL.step rfl rfl rfl qW25 ?_
  refine AL.nil_then (hK _ _ ?_); clear hK K
  refine AW.cond_false rfl (by simp) (AW.skip ?_)
  refine hK2 _ _ ?_; try clear hK2 K2
  refine AW.seq_region (fun K hK => ?_)
  refine AL.step rfl rfl rfl qW16 ?_
  refine AL.step rfl rfl rfl qW16 ?_
  refine AL.step rfl rfl rfl qW225 ?_
  refine AL.step rfl rfl rfl qW235 ?_
  refine AL.step rfl rfl rfl qW234 ?_
  refine AL.step rfl rfl rfl (by exact kind_build rfl rfl) ?_
  refine AL.step rfl rfl rfl qW41 ?_
  refine AL.step0 rfl rfl qW231 ?_
  refine AL.nil_then (hK _ _ ?_); clear hK K
  refine AW.seq_region (fun K hK => ?_)
  refine AL.step rfl rfl rfl qW16 ?_
  refine AL.step rfl rfl rfl qW15 ?_
  refine AL.nil_then (hK _ _ ?_); clear hK K
  rw [← hw]
  refine AW.seq_k (fun K3 hK3 => ?_)
  -- the end
  have hfin : ∀ (ok : Bool) (q : Ln) T' H', SubT T' [(10, .v (.bool ok)), (9, .ptr (H.next + 2) 0), (2, .ptr H.next 0)] → H'.get (H.next + 2) = some (.cells 26 (c q)) → H'.get H.next = some (.cells 26 (c zL)) → Keep H H' → (if ok then cmdO l = (q, 0) else cmdO l = (zL, 62)) → K3 T' H' := fun ok q T' H' hT' g2 g0 hk hok => by
    refine hK3 _ _ ?_
    refine AW.sub hT' ?_
    clear hT' hK3 K3 hO e1 e2
    refine AW.seq_k (fun K4 hK4 => ?_)
    refine AW.seq_region (fun K hK => ?_)
    refine AL.step rfl rfl rfl qW16 ?_
    refine AL.step rfl rfl rfl (by first | exact AStepD.not rfl rfl | exact AStepD.neg rfl rfl (by first | exact IntWalk.i64_in _ (by omega) | exact IntWalk.i64_in _ (by simp only [Bool.or_eq_true, Bool.and_eq_true, Bool.or_eq_false_iff, Bool.and_eq_false_iff, Bool.not_eq_true', Bool.not_eq_false', decide_eq_true_eq, decide_eq_false_iff_not, Int.not_lt, Int.not_le, beq_iff_eq] at *; omega) | exact rfl)) ?_
    refine AL.nil_then (hK _ _ ?_); clear hK K
    cases ok with
    | true =>
      simp only [if_true] at hok
      refine AW.cond_false rfl rfl (AW.skip ?_)
      refine hK4 _ _ ?_; try clear hK4 K4
      refine AW.seq_region (fun K hK => ?_)
      refine AL.step rfl rfl rfl qW45 ?_
      refine AL.step0 rfl rfl qW231 ?_
      refine AL.step rfl rfl rfl qW15 ?_
      refine AL.nil_then (hK _ _ ?_); clear hK K
      refine AW.ret (RetQ.mk (.inr rfl) qW43 ⟨?_, qW46⟩)
      rw [hok]; rfl
    | false =>
      simp only [Bool.false_eq_true, if_false] at hok
      refine AW.cond_true rfl rfl ?_
      refine AW.seq_region (fun K hK => ?_)
      refine AL.step rfl rfl rfl qW42 ?_
      refine AL.step0 rfl rfl qW231 ?_
      refine AL.step rfl rfl rfl qW15 ?_
      refine AL.nil_then (hK _ _ ?_); clear hK K
      refine AW.ret (RetQ.mk (.inr rfl) qW43 ⟨?_, qW46⟩)
      rw [hok]; rfl
  refine AW.seq_region (fun K hK => ?_)
  refine AL.step rfl rfl rfl qW16 ?_
  refine AL.step rfl rfl rfl qW16 ?_
  refine AL.step rfl rfl rfl qW225 ?_
  refine AL.step rfl rfl rfl qW413 ?_
  refine AL.step rfl rfl rfl qW234 ?_
  refine AL.nil_then (hK _ _ ?_); clear hK K
  rw [← hw]
  refine AW.block ?_
  rcases hargs with ha | ha | ha | ha
  · have hok : if (!two) = true then cmdO l = (⟨w.kind, 0, 0#64, []⟩, 0) else cmdO l = (zL, 62) := by
      rw [hO, ha]; cases two <;> simp [argsO]
    simp only [ha]
    refine AW.seq_region (fun K hK => ?_)
    refine AL.step rfl rfl rfl (by exact AStepD.bool (AStepD.eql rfl rfl rfl) (c := true) (by simp)) ?_
    refine AL.step rfl rfl rfl qW15 ?_
    refine AL.nil_then (hK _ _ ?_); clear hK K
    refine AW.cond_true rfl rfl ?_
    refine AW.region ?_
    refine AL.step rfl rfl rfl qW16 ?_
    refine AL.step rfl rfl rfl (by first | exact AStepD.not rfl rfl | exact AStepD.neg rfl rfl (by first | exact IntWalk.i64_in _ (by omega) | exact IntWalk.i64_in _ (by simp only [Bool.or_eq_true, Bool.and_eq_true, Bool.or_eq_false_iff, Bool.and_eq_false_iff, Bool.not_eq_true', Bool.not_eq_false', decide_eq_true_eq, decide_eq_false_iff_not, Int.not_lt, Int.not_le, beq_iff_eq] at *; omega) | exact rfl)) ?_
    refine AL.step rfl rfl rfl qW15 ?_
    refine AL.nil ?_
    exact hfin _ _ _ _ qW221 qW222 qW222 qW12 hok
  · have hnum := atoiV_bounds z
    have hok : if (two && !atoiB z && decide (z.length ≤ 15) && decide (Lib.itoa (atoiV z) = z) && decide (0 ≤ atoiV z)) = true then cmdO l = (⟨w.kind, atoiV z, 0#64, []⟩, 0) else cmdO l = (zL, 62) := by
      rw [hO, ha]
      cases h : (two && !atoiB z && decide (z.length ≤ 15) && decide (Lib.itoa (atoiV z) = z) && decide (0 ≤ atoiV z)) <;> simp [argsO, h]
    simp only [ha]
    refine AW.seq_region (fun K hK => ?_)
    refine AL.step rfl rfl rfl (by exact AStepD.bool (AStepD.eql rfl rfl rfl) (c := false) (by simp)) ?_
    refine AL.step rfl rfl rfl qW15 ?_
    refine AL.nil_then (hK _ _ ?_); clear hK K
    refine AW.cond_false rfl rfl ?_
    refine AW.seq_region (fun K hK => ?_)
    refine AL.step rfl rfl rfl (by exact AStepD.bool (AStepD.eql rfl rfl rfl) (c := true) (by simp)) ?_
    refine AL.step rfl rfl rfl qW15 ?_
    refine AL.nil_then (hK _ _ ?_); clear hK K
    refine AW.cond_true rfl rfl ?_
    refine AW.seq_region (fun K hK => ?_)
    refine AL.step rfl rfl rfl qW16 ?_
    refine AL.step rfl rfl rfl (by exact AStepD.callf rfl en18 rfl (atoi_calls _ z hzl)) ?_
    refine AL.step rfl rfl rfl qW16 ?_
    refine AL.step rfl rfl rfl qW44 ?_
    refine AL.step rfl rfl rfl qW44 ?_
    refine AL.step rfl rfl rfl qW15 ?_
    refine AL.step rfl rfl rfl qW15 ?_
    refine AL.nil_then (hK _ _ ?_); clear hK K
    refine AW.seq_region (fun K hK => ?_)
    refine AL.step rfl rfl rfl qW16 ?_
    refine AL.step rfl rfl rfl qW235 ?_
    refine AL.step0 rfl rfl qW231 ?_
    refine AL.nil_then (hK _ _ ?_); clear hK K
    refine AW.region ?_
    refine AL.step rfl rfl rfl qW16 ?_
    refine AL.step rfl rfl rfl qW16 ?_
    first | refine AL.gstep rfl rfl rfl rfl rfl rfl rfl qW16 ?_ | refine AL.gskip rfl rfl rfl rfl rfl rfl rfl ?_ | refine AL.gnone rfl rfl rfl rfl rfl ?_ | refine AL.gmay rfl rfl rfl rfl rfl rfl (fun hb => by (try (apply AStepD.uncond 12 rfl (gpf hb))); exact qW16) ?_ | refine AL.gmay2 rfl rfl rfl rfl rfl rfl (fun _ hb => by (try (apply AStepD.uncond 12 rfl (gpf hb))); exact qW16) ?_
    first | refine AL.gstep rfl rfl rfl rfl rfl rfl rfl (by exact err_eql rfl rfl rfl rfl) ?_ | refine AL.gskip rfl rfl rfl rfl rfl rfl rfl ?_ | refine AL.gnone rfl rfl rfl rfl rfl ?_ | refine AL.gmay rfl rfl rfl rfl rfl rfl (fun hb => by (try (apply AStepD.uncond 59 rfl (gpf hb))); exact (by exact err_eql rfl rfl rfl rfl)) ?_ | refine AL.gmay2 rfl rfl rfl rfl rfl rfl (fun _ hb => by (try (apply AStepD.uncond 59 rfl (gpf hb))); exact (by exact err_eql rfl rfl rfl rfl)) ?_
    refine AL.step rfl rfl rfl qW224 ?_
    refine AL.step rfl rfl rfl qW16 ?_
    first | refine AL.gstep rfl rfl rfl rfl rfl rfl rfl qW16 ?_ | refine AL.gskip rfl rfl rfl rfl rfl rfl rfl ?_ | refine AL.gnone rfl rfl rfl rfl rfl ?_ | refine AL.gmay rfl rfl rfl rfl rfl rfl qW48 ?_ | refine AL.gmay2 rfl rfl rfl rfl rfl rfl qW49 ?_
    first | refine AL.gstep rfl rfl rfl rfl rfl rfl rfl (by exact strA_len tok rfl rfl rfl rfl) ?_ | refine AL.gskip rfl rfl rfl rfl rfl rfl rfl ?_ | refine AL.gnone rfl rfl rfl rfl rfl ?_ | refine AL.gmay rfl rfl rfl rfl rfl rfl (fun hb => by (try (apply AStepD.uncond 63 rfl (gpf hb))); exact (by exact strA_len tok rfl rfl rfl rfl)) ?_ | refine AL.gmay2 rfl rfl rfl rfl rfl rfl (fun _ hb => by (try (apply AStepD.uncond 63 rfl (gpf hb))); exact (by exact strA_len tok rfl rfl rfl rfl)) ?_
    first | refine AL.gstep rfl rfl rfl rfl rfl rfl rfl (by exact AStepD.bool (AStepD.leq rfl rfl rfl) (c := decide (z.length ≤ 15)) (decide_eq_decide.2 (by omega))) ?_ | refine AL.gskip rfl rfl rfl rfl rfl rfl rfl ?_ | refine AL.gnone rfl rfl rfl rfl rfl ?_ | refine AL.gmay rfl rfl rfl rfl rfl rfl (fun hb => by (try (apply AStepD.uncond 64 rfl (gpf hb))); exact (by exact AStepD.bool (AStepD.leq rfl rfl rfl) (c := decide (z.length ≤ 15)) (decide_eq_decide.2 (by omega)))) ?_ | refine AL.gmay2 rfl rfl rfl rfl rfl rfl (fun _ hb => by (try (apply AStepD.uncond 64 rfl (gpf hb))); exact (by exact AStepD.bool (AStepD.leq rfl rfl rfl) (c := decide (z.length ≤ 15)) (decide_eq_decide.2 (by omega)))) ?_
    refine AL.step rfl rfl rfl qW224 ?_
    refine AL.step rfl rfl rfl qW16 ?_
    first | refine AL.gstep rfl rfl rfl rfl rfl rfl rfl qW16 ?_ | refine AL.gskip rfl rfl rfl rfl rfl rfl rfl ?_ | refine AL.gnone rfl rfl rfl rfl rfl ?_ | refine AL.gmay rfl rfl rfl rfl rfl rfl qW410 ?_ | refine AL.gmay2 rfl rfl rfl rfl rfl rfl qW411 ?_
    first | refine AL.gstep rfl rfl rfl rfl rfl rfl rfl (by exact AStepD.callf rfl en19 rfl (itoaG_calls _ (atoiV z) hnum.1 hnum.2)) ?_ | refine AL.gskip rfl rfl rfl rfl rfl rfl rfl ?_ | refine AL.gnone rfl rfl rfl rfl rfl ?_ | refine AL.gmay rfl rfl rfl rfl rfl rfl (fun hb => by (try (apply AStepD.uncond 68 rfl (gpf hb))); exact (by exact AStepD.callf rfl en19 rfl (itoaG_calls _ (atoiV z) hnum.1 hnum.2))) ?_ | refine AL.gmay2 rfl rfl rfl rfl rfl rfl (fun _ hb => by (try (apply AStepD.uncond 68 rfl (gpf hb))); exact (by exact AStepD.callf rfl en19 rfl (itoaG_calls _ (atoiV z) hnum.1 hnum.2))) ?_
    first | refine AL.gstep rfl rfl rfl rfl rfl rfl rfl qW16 ?_ | refine AL.gskip rfl rfl rfl rfl rfl rfl rfl ?_ | refine AL.gnone rfl rfl rfl rfl rfl ?_ | refine AL.gmay rfl rfl rfl rfl rfl rfl qW48 ?_ | refine AL.gmay2 rfl rfl rfl rfl rfl rfl qW49 ?_
    first | refine AL.gstep rfl rfl rfl rfl rfl rfl rfl (by exact AStepD.bool (AStepD.str_eql rfl rfl rfl) (c := decide (Lib.itoa (atoiV z) = z)) (by rw [str_list, str_list])) ?_ | refine AL.gskip rfl rfl rfl rfl rfl rfl rfl ?_ | refine AL.gnone rfl rfl rfl rfl rfl ?_ | refine AL.gmay rfl rfl rfl rfl rfl rfl (fun hb => by (try (apply AStepD.uncond 69 rfl (gpf hb))); (try (apply AStepD.uncond 70 rfl (gpf hb))); exact (by exact AStepD.bool (AStepD.str_eql rfl rfl rfl) (c := decide (Lib.itoa (atoiV z) = z)) (by rw [str_list, str_list]))) ?_ | refine AL.gmay2 rfl rfl rfl rfl rfl rfl (fun _ hb => by (try (apply AStepD.uncond 69 rfl (gpf hb))); (try (apply AStepD.uncond 70 rfl (gpf hb))); exact (by exact AStepD.bool (AStepD.str_eql rfl rfl rfl) (c := decide (Lib.itoa (atoiV z) = z)) (by rw [str_list, str_list]))) ?_
    refine AL.step rfl rfl rfl qW224 ?_
    refine AL.step rfl rfl rfl qW16 ?_
    first | refine AL.gstep rfl rfl rfl rfl rfl rfl rfl qW16 ?_ | refine AL.gskip rfl rfl rfl rfl rfl rfl rfl ?_ | refine AL.gnone rfl rfl rfl rfl rfl ?_ | refine AL.gmay rfl rfl rfl rfl rfl rfl qW410 ?_ | refine AL.gmay2 rfl rfl rfl rfl rfl rfl qW411 ?_
    first | refine AL.gstep rfl rfl rfl rfl rfl rfl rfl qW412 ?_ | refine AL.gskip rfl rfl rfl rfl rfl rfl rfl ?_ | refine AL.gnone rfl rfl rfl rfl rfl ?_ | refine AL.gmay rfl rfl rfl rfl rfl rfl (fun hb => by (try (apply AStepD.uncond 74 rfl (gpf hb))); exact qW412) ?_ | refine AL.gmay2 rfl rfl rfl rfl rfl rfl (fun _ hb => by (try (apply AStepD.uncond 74 rfl (gpf hb))); exact qW412) ?_
    refine AL.step rfl rfl rfl qW224 ?_
    refine AL.step rfl rfl rfl qW15 ?_
    refine AL.nil ?_
    exact hfin _ (⟨w.kind, atoiV z, 0#64, []⟩ : Ln) _ _ qW221 qW222 qW222 qW12 hok
  · have hok : if (two && (parseO z).isSome && decide (parseS z ≠ 0#64)) = true then cmdO l = (⟨w.kind, 0, parseS z, []⟩, 0) else cmdO l = (zL, 62) := by
      rw [hO, ha]
      rw [show argsO 2 two z = if (two && (parseO z).isSome && decide (parseS z ≠ 0#64)) then some (0, parseS z, []) else none from rfl]
      generalize (two && (parseO z).isSome && decide (parseS z ≠ 0#64)) = b
      cases b <;> rfl
    simp only [ha]
    refine AW.seq_region (fun K hK => ?_)
    refine AL.step rfl rfl rfl (by exact AStepD.bool (AStepD.eql rfl rfl rfl) (c := false) (by simp)) ?_
    refine AL.step rfl rfl rfl qW15 ?_
    refine AL.nil_then (hK _ _ ?_); clear hK K
    refine AW.cond_false rfl rfl ?_
    refine AW.seq_region (fun K hK => ?_)
    refine AL.step rfl rfl rfl (by exact AStepD.bool (AStepD.eql rfl rfl rfl) (c := false) (by simp)) ?_
    refine AL.step rfl rfl rfl qW15 ?_
    refine AL.nil_then (hK _ _ ?_); clear hK K
    refine AW.cond_false rfl rfl ?_
    refine AW.seq_region (fun K hK => ?_)
    refine AL.step rfl rfl rfl (by exact AStepD.bool (AStepD.eql rfl rfl rfl) (c := true) (by simp)) ?_
    refine AL.step rfl rfl rfl qW15 ?_
    refine AL.nil_then (hK _ _ ?_); clear hK K
    refine AW.cond_true rfl rfl ?_
    refine AW.seq_region (fun K hK => ?_)
    refine AL.step rfl rfl rfl qW16 ?_
    refine AL.step rfl rfl rfl (by exact AStepD.callf rfl en20 rfl (parse_calls _ z hzl)) ?_
    refine AL.step rfl rfl rfl qW16 ?_
    refine AL.step rfl rfl rfl qW44 ?_
    refine AL.step rfl rfl rfl qW44 ?_
    refine AL.step rfl rfl rfl qW15 ?_
    refine AL.step rfl rfl rfl qW15 ?_
    refine AL.nil_then (hK _ _ ?_); clear hK K
    refine AW.seq_region (fun K hK => ?_)
    refine AL.step rfl rfl rfl qW16 ?_
    refine AL.step rfl rfl rfl qW413 ?_
    refine AL.step0 rfl rfl qW231 ?_
    refine AL.nil_then (hK _ _ ?_); clear hK K
    refine AW.region ?_
    refine AL.step rfl rfl rfl qW16 ?_
    refine AL.step rfl rfl rfl qW16 ?_
    first | refine AL.gstep rfl rfl rfl rfl rfl rfl rfl qW16 ?_ | refine AL.gskip rfl rfl rfl rfl rfl rfl rfl ?_ | refine AL.gnone rfl rfl rfl rfl rfl ?_ | refine AL.gmay rfl rfl rfl rfl rfl rfl (fun hb => by (try (apply AStepD.uncond 14 rfl (gpf hb))); exact qW16) ?_ | refine AL.gmay2 rfl rfl rfl rfl rfl rfl (fun _ hb => by (try (apply AStepD.uncond 14 rfl (gpf hb))); exact qW16) ?_
    first | refine AL.gstep rfl rfl rfl rfl rfl rfl rfl (by exact AStepD.bool (AStepD.eql rfl rfl rfl) (c := (parseO z).isSome) (by rw [parseE]; cases (parseO z).isSome <;> rfl)) ?_ | refine AL.gskip rfl rfl rfl rfl rfl rfl rfl ?_ | refine AL.gnone rfl rfl rfl rfl rfl ?_ | refine AL.gmay rfl rfl rfl rfl rfl rfl (fun hb => by (try (apply AStepD.uncond 88 rfl (gpf hb))); exact (by exact AStepD.bool (AStepD.eql rfl rfl rfl) (c := (parseO z).isSome) (by rw [parseE]; cases (parseO z).isSome <;> rfl))) ?_ | refine AL.gmay2 rfl rfl rfl rfl rfl rfl (fun _ hb => by (try (apply AStepD.uncond 88 rfl (gpf hb))); exact (by exact AStepD.bool (AStepD.eql rfl rfl rfl) (c := (parseO z).isSome) (by rw [parseE]; cases (parseO z).isSome <;> rfl))) ?_
    refine AL.step rfl rfl rfl qW224 ?_
    refine AL.step rfl rfl rfl qW16 ?_
    first | refine AL.gstep rfl rfl rfl rfl rfl rfl rfl qW16 ?_ | refine AL.gskip rfl rfl rfl rfl rfl rfl rfl ?_ | refine AL.gnone rfl rfl rfl rfl rfl ?_ | refine AL.gmay rfl rfl rfl rfl rfl rfl (fun hb => by (try (apply AStepD.uncond 13 rfl (gpf hb))); exact qW16) ?_ | refine AL.gmay2 rfl rfl rfl rfl rfl rfl (fun _ hb => by (try (apply AStepD.uncond 13 rfl (gpf hb))); exact qW16) ?_
    first | refine AL.gstep rfl rfl rfl rfl rfl rfl rfl (by exact AStepD.bool (AStepD.neq (b := ((0#64).toNat : Nat)) rfl rfl rfl) (by simp only [ne_eq]; rw [decide_not, bv_eq, ← decide_not])) ?_ | refine AL.gskip rfl rfl rfl rfl rfl rfl rfl ?_ | refine AL.gnone rfl rfl rfl rfl rfl ?_ | refine AL.gmay rfl rfl rfl rfl rfl rfl (fun hb => by (try (apply AStepD.uncond 92 rfl (gpf hb))); exact (by exact AStepD.bool (AStepD.neq (b := ((0#64).toNat : Nat)) rfl rfl rfl) (by simp only [ne_eq]; rw [decide_not, bv_eq, ← decide_not]))) ?_ | refine AL.gmay2 rfl rfl rfl rfl rfl rfl (fun _ hb => by (try (apply AStepD.uncond 92 rfl (gpf hb))); exact (by exact AStepD.bool (AStepD.neq (b := ((0#64).toNat : Nat)) rfl rfl rfl) (by simp only [ne_eq]; rw [decide_not, bv_eq, ← decide_not]))) ?_
    refine AL.step rfl rfl rfl qW224 ?_
    refine AL.step rfl rfl rfl qW15 ?_
    refine AL.nil ?_
    exact hfin _ (⟨w.kind, 0, parseS z, []⟩ : Ln) _ _ qW221 qW222 qW222 qW12 hok
  · have hok : if two = true then cmdO l = (⟨w.kind, 0, 0#64, z⟩, 0) else cmdO l = (zL, 62) := by
      rw [hO, ha]; cases two <;> simp [argsO]
    simp only [ha]
    refine AW.seq_region (fun K hK => ?_)
    refine AL.step rfl rfl rfl (by exact AStepD.bool (AStepD.eql rfl rfl rfl) (c := false) (by simp)) ?_
    refine AL.step rfl rfl rfl qW15 ?_
    refine AL.nil_then (hK _ _ ?_); clear hK K
    refine AW.cond_false rfl rfl ?_
    refine AW.seq_region (fun K hK => ?_)
    refine AL.step rfl rfl rfl (by exact AStepD.bool (AStepD.eql rfl rfl rfl) (c := false) (by simp)) ?_
    refine AL.step rfl rfl rfl qW15 ?_
    refine AL.nil_then (hK _ _ ?_); clear hK K
    refine AW.cond_false rfl rfl ?_
    refine AW.seq_region (fun K hK => ?_)
    refine AL.step rfl rfl rfl (by exact AStepD.bool (AStepD.eql rfl rfl rfl) (c := false) (by simp)) ?_
    refine AL.step rfl rfl rfl qW15 ?_
    refine AL.nil_then (hK _ _ ?_); clear hK K
    refine AW.cond_false rfl rfl ?_
    refine AW.seq_region (fun K hK => ?_)
    refine AL.step rfl rfl rfl (by exact AStepD.bool (AStepD.eql rfl rfl rfl) (c := true) (by simp)) ?_
    refine AL.step rfl rfl rfl qW15 ?_
    refine AL.nil_then (hK _ _ ?_); clear hK K
    refine AW.cond_true rfl rfl ?_
    refine AW.region ?_
    refine AL.step rfl rfl rfl qW16 ?_
    refine AL.step rfl rfl rfl qW230 ?_
    refine AL.step0 rfl rfl qW231 ?_
    refine AL.nil ?_
    exact hfin _ (⟨w.kind, 0, 0#64, z⟩ : Ln) _ _ qW221 qW222 qW222 qW12 hok

/-- A text of whatever length. -/
theorem cmdG_calls (H : AHeap) (l : List UInt8) : ACalls Tryd.prog 8 [strA l] H (fun r H' => r = .tup [.agg (c (cmdO l).1), .v (.int .i64 (cmdO l).2)] ∧ H' = H) := by
  by_cases hl : l.length ≤ 1000000
  · exact cmd_calls H l hl
  refine ACalls.quiet_keep ?_ (.tup (by simp only [List.forall_mem_cons]; exact ⟨.agg (Cel.pl _), .v _, fun _ h => absurd h List.not_mem_nil⟩))
  have hO : cmdO l = (zL, 12) := by rw [cmdO, if_pos (by omega)]
  refine ACalls.of_body tok Tryd.func8 rfl Tryd.ntmps8 (Nat.le_of_ble_eq_true rfl) (fun base => ?_)
  refine AW.seq_region (fun K hK => ?_)
  refine AL.step rfl rfl rfl qW41 ?_
  refine AL.step rfl rfl rfl qW15 ?_
  refine AL.nil_then (hK _ _ ?_); clear hK K
  rw [zL_zero]
  refine AW.seq_k (fun K1 hK1 => ?_)
  refine AW.seq_region (fun K hK => ?_)
  refine AL.step rfl rfl rfl qW16 ?_
  refine AL.step rfl rfl rfl (by exact strA_len tok rfl rfl rfl rfl) ?_
  refine AL.step rfl rfl rfl (by exact AStepD.bool (AStepD.gtr rfl rfl rfl) (c := true) (decide_eq_true (by omega))) ?_
  refine AL.nil_then (hK _ _ ?_); clear hK K
  refine AW.cond_true rfl rfl ?_
  refine AW.seq_region (fun K hK => ?_)
  refine AL.step rfl rfl rfl qW42 ?_
  refine AL.step0 rfl rfl qW231 ?_
  refine AL.step rfl rfl rfl qW15 ?_
  refine AL.nil_then (hK _ _ ?_); clear hK K
  refine AW.ret (RetQ.mk (.inr rfl) qW43 ⟨?_, qW12⟩)
  rw [hO]; rfl
end Go.Proofs.YtlkbckffeegikaaDoor

/- The walks of Text and of the reference's Parse and Text. -/

namespace Go.Proofs.YtlkbckffeegikaaDoor
open Go.Ax
open Cel (c)
set_option linter.unusedSimpArgs false
set_option linter.unusedVariables false

def lnV (l : Ln) : List Value := [.int .i64 l.kind, .int .i64 l.id, .int .u64 (l.set.toNat : Nat), .string (str l.key)]
theorem ln_allEq (a b : Ln) : allEq (lnV a) (lnV b) = decide (a = b) := by
  have h : (allEq (lnV a) (lnV b) = true) ↔ a = b := by
    simp only [lnV, allEq, cellEq, Bool.and_eq_true, beq_iff_eq, decide_eq_true_eq, str_list, and_true]
    constructor
    · rintro ⟨h1, h2, h3, h4⟩
      obtain ⟨k, i, s, y⟩ := a
      obtain ⟨k', i', s', y'⟩ := b
      simp only at h1 h2 h3 h4
      rw [h1, h2, h4, BitVec.eq_of_toNat_eq (by omega : s.toNat = s'.toNat)]
    · rintro rfl; exact ⟨rfl, rfl, rfl, rfl⟩
  by_cases e : a = b
  · rw [h.2 e, decide_eq_true e]
  · rw [decide_eq_false e, ← Bool.not_eq_true]; exact fun q => e (h.1 q)
theorem ln_eql26 {o : Oper} {T : Fr} {H : AHeap} {yt : TypeId} {x y : Operand} {a b : Ln} (ho : o.op = .binOp .eql 26 x y yt) (hx : aev T x = .agg (c a)) (hy : aev T y = .agg (c b)) : AStepD Tryd.prog o T H (.v (.bool (decide (a = b)))) H :=
  AStepD.mix_eq (xs := lnV a) (ys := lnV b) tok .eql (.inl rfl) ho hx hy rfl rfl (by kernel_rfl) (by kernel_rfl) rfl (by rw [if_pos rfl, ln_allEq])
theorem ln_neq26 {o : Oper} {T : Fr} {H : AHeap} {yt : TypeId} {x y : Operand} {a b : Ln} (ho : o.op = .binOp .neq 26 x y yt) (hx : aev T x = .agg (c a)) (hy : aev T y = .agg (c b)) : AStepD Tryd.prog o T H (.v (.bool (!decide (a = b)))) H :=
  AStepD.mix_eq (xs := lnV a) (ys := lnV b) tok .neq (.inr rfl) ho hx hy rfl rfl (by kernel_rfl) (by kernel_rfl) rfl (by rw [if_neg (by decide), ln_allEq])
theorem ln_eql31 {o : Oper} {T : Fr} {H : AHeap} {yt : TypeId} {x y : Operand} {a b : Ln} (ho : o.op = .binOp .eql 31 x y yt) (hx : aev T x = .agg (c a)) (hy : aev T y = .agg (c b)) : AStepD Tryd.prog o T H (.v (.bool (decide (a = b)))) H :=
  AStepD.mix_eq (xs := lnV a) (ys := lnV b) tok .eql (.inl rfl) ho hx hy rfl rfl (by kernel_rfl) (by kernel_rfl) rfl (by rw [if_pos rfl, ln_allEq])
theorem ln_neq31 {o : Oper} {T : Fr} {H : AHeap} {yt : TypeId} {x y : Operand} {a b : Ln} (ho : o.op = .binOp .neq 31 x y yt) (hx : aev T x = .agg (c a)) (hy : aev T y = .agg (c b)) : AStepD Tryd.prog o T H (.v (.bool (!decide (a = b)))) H :=
  AStepD.mix_eq (xs := lnV a) (ys := lnV b) tok .neq (.inr rfl) ho hx hy rfl rfl (by kernel_rfl) (by kernel_rfl) rfl (by rw [if_neg (by decide), ln_allEq])
theorem name_len : ∀ w ∈ wordsL, w.name.length ≤ 9 := by decide
theorem itoa_len {n : Int} (h0 : -9223372036854775808 ≤ n) (h1 : n ≤ 9223372036854775807) : (Lib.itoa n).length ≤ 20 := by
  by_cases h : 0 ≤ n
  · obtain ⟨m, rfl⟩ := Int.eq_ofNat_of_zero_le h
    rw [Lib.itoa_nonneg]
    have := decL_len m (by omega)
    omega
  · obtain ⟨m, hm⟩ := Int.eq_ofNat_of_zero_le (show 0 ≤ -n by omega)
    have e : n = -(m : Int) := by omega
    rw [e, Lib.itoa_neg m (by omega), List.length_cons]
    by_cases h2 : m = 9223372036854775808
    · rw [h2, Lib.decDigits_length]
      have := nDigits_le 18 9223372036854775808 (by decide)
      omega
    · have := decL_len m (by omega)
      omega

set_option maxHeartbeats 4000000 in
theorem txt_calls (H : AHeap) (l : Ln) (hid : -9223372036854775808 ≤ l.id ∧ l.id ≤ 9223372036854775807) (hkey : l.key.length ≤ 1000000000000000) : ACalls Tryd.prog 11 [.agg (c l)] H (fun r H' => r = .tup [strA ((txtO l).getD []), .v (.int .i64 (if (txtO l).isSome then 0 else 62))] ∧ H' = H) := by
  refine ACalls.quiet_keep ?_ (.tup (by simp only [List.forall_mem_cons]; exact ⟨.v _, .v _, fun _ h => absurd h List.not_mem_nil⟩))
  refine ACalls.lts fun hlt => ?_
  refine ACalls.of_body tok Tryd.func11 rfl Tryd.ntmps11 (Nat.le_of_ble_eq_true rfl) (fun base => ?_)
  refine AW.seq_region (fun K hK => ?_)
  refine AL.step rfl rfl rfl qW226 ?_
  refine AL.step rfl rfl rfl qW15 ?_
  refine AL.step rfl rfl rfl qW15 ?_
  refine AL.nil_then (hK _ _ ?_); clear hK K
  refine AW.seq_region (fun K hK => ?_)
  refine AL.step rfl rfl rfl (by exact AStepD.callf rfl en14 rfl (words_calls _)) ?_
  refine AL.step rfl rfl rfl qW15 ?_
  refine AL.nil_then (hK _ _ ?_); clear hK K
  refine AW.seq_region (fun K hK => ?_)
  refine AL.step rfl rfl rfl qW16 ?_
  refine AL.step rfl rfl rfl (by first | exact AStepD.val (AStepD.makeFunc rfl) (congrArg (AV.func _) (amap_cons qW11 amap_nil)) | exact AStepD.makeFunc rfl) ?_
  refine AL.step rfl rfl rfl (by exact AStepD.callf rfl en15 rfl (index2_calls _ wordsL 26 [.ptr H.next 0] (fun w => decide ((w.kind : Int) = l.kind)) en26 (by decide) (fun a _ => iskind_calls _ a l H.next qW222))) ?_
  refine AL.step rfl rfl rfl qW15 ?_
  refine AL.nil_then (hK _ _ ?_); clear hK K
  refine AW.seq_k (fun K1 hK1 => ?_)
  rcases idxF_find (fun w : Wd => decide ((w.kind : Int) = l.kind)) wordsL with ⟨e1, e2⟩ | ⟨k, hk, e1, e2⟩
  · have hO : txtO l = none := by rw [txtO, txtT, e2]; rfl
    rw [e1]
    refine AW.seq_region (fun K hK => ?_)
    refine AL.step rfl rfl rfl qW16 ?_
    refine AL.step rfl rfl rfl qW25 ?_
    refine AL.nil_then (hK _ _ ?_); clear hK K
    refine AW.cond_true rfl rfl ?_
    refine AW.seq_region (fun K hK => ?_)
    refine AL.step rfl rfl rfl qW15 ?_
    refine AL.step rfl rfl rfl qW15 ?_
    refine AL.nil_then (hK _ _ ?_); clear hK K
    refine AW.ret (RetQ.mk (.inr rfl) (retA_tmp rfl qW11 (retA_tmp rfl qW11 retA_nil)) ⟨?_, qW12⟩)
    rw [hO]; rfl
  obtain ⟨w, hw⟩ : ∃ w, w = wordsL[k] := ⟨_, rfl⟩
  have hO : txtO l = if cmdO (w.name ++ argT w.args l) = (l, 0) then some (w.name ++ argT w.args l) else none := by rw [txtO, txtT, e2, hw]; rfl
  have hmem : w ∈ wordsL := hw ▸ List.getElem_mem hk
  have hargs := args_le w hmem
  have hname := name_len w hmem
  have hil := itoa_len hid.1 hid.2
  have htl := textS_len l.set
  have hk15 : k < 15 := hk
  rw [e1]
  refine AW.seq_region (fun K hK => ?_)
  refine AL.step rfl rfl rfl qW16 ?_
  refine AL.step rfl rfl rfl qW25 ?_
  refine AL.nil_then (hK _ _ ?_); clear hK K
  refine AW.cond_false rfl (by simp) (AW.skip ?_)
  refine hK1 _ _ ?_; try clear hK1 K1
  refine AW.seq_region (fun K hK => ?_)
  refine AL.step rfl rfl rfl qW16 ?_
  refine AL.step rfl rfl rfl qW16 ?_
  refine AL.step rfl rfl rfl qW225 ?_
  refine AL.step rfl rfl rfl qW233 ?_
  refine AL.step rfl rfl rfl qW234 ?_
  refine AL.step rfl rfl rfl qW15 ?_
  refine AL.nil_then (hK _ _ ?_); clear hK K
  rw [← hw]
  refine AW.seq_k (fun K3 hK3 => ?_)
  have hfin : ∀ t T', SubT T' [(6, strA t), (1, .ptr H.next 0)] → t = w.name ++ argT w.args l → True → K3 T' (H.new (.cells 26 (c l))) := fun t T' hT' ht htl2 => by
    rw [← ht] at hO
    refine hK3 _ _ ?_
    refine AW.sub hT' ?_
    clear hT' hK3 K3 e1 e2 ht
    refine AW.seq_k (fun K4 hK4 => ?_)
    refine AW.seq_region (fun K hK => ?_)
    refine AL.step rfl rfl rfl qW16 ?_
    refine AL.step rfl rfl rfl (by exact AStepD.callf rfl en8 rfl (cmdG_calls _ t)) ?_
    refine AL.step rfl rfl rfl qW16 ?_
    refine AL.step rfl rfl rfl qW44 ?_
    refine AL.step rfl rfl rfl qW44 ?_
    refine AL.step rfl rfl rfl qW41 ?_
    refine AL.step0 rfl rfl qW231 ?_
    refine AL.step rfl rfl rfl qW15 ?_
    refine AL.nil_then (hK _ _ ?_); clear hK K
    refine AW.seq_region (fun K hK => ?_)
    refine AL.step rfl rfl rfl qW16 ?_
    refine AL.step rfl rfl rfl qW31 ?_
    refine AL.step rfl rfl rfl qW16 ?_
    first | refine AL.gstep rfl rfl rfl rfl rfl rfl rfl qW45 ?_ | refine AL.gskip rfl rfl rfl rfl rfl rfl rfl ?_ | refine AL.gnone rfl rfl rfl rfl rfl ?_ | refine AL.gmay rfl rfl rfl rfl rfl rfl (fun hb => by (try (apply AStepD.uncond 7 rfl (gpf hb))); exact qW45) ?_ | refine AL.gmay2 rfl rfl rfl rfl rfl rfl (fun _ hb => by (try (apply AStepD.uncond 7 rfl (gpf hb))); exact qW45) ?_
    first | refine AL.gstep rfl rfl rfl rfl rfl rfl rfl qW45 ?_ | refine AL.gskip rfl rfl rfl rfl rfl rfl rfl ?_ | refine AL.gnone rfl rfl rfl rfl rfl ?_ | refine AL.gmay rfl rfl rfl rfl rfl rfl (fun hb => by (try (apply AStepD.uncond 1 rfl (gpf hb))); exact qW45) ?_ | refine AL.gmay2 rfl rfl rfl rfl rfl rfl (fun _ hb => by (try (apply AStepD.uncond 1 rfl (gpf hb))); exact qW45) ?_
    first | refine AL.gstep rfl rfl rfl rfl rfl rfl rfl (by exact ln_neq26 rfl rfl rfl) ?_ | refine AL.gskip rfl rfl rfl rfl rfl rfl rfl ?_ | refine AL.gnone rfl rfl rfl rfl rfl ?_ | refine AL.gmay rfl rfl rfl rfl rfl rfl (fun hb => by (try (apply AStepD.uncond 56 rfl (gpf hb))); (try (apply AStepD.uncond 57 rfl (gpf hb))); exact (by exact ln_neq26 rfl rfl rfl)) ?_ | refine AL.gmay2 rfl rfl rfl rfl rfl rfl (fun _ hb => by (try (apply AStepD.uncond 56 rfl (gpf hb))); (try (apply AStepD.uncond 57 rfl (gpf hb))); exact (by exact ln_neq26 rfl rfl rfl)) ?_
    refine AL.step rfl rfl rfl qW224 ?_
    refine AL.nil_then (hK _ _ ?_); clear hK K
    refine AW.cond _ rfl (fun hc => ?_) (fun hc => ?_)
    · have hno : txtO l = none := by
        rw [hO, if_neg]
        intro e
        rw [e] at hc
        simp at hc
      refine AW.seq_region (fun K hK => ?_)
      refine AL.step rfl rfl rfl qW15 ?_
      refine AL.step rfl rfl rfl qW15 ?_
      refine AL.nil_then (hK _ _ ?_); clear hK K
      refine AW.ret (RetQ.mk (.inr rfl) (retA_tmp rfl qW11 (retA_tmp rfl qW11 retA_nil)) ⟨?_, qW12⟩)
      rw [hno]; rfl
    · have hyes : txtO l = some t := by
        rw [hO, if_pos]
        simp only [Bool.or_eq_false_iff, decide_eq_false_iff_not, Bool.not_eq_false', decide_eq_true_eq, ne_eq, Decidable.not_not] at hc
        exact Prod.ext hc.2 hc.1
      refine AW.skip ?_
      refine hK4 _ _ ?_; try clear hK4 K4
      refine AW.seq_region (fun K hK => ?_)
      refine AL.step rfl rfl rfl qW16 ?_
      refine AL.step rfl rfl rfl qW15 ?_
      refine AL.step rfl rfl rfl qW15 ?_
      refine AL.nil_then (hK _ _ ?_); clear hK K
      refine AW.ret (RetQ.mk (.inr rfl) (retA_tmp rfl qW11 (retA_tmp rfl qW11 retA_nil)) ⟨?_, qW12⟩)
      rw [hyes]; rfl
  refine AW.seq_region (fun K hK => ?_)
  refine AL.step rfl rfl rfl qW16 ?_
  refine AL.step rfl rfl rfl qW16 ?_
  refine AL.step rfl rfl rfl qW225 ?_
  refine AL.step rfl rfl rfl qW413 ?_
  refine AL.step rfl rfl rfl qW234 ?_
  refine AL.nil_then (hK _ _ ?_); clear hK K
  rw [← hw]
  refine AW.block ?_
  rcases hargs with ha | ha | ha | ha
  · simp only [ha]
    refine AW.seq_region (fun K hK => ?_)
    refine AL.step rfl rfl rfl (by exact AStepD.bool (AStepD.eql rfl rfl rfl) (c := false) (by simp)) ?_
    refine AL.step rfl rfl rfl qW15 ?_
    refine AL.nil_then (hK _ _ ?_); clear hK K
    refine AW.cond_false rfl rfl ?_
    refine AW.seq_region (fun K hK => ?_)
    refine AL.step rfl rfl rfl (by exact AStepD.bool (AStepD.eql rfl rfl rfl) (c := false) (by simp)) ?_
    refine AL.step rfl rfl rfl qW15 ?_
    refine AL.nil_then (hK _ _ ?_); clear hK K
    refine AW.cond_false rfl rfl ?_
    refine AW.seq_region (fun K hK => ?_)
    refine AL.step rfl rfl rfl (by exact AStepD.bool (AStepD.eql rfl rfl rfl) (c := false) (by simp)) ?_
    refine AL.step rfl rfl rfl qW15 ?_
    refine AL.nil_then (hK _ _ ?_); clear hK K
    refine AW.cond_false rfl rfl (AW.skip ?_)
    exact hfin w.name _ qW221 (by rw [ha, show argT 0 l = [] from rfl, List.append_nil]) trivial
  · simp only [ha]
    refine AW.seq_region (fun K hK => ?_)
    refine AL.step rfl rfl rfl (by exact AStepD.bool (AStepD.eql rfl rfl rfl) (c := true) (by simp)) ?_
    refine AL.step rfl rfl rfl qW15 ?_
    refine AL.nil_then (hK _ _ ?_); clear hK K
    refine AW.cond_true rfl rfl ?_
    refine AW.region ?_
    refine AL.step rfl rfl rfl qW16 ?_
    refine AL.step rfl rfl rfl qW235 ?_
    refine AL.step rfl rfl rfl qW234 ?_
    refine AL.step rfl rfl rfl (by exact AStepD.callf rfl en19 rfl (itoaG_calls _ l.id hid.1 hid.2)) ?_
    refine AL.step rfl rfl rfl (by exact strA_add [32] (Lib.itoa l.id) rfl rfl rfl (by simp; omega)) ?_
    refine AL.step rfl rfl rfl (by exact strA_add w.name ([32] ++ Lib.itoa l.id) rfl rfl rfl (by simp; omega)) ?_
    refine AL.step rfl rfl rfl qW15 ?_
    refine AL.nil ?_
    exact hfin (w.name ++ ([32] ++ Lib.itoa l.id)) _ qW221 (by rw [ha]; rfl) trivial
  · simp only [ha]
    refine AW.seq_region (fun K hK => ?_)
    refine AL.step rfl rfl rfl (by exact AStepD.bool (AStepD.eql rfl rfl rfl) (c := false) (by simp)) ?_
    refine AL.step rfl rfl rfl qW15 ?_
    refine AL.nil_then (hK _ _ ?_); clear hK K
    refine AW.cond_false rfl rfl ?_
    refine AW.seq_region (fun K hK => ?_)
    refine AL.step rfl rfl rfl (by exact AStepD.bool (AStepD.eql rfl rfl rfl) (c := true) (by simp)) ?_
    refine AL.step rfl rfl rfl qW15 ?_
    refine AL.nil_then (hK _ _ ?_); clear hK K
    refine AW.cond_true rfl rfl ?_
    refine AW.region ?_
    refine AL.step rfl rfl rfl qW16 ?_
    refine AL.step rfl rfl rfl qW413 ?_
    refine AL.step rfl rfl rfl qW234 ?_
    refine AL.step rfl rfl rfl (by exact AStepD.callf rfl en27 rfl (text_calls _ l.set)) ?_
    refine AL.step rfl rfl rfl (by exact strA_add [32] (textS l.set) rfl rfl rfl (by simp; omega)) ?_
    refine AL.step rfl rfl rfl (by exact strA_add w.name ([32] ++ textS l.set) rfl rfl rfl (by simp; omega)) ?_
    refine AL.step rfl rfl rfl qW15 ?_
    refine AL.nil ?_
    exact hfin (w.name ++ ([32] ++ textS l.set)) _ qW221 (by rw [ha]; rfl) trivial
  · simp only [ha]
    refine AW.seq_region (fun K hK => ?_)
    refine AL.step rfl rfl rfl (by exact AStepD.bool (AStepD.eql rfl rfl rfl) (c := false) (by simp)) ?_
    refine AL.step rfl rfl rfl qW15 ?_
    refine AL.nil_then (hK _ _ ?_); clear hK K
    refine AW.cond_false rfl rfl ?_
    refine AW.seq_region (fun K hK => ?_)
    refine AL.step rfl rfl rfl (by exact AStepD.bool (AStepD.eql rfl rfl rfl) (c := false) (by simp)) ?_
    refine AL.step rfl rfl rfl qW15 ?_
    refine AL.nil_then (hK _ _ ?_); clear hK K
    refine AW.cond_false rfl rfl ?_
    refine AW.seq_region (fun K hK => ?_)
    refine AL.step rfl rfl rfl (by exact AStepD.bool (AStepD.eql rfl rfl rfl) (c := true) (by simp)) ?_
    refine AL.step rfl rfl rfl qW15 ?_
    refine AL.nil_then (hK _ _ ?_); clear hK K
    refine AW.cond_true rfl rfl ?_
    refine AW.region ?_
    refine AL.step rfl rfl rfl qW16 ?_
    refine AL.step rfl rfl rfl qW230 ?_
    refine AL.step rfl rfl rfl qW234 ?_
    refine AL.step rfl rfl rfl (by exact strA_add [32] l.key rfl rfl rfl (by simp; omega)) ?_
    refine AL.step rfl rfl rfl (by exact strA_add w.name ([32] ++ l.key) rfl rfl rfl (by simp; omega)) ?_
    refine AL.step rfl rfl rfl qW15 ?_
    refine AL.nil ?_
    exact hfin (w.name ++ ([32] ++ l.key)) _ qW221 (by rw [ha]; rfl) trivial
end Go.Proofs.YtlkbckffeegikaaDoor

/- The walks of the reference's Parse and Text. -/

namespace Go.Proofs.YtlkbckffeegikaaDoor
open Go.Ax
open Cel (c)
theorem qW61 {p : Prop} (h : p := by exact (fun hb => by (try (apply AStepD.uncond 4 rfl (gpf hb))); exact qW16)) : p := h
theorem qW62 {p : Prop} (h : p := by exact (fun _ hb => by (try (apply AStepD.uncond 4 rfl (gpf hb))); exact qW16)) : p := h
theorem qW63 {p : Prop} (h : p := by first | exact AStepD.slice_flat_to tok rfl rfl rfl rfl rfl rfl qW11 rfl rfl qW26 qW27 | exact AStepD.slice_flat_from tok rfl rfl rfl rfl rfl rfl qW11 rfl rfl qW26 qW27 | exact AStepD.slice_vec' tok rfl rfl rfl rfl rfl qW11 rfl rfl qW26 qW26 qW27 qW27 rfl rfl | exact AStepD.slice_sl_in tok rfl rfl rfl rfl rfl qW11 qW26 qW26 qW27 qW27 qW27 qW28 qW28 | exact AStepD.slice_sl_end tok rfl rfl rfl rfl rfl qW11 qW26 qW26 qW27 qW27 qW27 | exact AStepD.slice_slx tok rfl rfl rfl rfl rfl qW11 qW26 qW26 qW27 qW27 qW27 qW28 qW28 qW28 | exact AStepD.slice_slc_in tok rfl (SubV.refl _) rfl rfl rfl qW11 qW26 qW26 qW27 qW27 qW27 qW28 qW28 qW28 | exact AStepD.slice_str' tok rfl rfl rfl rfl rfl rfl qW26 qW26 qW27 qW27 | exact AStepD.slice_nil tok rfl rfl rfl rfl rfl rfl rfl | exact AStepD.slice_arr' tok rfl rfl rfl rfl rfl qW11 qW222 rfl rfl qW26 qW26 qW212 (by decide) qW27 qW27 qW27) : p := h
theorem qW64 {p : Prop} (h : p := by exact (fun hb => by (try (apply AStepD.uncond 6 rfl (gpf hb))); exact qW16)) : p := h
theorem qW65 {p : Prop} (h : p := by exact (fun _ hb => by (try (apply AStepD.uncond 6 rfl (gpf hb))); exact qW16)) : p := h
set_option linter.unusedSimpArgs false
set_option linter.unusedVariables false

theorem row_zero : (AV.ofV (tt 65).zero).length = 64 := by rw [flF_zero]; exact row_len _
theorem zL_zero31 : AV.ofV (tt 31).zero = c zL := rfl
theorem cut_scan {l : List UInt8} {e : Nat} (h1 : ∀ j, j < e → l[j]? ≠ some 32) (h2 : e ≤ l.length) (h3 : e < l.length → l[e]? = some 32) : cutB 32 l = (l.take e, if e < l.length then l.drop (e + 1) else [], decide (e < l.length)) := by
  rw [cutB]
  split
  · rename_i h
    have hno := index_none h
    have he : ¬ e < l.length := fun hl => hno (List.mem_of_getElem? (h3 hl))
    rw [if_neg he, decide_eq_false he, List.take_of_length_le (by omega)]
  · rename_i h
    obtain ⟨o, ho⟩ := Int.eq_ofNat_of_zero_le (show 0 ≤ Lib.indexByte l 32 by omega)
    obtain ⟨k1, k2⟩ := Lib.indexByte_some ho
    have hol : o < l.length := (List.getElem?_eq_some_iff.1 k1).1
    have heo : e = o := by
      rcases Nat.lt_trichotomy e o with q | q | q
      · exact absurd (h3 (by omega)) (k2 e q)
      · exact q
      · exact absurd k1 (h1 o q)
    subst heo
    rw [ho, Int.toNat_natCast, if_pos hol, decide_eq_true hol]
theorem kind_build31 {o : Oper} {T : Fr} {H : AHeap} {x : Operand} {k : Int} (ho : o.op = .build 31 #[(0, x)]) (hx : aev T x = .v (.int .i64 k)) : AStepD Tryd.prog o T H (.agg (c (⟨k, 0, 0#64, []⟩ : Ln))) H := by
  refine AStepD.build tok ho rfl rfl (by decide) (by show afill _ _ [(0, aev T x)] = _; rw [hx]; rfl) ?_
  intro p hp z hz
  have hp2 : p = (0, aev T x) := by simpa using hp
  subst hp2
  rw [hx] at hz
  simp only [AV.cells, List.mem_singleton] at hz
  subst hz; rfl
theorem find_name : ∀ w ∈ wordsL, wordsL.find? (fun v => decide (v.name = w.name)) = some w := by decide
theorem word_some {k : Int} {w : Wd} (h : wordsL.find? (fun v => decide ((v.kind : Int) = k)) = some w) : wordR k = (w.name, w.args) := by rw [wordR, h]
theorem word_none {k : Int} (h : wordsL.find? (fun v => decide ((v.kind : Int) = k)) = none) : wordR k = ([], 0) := by rw [wordR, h]
theorem find_kind : ∀ w ∈ wordsL, wordsL.find? (fun v => decide ((v.kind : Int) = (w.kind : Nat))) = some w := by decide
theorem name_pos : ∀ w ∈ wordsL, w.name ≠ [] := by decide
theorem kind_pos : ∀ w ∈ wordsL, 1 ≤ w.kind := by decide

set_option maxHeartbeats 8000000 in
theorem refcmd_calls (H : AHeap) (l : List UInt8) (hl : l.length ≤ 1000000) : ACalls Tryd.prog 9 [strA l] H (fun r H' => r = .tup [.agg (c (cmdO l).1), .v (.int .i64 (cmdO l).2)] ∧ H' = H) := by
  refine ACalls.quiet_keep ?_ (.tup (by simp only [List.forall_mem_cons]; exact ⟨.agg (Cel.pl _), .v _, fun _ h => absurd h List.not_mem_nil⟩))
  refine ACalls.lts fun hlt => ?_
  refine ACalls.of_body tok Tryd.func9 rfl Tryd.ntmps9 (Nat.le_of_ble_eq_true rfl) (fun base => ?_)
  refine AW.seq_region (fun K hK => ?_)
  refine AL.step rfl rfl rfl qW41 ?_
  refine AL.step rfl rfl rfl qW15 ?_
  refine AL.nil_then (hK _ _ ?_); clear hK K
  rw [zL_zero31]
  refine AW.seq_k (fun K1 hK1 => ?_)
  refine AW.seq_region (fun K hK => ?_)
  refine AL.step rfl rfl rfl qW16 ?_
  refine AL.step rfl rfl rfl (by exact strA_len tok rfl rfl rfl rfl) ?_
  refine AL.step rfl rfl rfl qW36 ?_
  refine AL.nil_then (hK _ _ ?_); clear hK K
  refine AW.cond _ rfl (fun hc => ?_) (fun hc => ?_)
  · have hbig : 8192 < l.length := by
      have := of_decide_eq_true hc
      omega
    have hO : cmdO l = (zL, 12) := by rw [cmdO, if_pos hbig]
    refine AW.seq_region (fun K hK => ?_)
    refine AL.step rfl rfl rfl qW42 ?_
    refine AL.step0 rfl rfl (by first | exact AStepD.store_row (k := 4) tok rfl rfl qW222 rfl rfl rfl (by first | with_reducible assumption | exact row_len _ | exact row_zero) (by first | with_reducible assumption | exact row_len _ | exact row_zero) | exact AStepD.store' tok rfl rfl qW222 qW11 qW211 qW14 rfl qW11 rfl qW212 qW213) ?_
    refine AL.step rfl rfl rfl qW15 ?_
    refine AL.nil_then (hK _ _ ?_); clear hK K
    refine AW.ret (RetQ.mk (.inr rfl) qW43 ⟨?_, qW12⟩)
    rw [hO]; rfl
  have hsm : ¬ 8192 < l.length := by
    have := of_decide_eq_false hc
    omega
  clear hc
  refine AW.skip ?_
  refine hK1 _ _ ?_; try clear hK1 K1
  refine AW.seq_region (fun K hK => ?_)
  refine AL.step rfl rfl rfl qW15 ?_
  refine AL.nil_then (hK _ _ ?_); clear hK K
  refine AW.seq_k (fun K2 hK2 => ?_)
  refine AW.block ?_
  refine AW.loop_at (ι := Nat) (fun e => [(4, .v (.int .i64 (e : Nat))), (2, .ptr H.next 0), (0, strA l)])
    (fun e H' => e ≤ l.length ∧ (∀ j, j < e → l[j]? ≠ some 32) ∧ H' = H.new (.cells 31 (c zL))) (fun e => l.length - e) 0 qW221 ⟨Nat.zero_le _, fun j h => by omega, rfl⟩ ?_
  rintro e _ ⟨he, hno, rfl⟩
  refine AW.seq_k (fun K3 hK3 => ?_)
  have h32 : (32 : UInt8).toNat = 32 := rfl
  have hexit : (¬ e < l.length ∨ at8 l e = 32) → ∀ T', SubT T' [(4, .v (.int .i64 (e : Nat))), (2, .ptr H.next 0), (0, strA l)] → K2 T' (H.new (.cells 31 (c zL))) := fun hend T' hT' => by
    refine hK2 _ _ ?_
    refine AW.sub hT' ?_
    clear hT' hK2 K2 hK3 K3
    have hcut := cut_scan hno he (fun h => by
      rcases hend with q | q
      · exact absurd h q
      · rw [List.getElem?_eq_getElem h]
        rw [at8_elem h] at q
        rw [UInt8.toNat_inj.1 (q.trans h32.symm)])
    obtain ⟨x, hx⟩ : ∃ x, x = l.take e := ⟨_, rfl⟩
    obtain ⟨z, hz⟩ : ∃ z, z = l.drop (e + 1) := ⟨_, rfl⟩
    have hO : cmdO l = match wordsL.find? (fun w => decide (w.name = bigL x)) with
      | none => (zL, 61)
      | some w => match argsO w.args (decide (e < l.length)) (if e < l.length then z else []) with
        | none => (zL, 62)
        | some (i, s, k) => (⟨w.kind, i, s, k⟩, 0) := by rw [hx, hz, cmdO, if_neg hsm, hcut]; rfl
    have hxl : x.length ≤ 1000000 := by rw [hx, List.length_take]; omega
    have hzl : z.length ≤ 1000000 := by rw [hz, List.length_drop]; omega
    clear hcut hno hend
    refine AW.seq_k (fun K4 hK4 => ?_)
    refine AW.seq_region (fun K hK => ?_)
    refine AL.step rfl rfl rfl qW15 ?_
    refine AL.nil_then (hK _ _ ?_); clear hK K
    refine AW.block ?_
    refine AW.loop_at (ι := Nat) (fun kd => [(5, .v (.int .i64 (kd : Nat))), (4, .v (.int .i64 (e : Nat))), (2, .ptr H.next 0), (0, strA l)])
      (fun kd H' => kd ≤ 17 ∧ (∀ w ∈ wordsL, w.kind < kd → w.name ≠ bigL x) ∧ H' = H.new (.cells 31 (c zL))) (fun kd => 17 - kd) 1 qW221 ⟨by omega, fun w hw h => by have := kind_pos w hw; omega, rfl⟩ ?_
    rintro kd _ ⟨hkd, hprev, rfl⟩
    refine AW.seq_k (fun K5 hK5 => ?_)
    refine AW.seq_region (fun K hK => ?_)
    refine AL.step rfl rfl rfl qW16 ?_
    refine AL.step rfl rfl rfl qW29 ?_
    refine AL.nil_then (hK _ _ ?_); clear hK K
    refine AW.cond _ rfl (fun hc => ?_) (fun hc => ?_)
    · have hk16 : kd ≤ 16 := by
        have := of_decide_eq_true hc
        omega
      clear hc
      refine AW.skip ?_
      refine hK5 _ _ ?_; try clear hK5 K5
      refine AW.seq_k (fun K6 hK6 => ?_)
      refine AW.block ?_
      refine AW.seq_region (fun K hK => ?_)
      refine AL.step rfl rfl rfl qW16 ?_
      refine AL.step rfl rfl rfl (by exact AStepD.callf rfl en21 rfl (word_calls _ (kd : Nat))) ?_
      refine AL.step rfl rfl rfl qW16 ?_
      refine AL.step rfl rfl rfl qW44 ?_
      refine AL.step rfl rfl rfl qW44 ?_
      refine AL.step rfl rfl rfl qW15 ?_
      refine AL.step rfl rfl rfl qW15 ?_
      refine AL.nil_then (hK _ _ ?_); clear hK K
      refine AW.seq_k (fun K7 hK7 => ?_)
      cases hfk : wordsL.find? (fun v => decide ((v.kind : Int) = (kd : Nat))) with
      | none =>
        rw [word_none hfk]
        refine AW.seq_region (fun K hK => ?_)
        refine AL.step rfl rfl rfl qW16 ?_
        refine AL.step rfl rfl rfl (by exact AStepD.bool (AStepD.str_eql rfl rfl rfl) (c := true) rfl) ?_
        refine AL.step rfl rfl rfl qW16 ?_
        first | refine AL.gstep rfl rfl rfl rfl rfl rfl rfl qW16 ?_ | refine AL.gskip rfl rfl rfl rfl rfl rfl rfl ?_ | refine AL.gnone rfl rfl rfl rfl rfl ?_ | refine AL.gmay rfl rfl rfl rfl rfl rfl qW32 ?_ | refine AL.gmay2 rfl rfl rfl rfl rfl rfl qW33 ?_
        first | refine AL.gstep rfl rfl rfl rfl rfl rfl rfl qW16 ?_ | refine AL.gskip rfl rfl rfl rfl rfl rfl rfl ?_ | refine AL.gnone rfl rfl rfl rfl rfl ?_ | refine AL.gmay rfl rfl rfl rfl rfl rfl qW61 ?_ | refine AL.gmay2 rfl rfl rfl rfl rfl rfl qW62 ?_
        first | refine AL.gstep rfl rfl rfl rfl rfl rfl rfl qW63 ?_ | refine AL.gskip rfl rfl rfl rfl rfl rfl rfl ?_ | refine AL.gnone rfl rfl rfl rfl rfl ?_ | refine AL.gmay rfl rfl rfl rfl rfl rfl (fun hb => by (try (apply AStepD.uncond 40 rfl (gpf hb))); (try (apply AStepD.uncond 41 rfl (gpf hb))); exact qW63) ?_ | refine AL.gmay2 rfl rfl rfl rfl rfl rfl (fun _ hb => by (try (apply AStepD.uncond 40 rfl (gpf hb))); (try (apply AStepD.uncond 41 rfl (gpf hb))); exact qW63) ?_
        first | refine AL.gstep rfl rfl rfl rfl rfl rfl rfl qW16 ?_ | refine AL.gskip rfl rfl rfl rfl rfl rfl rfl ?_ | refine AL.gnone rfl rfl rfl rfl rfl ?_ | refine AL.gmay rfl rfl rfl rfl rfl rfl qW64 ?_ | refine AL.gmay2 rfl rfl rfl rfl rfl rfl qW65 ?_
        first | refine AL.gstep rfl rfl rfl rfl rfl rfl rfl (by fail) ?_ | refine AL.gskip rfl rfl rfl rfl rfl rfl rfl ?_ | refine AL.gnone rfl rfl rfl rfl rfl ?_ | refine AL.gmay rfl rfl rfl rfl rfl rfl (fun hb => by (try (apply AStepD.uncond 42 rfl (gpf hb))); (try (apply AStepD.uncond 43 rfl (gpf hb))); exact (by fail)) ?_ | refine AL.gmay2 rfl rfl rfl rfl rfl rfl (fun _ hb => by (try (apply AStepD.uncond 42 rfl (gpf hb))); (try (apply AStepD.uncond 43 rfl (gpf hb))); exact (by fail)) ?_
        first | refine AL.gstep rfl rfl rfl rfl rfl rfl rfl (by first | exact AStepD.not rfl rfl | exact AStepD.neg rfl rfl (by first | exact IntWalk.i64_in _ (by omega) | exact IntWalk.i64_in _ (by simp only [Bool.or_eq_true, Bool.and_eq_true, Bool.or_eq_false_iff, Bool.and_eq_false_iff, Bool.not_eq_true', Bool.not_eq_false', decide_eq_true_eq, decide_eq_false_iff_not, Int.not_lt, Int.not_le, beq_iff_eq] at *; omega) | exact rfl)) ?_ | refine AL.gskip rfl rfl rfl rfl rfl rfl rfl ?_ | refine AL.gnone rfl rfl rfl rfl rfl ?_ | refine AL.gmay rfl rfl rfl rfl rfl rfl (fun hb => by (try (apply AStepD.uncond 44 rfl (gpf hb))); exact (by first | exact AStepD.not rfl rfl | exact AStepD.neg rfl rfl (by first | exact IntWalk.i64_in _ (by omega) | exact IntWalk.i64_in _ (by simp only [Bool.or_eq_true, Bool.and_eq_true, Bool.or_eq_false_iff, Bool.and_eq_false_iff, Bool.not_eq_true', Bool.not_eq_false', decide_eq_true_eq, decide_eq_false_iff_not, Int.not_lt, Int.not_le, beq_iff_eq] at *; omega) | exact rfl))) ?_ | refine AL.gmay2 rfl rfl rfl rfl rfl rfl (fun _ hb => by (try (apply AStepD.uncond 44 rfl (gpf hb))); exact (by first | exact AStepD.not rfl rfl | exact AStepD.neg rfl rfl (by first | exact IntWalk.i64_in _ (by omega) | exact IntWalk.i64_in _ (by simp only [Bool.or_eq_true, Bool.and_eq_true, Bool.or_eq_false_iff, Bool.and_eq_false_iff, Bool.not_eq_true', Bool.not_eq_false', decide_eq_true_eq, decide_eq_false_iff_not, Int.not_lt, Int.not_le, beq_iff_eq] at *; omega) | exact rfl))) ?_
        refine AL.step rfl rfl rfl qW224 ?_
        refine AL.nil_then (hK _ _ ?_); clear hK K
        refine AW.cond_true rfl rfl ?_
        refine AW.exit ?_
        refine hK6 _ _ ?_; try clear hK6 K6
        refine AW.region ?_
        refine AL.step rfl rfl rfl qW16 ?_
        refine AL.step rfl rfl rfl (by first | exact AStepD.add rfl rfl rfl (by first | exact IntWalk.i64_in _ (by omega) | exact IntWalk.i64_in _ (by simp only [Bool.or_eq_true, Bool.and_eq_true, Bool.or_eq_false_iff, Bool.and_eq_false_iff, Bool.not_eq_true', Bool.not_eq_false', decide_eq_true_eq, decide_eq_false_iff_not, Int.not_lt, Int.not_le, beq_iff_eq] at *; omega) | exact rfl) | exact AStepD.str_add rfl rfl rfl (by omega)) ?_
        refine AL.step rfl rfl rfl qW15 ?_
        refine AL.nil ?_
        refine ⟨kd + 1, by omega, qW221, by omega, fun w hw hlt2 => ?_, rfl⟩
        rcases Nat.lt_succ_iff_lt_or_eq.1 hlt2 with q | q
        · exact hprev w hw q
        · have := List.find?_eq_none.1 hfk w hw
          simp [q] at this
      | some w =>
        have hw : w ∈ wordsL := List.mem_of_find?_eq_some hfk
        have hwk : w.kind = kd := by
          have := List.find?_some hfk
          simp only [decide_eq_true_eq] at this
          omega
        have hargs := args_le w hw
        have hnp := name_pos w hw
        have hnl := name_len w hw
        rw [word_some hfk]
        refine AW.seq_region (fun K hK => ?_)
        refine AL.step rfl rfl rfl qW16 ?_
        refine AL.step rfl rfl rfl (by exact AStepD.bool (AStepD.str_eql rfl rfl rfl) (c := false) (by rw [str_list]; exact decide_eq_false hnp)) ?_
        refine AL.step rfl rfl rfl qW16 ?_
        first | refine AL.gstep rfl rfl rfl rfl rfl rfl rfl qW16 ?_ | refine AL.gskip rfl rfl rfl rfl rfl rfl rfl ?_ | refine AL.gnone rfl rfl rfl rfl rfl ?_ | refine AL.gmay rfl rfl rfl rfl rfl rfl qW32 ?_ | refine AL.gmay2 rfl rfl rfl rfl rfl rfl qW33 ?_
        first | refine AL.gstep rfl rfl rfl rfl rfl rfl rfl qW16 ?_ | refine AL.gskip rfl rfl rfl rfl rfl rfl rfl ?_ | refine AL.gnone rfl rfl rfl rfl rfl ?_ | refine AL.gmay rfl rfl rfl rfl rfl rfl qW61 ?_ | refine AL.gmay2 rfl rfl rfl rfl rfl rfl qW62 ?_
        first | refine AL.gstep rfl rfl rfl rfl rfl rfl rfl (by exact AStepD.val (strA_to (n := e) tok rfl rfl rfl rfl rfl he) (y := strA x) (by rw [hx])) ?_ | refine AL.gskip rfl rfl rfl rfl rfl rfl rfl ?_ | refine AL.gnone rfl rfl rfl rfl rfl ?_ | refine AL.gmay rfl rfl rfl rfl rfl rfl (fun hb => by (try (apply AStepD.uncond 40 rfl (gpf hb))); (try (apply AStepD.uncond 41 rfl (gpf hb))); exact (by exact AStepD.val (strA_to (n := e) tok rfl rfl rfl rfl rfl he) (y := strA x) (by rw [hx]))) ?_ | refine AL.gmay2 rfl rfl rfl rfl rfl rfl (fun _ hb => by (try (apply AStepD.uncond 40 rfl (gpf hb))); (try (apply AStepD.uncond 41 rfl (gpf hb))); exact (by exact AStepD.val (strA_to (n := e) tok rfl rfl rfl rfl rfl he) (y := strA x) (by rw [hx]))) ?_
        first | refine AL.gstep rfl rfl rfl rfl rfl rfl rfl qW16 ?_ | refine AL.gskip rfl rfl rfl rfl rfl rfl rfl ?_ | refine AL.gnone rfl rfl rfl rfl rfl ?_ | refine AL.gmay rfl rfl rfl rfl rfl rfl qW64 ?_ | refine AL.gmay2 rfl rfl rfl rfl rfl rfl qW65 ?_
        first | refine AL.gstep rfl rfl rfl rfl rfl rfl rfl (by exact AStepD.callf rfl en22 rfl (alike_calls _ x w.name hxl)) ?_ | refine AL.gskip rfl rfl rfl rfl rfl rfl rfl ?_ | refine AL.gnone rfl rfl rfl rfl rfl ?_ | refine AL.gmay rfl rfl rfl rfl rfl rfl (fun hb => by (try (apply AStepD.uncond 42 rfl (gpf hb))); (try (apply AStepD.uncond 43 rfl (gpf hb))); exact (by exact AStepD.callf rfl en22 rfl (alike_calls _ x w.name hxl))) ?_ | refine AL.gmay2 rfl rfl rfl rfl rfl rfl (fun _ hb => by (try (apply AStepD.uncond 42 rfl (gpf hb))); (try (apply AStepD.uncond 43 rfl (gpf hb))); exact (by exact AStepD.callf rfl en22 rfl (alike_calls _ x w.name hxl))) ?_
        first | refine AL.gstep rfl rfl rfl rfl rfl rfl rfl (by first | exact AStepD.not rfl rfl | exact AStepD.neg rfl rfl (by first | exact IntWalk.i64_in _ (by omega) | exact IntWalk.i64_in _ (by simp only [Bool.or_eq_true, Bool.and_eq_true, Bool.or_eq_false_iff, Bool.and_eq_false_iff, Bool.not_eq_true', Bool.not_eq_false', decide_eq_true_eq, decide_eq_false_iff_not, Int.not_lt, Int.not_le, beq_iff_eq] at *; omega) | exact rfl)) ?_ | refine AL.gskip rfl rfl rfl rfl rfl rfl rfl ?_ | refine AL.gnone rfl rfl rfl rfl rfl ?_ | refine AL.gmay rfl rfl rfl rfl rfl rfl (fun hb => by (try (apply AStepD.uncond 44 rfl (gpf hb))); exact (by first | exact AStepD.not rfl rfl | exact AStepD.neg rfl rfl (by first | exact IntWalk.i64_in _ (by omega) | exact IntWalk.i64_in _ (by simp only [Bool.or_eq_true, Bool.and_eq_true, Bool.or_eq_false_iff, Bool.and_eq_false_iff, Bool.not_eq_true', Bool.not_eq_false', decide_eq_true_eq, decide_eq_false_iff_not, Int.not_lt, Int.not_le, beq_iff_eq] at *; omega) | exact rfl))) ?_ | refine AL.gmay2 rfl rfl rfl rfl rfl rfl (fun _ hb => by (try (apply AStepD.uncond 44 rfl (gpf hb))); exact (by first | exact AStepD.not rfl rfl | exact AStepD.neg rfl rfl (by first | exact IntWalk.i64_in _ (by omega) | exact IntWalk.i64_in _ (by simp only [Bool.or_eq_true, Bool.and_eq_true, Bool.or_eq_false_iff, Bool.and_eq_false_iff, Bool.not_eq_true', Bool.not_eq_false', decide_eq_true_eq, decide_eq_false_iff_not, Int.not_lt, Int.not_le, beq_iff_eq] at *; omega) | exact rfl))) ?_
        refine AL.step rfl rfl rfl qW224 ?_
        refine AL.nil_then (hK _ _ ?_); clear hK K
        refine AW.cond _ rfl (fun hc => ?_) (fun hc => ?_)
        · have hne : bigL x ≠ w.name := by
            intro q
            rw [q] at hc
            simp at hc
          refine AW.exit ?_
          refine hK6 _ _ ?_; try clear hK6 K6
          refine AW.region ?_
          refine AL.step rfl rfl rfl qW16 ?_
          refine AL.step rfl rfl rfl (by first | exact AStepD.add rfl rfl rfl (by first | exact IntWalk.i64_in _ (by omega) | exact IntWalk.i64_in _ (by simp only [Bool.or_eq_true, Bool.and_eq_true, Bool.or_eq_false_iff, Bool.and_eq_false_iff, Bool.not_eq_true', Bool.not_eq_false', decide_eq_true_eq, decide_eq_false_iff_not, Int.not_lt, Int.not_le, beq_iff_eq] at *; omega) | exact rfl) | exact AStepD.str_add rfl rfl rfl (by omega)) ?_
          refine AL.step rfl rfl rfl qW15 ?_
          refine AL.nil ?_
          refine ⟨kd + 1, by omega, qW221, by omega, fun v hv hlt2 => ?_, rfl⟩
          rcases Nat.lt_succ_iff_lt_or_eq.1 hlt2 with q | q
          · exact hprev v hv q
          · have hvf : wordsL.find? (fun u => decide ((u.kind : Int) = (kd : Nat))) = some v := by
              rw [← q]
              exact find_kind v hv
            rw [hfk] at hvf
            cases hvf
            exact fun q2 => hne q2.symm
        have hname : w.name = bigL x := by
          simp at hc
          exact hc.symm
        rw [← hname, find_name w hw] at hO
        simp only at hO
        rw [hwk] at hO
        clear hc hprev hfk hname hnp hnl
        refine AW.skip ?_
        refine hK7 _ _ ?_; try clear hK7 K7
        refine AW.seq_region (fun K hK => ?_)
        refine AL.step rfl rfl rfl qW16 ?_
        refine AL.step rfl rfl rfl (by exact kind_build31 rfl rfl) ?_
        refine AL.step rfl rfl rfl qW41 ?_
        refine AL.step0 rfl rfl (by first | exact AStepD.store_row (k := 4) tok rfl rfl qW222 rfl rfl rfl (by first | with_reducible assumption | exact row_len _ | exact row_zero) (by first | with_reducible assumption | exact row_len _ | exact row_zero) | exact AStepD.store' tok rfl rfl qW222 qW11 qW211 qW14 rfl qW11 rfl qW212 qW213) ?_
        refine AL.nil_then (hK _ _ ?_); clear hK K
        refine AW.seq_k (fun K8 hK8 => ?_)
        have hmore : w.args ≠ 0 → e < l.length → K8 = K8 := fun _ _ => rfl
        by_cases ha0 : w.args = 0
        · rw [ha0]
          by_cases hel : e = l.length
          · have hO2 : cmdO l = (⟨kd, 0, 0#64, []⟩, 0) := by rw [hO, ha0, decide_eq_false (by omega)]; rfl
            refine AW.seq_region (fun K hK => ?_)
            refine AL.step rfl rfl rfl qW16 ?_
            refine AL.step rfl rfl rfl (by exact AStepD.bool (AStepD.eql rfl rfl rfl) (c := true) (by simp)) ?_
            refine AL.step rfl rfl rfl qW16 ?_
            first | refine AL.gstep rfl rfl rfl rfl rfl rfl rfl qW16 ?_ | refine AL.gskip rfl rfl rfl rfl rfl rfl rfl ?_ | refine AL.gnone rfl rfl rfl rfl rfl ?_ | refine AL.gmay rfl rfl rfl rfl rfl rfl qW61 ?_ | refine AL.gmay2 rfl rfl rfl rfl rfl rfl qW62 ?_
            first | refine AL.gstep rfl rfl rfl rfl rfl rfl rfl qW16 ?_ | refine AL.gskip rfl rfl rfl rfl rfl rfl rfl ?_ | refine AL.gnone rfl rfl rfl rfl rfl ?_ | refine AL.gmay rfl rfl rfl rfl rfl rfl qW32 ?_ | refine AL.gmay2 rfl rfl rfl rfl rfl rfl qW33 ?_
            first | refine AL.gstep rfl rfl rfl rfl rfl rfl rfl (by exact strA_len tok rfl rfl rfl rfl) ?_ | refine AL.gskip rfl rfl rfl rfl rfl rfl rfl ?_ | refine AL.gnone rfl rfl rfl rfl rfl ?_ | refine AL.gmay rfl rfl rfl rfl rfl rfl (fun hb => by (try (apply AStepD.uncond 53 rfl (gpf hb))); exact (by exact strA_len tok rfl rfl rfl rfl)) ?_ | refine AL.gmay2 rfl rfl rfl rfl rfl rfl (fun _ hb => by (try (apply AStepD.uncond 53 rfl (gpf hb))); exact (by exact strA_len tok rfl rfl rfl rfl)) ?_
            first | refine AL.gstep rfl rfl rfl rfl rfl rfl rfl (by exact AStepD.bool (AStepD.eql rfl rfl rfl) (c := true) (decide_eq_true (by omega))) ?_ | refine AL.gskip rfl rfl rfl rfl rfl rfl rfl ?_ | refine AL.gnone rfl rfl rfl rfl rfl ?_ | refine AL.gmay rfl rfl rfl rfl rfl rfl (fun hb => by (try (apply AStepD.uncond 52 rfl (gpf hb))); (try (apply AStepD.uncond 54 rfl (gpf hb))); exact (by exact AStepD.bool (AStepD.eql rfl rfl rfl) (c := true) (decide_eq_true (by omega)))) ?_ | refine AL.gmay2 rfl rfl rfl rfl rfl rfl (fun _ hb => by (try (apply AStepD.uncond 52 rfl (gpf hb))); (try (apply AStepD.uncond 54 rfl (gpf hb))); exact (by exact AStepD.bool (AStepD.eql rfl rfl rfl) (c := true) (decide_eq_true (by omega)))) ?_
            refine AL.step rfl rfl rfl qW224 ?_
            refine AL.nil_then (hK _ _ ?_); clear hK K
            refine AW.cond_true rfl rfl ?_
            refine AW.seq_region (fun K hK => ?_)
            refine AL.step rfl rfl rfl (by first | exact AStepD.load_row tok rfl rfl rfl qW222 rfl (show _ = 4 from rfl) (by first | with_reducible assumption | exact row_len _ | exact row_zero) | exact AStepD.load_cel_ip tok rfl rfl rfl rfl (show _ = 4 from rfl) rfl | exact AStepD.load_agg tok rfl rfl rfl qW222 rfl (show _ = 4 from rfl) qW212 qW214 | exact AStepD.load_agg_ip tok rfl rfl rfl rfl (show _ = 4 from rfl) qW212 qW214) ?_
            refine AL.step0 rfl rfl (by first | exact AStepD.store_row (k := 4) tok rfl rfl qW222 rfl rfl rfl (by first | with_reducible assumption | exact row_len _ | exact row_zero) (by first | with_reducible assumption | exact row_len _ | exact row_zero) | exact AStepD.store' tok rfl rfl qW222 qW11 qW211 qW14 rfl qW11 rfl qW212 qW213) ?_
            refine AL.step rfl rfl rfl qW15 ?_
            refine AL.nil_then (hK _ _ ?_); clear hK K
            refine AW.ret (RetQ.mk (.inr rfl) qW43 ⟨?_, qW46⟩)
            rw [hO2]; rfl
          · have hO2 : cmdO l = (zL, 62) := by rw [hO, ha0, decide_eq_true (by omega)]; rfl
            refine AW.seq_region (fun K hK => ?_)
            refine AL.step rfl rfl rfl qW16 ?_
            refine AL.step rfl rfl rfl (by exact AStepD.bool (AStepD.eql rfl rfl rfl) (c := true) (by simp)) ?_
            refine AL.step rfl rfl rfl qW16 ?_
            first | refine AL.gstep rfl rfl rfl rfl rfl rfl rfl qW16 ?_ | refine AL.gskip rfl rfl rfl rfl rfl rfl rfl ?_ | refine AL.gnone rfl rfl rfl rfl rfl ?_ | refine AL.gmay rfl rfl rfl rfl rfl rfl qW61 ?_ | refine AL.gmay2 rfl rfl rfl rfl rfl rfl qW62 ?_
            first | refine AL.gstep rfl rfl rfl rfl rfl rfl rfl qW16 ?_ | refine AL.gskip rfl rfl rfl rfl rfl rfl rfl ?_ | refine AL.gnone rfl rfl rfl rfl rfl ?_ | refine AL.gmay rfl rfl rfl rfl rfl rfl qW32 ?_ | refine AL.gmay2 rfl rfl rfl rfl rfl rfl qW33 ?_
            first | refine AL.gstep rfl rfl rfl rfl rfl rfl rfl (by exact strA_len tok rfl rfl rfl rfl) ?_ | refine AL.gskip rfl rfl rfl rfl rfl rfl rfl ?_ | refine AL.gnone rfl rfl rfl rfl rfl ?_ | refine AL.gmay rfl rfl rfl rfl rfl rfl (fun hb => by (try (apply AStepD.uncond 53 rfl (gpf hb))); exact (by exact strA_len tok rfl rfl rfl rfl)) ?_ | refine AL.gmay2 rfl rfl rfl rfl rfl rfl (fun _ hb => by (try (apply AStepD.uncond 53 rfl (gpf hb))); exact (by exact strA_len tok rfl rfl rfl rfl)) ?_
            first | refine AL.gstep rfl rfl rfl rfl rfl rfl rfl (by exact AStepD.bool (AStepD.eql rfl rfl rfl) (c := false) (decide_eq_false (by omega))) ?_ | refine AL.gskip rfl rfl rfl rfl rfl rfl rfl ?_ | refine AL.gnone rfl rfl rfl rfl rfl ?_ | refine AL.gmay rfl rfl rfl rfl rfl rfl (fun hb => by (try (apply AStepD.uncond 52 rfl (gpf hb))); (try (apply AStepD.uncond 54 rfl (gpf hb))); exact (by exact AStepD.bool (AStepD.eql rfl rfl rfl) (c := false) (decide_eq_false (by omega)))) ?_ | refine AL.gmay2 rfl rfl rfl rfl rfl rfl (fun _ hb => by (try (apply AStepD.uncond 52 rfl (gpf hb))); (try (apply AStepD.uncond 54 rfl (gpf hb))); exact (by exact AStepD.bool (AStepD.eql rfl rfl rfl) (c := false) (decide_eq_false (by omega)))) ?_
            refine AL.step rfl rfl rfl qW224 ?_
            refine AL.nil_then (hK _ _ ?_); clear hK K
            refine AW.cond_false rfl rfl (AW.skip ?_)
            refine hK8 _ _ ?_; try clear hK8 K8
            refine AW.seq_k (fun K9 hK9 => ?_)
            refine AW.seq_region (fun K hK => ?_)
            refine AL.step rfl rfl rfl qW16 ?_
            refine AL.step rfl rfl rfl (by exact AStepD.bool (AStepD.eql rfl rfl rfl) (c := true) (by simp)) ?_
            refine AL.step rfl rfl rfl qW16 ?_
            first | refine AL.gstep rfl rfl rfl rfl rfl rfl rfl qW16 ?_ | refine AL.gskip rfl rfl rfl rfl rfl rfl rfl ?_ | refine AL.gnone rfl rfl rfl rfl rfl ?_ | refine AL.gmay rfl rfl rfl rfl rfl rfl qW61 ?_ | refine AL.gmay2 rfl rfl rfl rfl rfl rfl qW62 ?_
            first | refine AL.gstep rfl rfl rfl rfl rfl rfl rfl qW16 ?_ | refine AL.gskip rfl rfl rfl rfl rfl rfl rfl ?_ | refine AL.gnone rfl rfl rfl rfl rfl ?_ | refine AL.gmay rfl rfl rfl rfl rfl rfl qW32 ?_ | refine AL.gmay2 rfl rfl rfl rfl rfl rfl qW33 ?_
            first | refine AL.gstep rfl rfl rfl rfl rfl rfl rfl qW220 ?_ | refine AL.gskip rfl rfl rfl rfl rfl rfl rfl ?_ | refine AL.gnone rfl rfl rfl rfl rfl ?_ | refine AL.gmay rfl rfl rfl rfl rfl rfl (fun hb => by (try (apply AStepD.uncond 62 rfl (gpf hb))); exact qW220) ?_ | refine AL.gmay2 rfl rfl rfl rfl rfl rfl (fun _ hb => by (try (apply AStepD.uncond 62 rfl (gpf hb))); exact qW220) ?_
            first | refine AL.gstep rfl rfl rfl rfl rfl rfl rfl qW218 ?_ | refine AL.gskip rfl rfl rfl rfl rfl rfl rfl ?_ | refine AL.gnone rfl rfl rfl rfl rfl ?_ | refine AL.gmay rfl rfl rfl rfl rfl rfl (fun hb => by (try (apply AStepD.uncond 61 rfl (gpf hb))); (try (apply AStepD.uncond 63 rfl (gpf hb))); exact qW218) ?_ | refine AL.gmay2 rfl rfl rfl rfl rfl rfl (fun _ hb => by (try (apply AStepD.uncond 61 rfl (gpf hb))); (try (apply AStepD.uncond 63 rfl (gpf hb))); exact qW218) ?_
            refine AL.step rfl rfl rfl qW224 ?_
            refine AL.nil_then (hK _ _ ?_); clear hK K
            refine AW.cond_true rfl rfl ?_
            refine AW.seq_region (fun K hK => ?_)
            refine AL.step rfl rfl rfl qW42 ?_
            refine AL.step0 rfl rfl (by first | exact AStepD.store_row (k := 4) tok rfl rfl qW222 rfl rfl rfl (by first | with_reducible assumption | exact row_len _ | exact row_zero) (by first | with_reducible assumption | exact row_len _ | exact row_zero) | exact AStepD.store' tok rfl rfl qW222 qW11 qW211 qW14 rfl qW11 rfl qW212 qW213) ?_
            refine AL.step rfl rfl rfl qW15 ?_
            refine AL.nil_then (hK _ _ ?_); clear hK K
            refine AW.ret (RetQ.mk (.inr rfl) qW43 ⟨?_, qW46⟩)
            rw [hO2]; rfl
        refine AW.seq_region (fun K hK => ?_)
        refine AL.step rfl rfl rfl qW16 ?_
        refine AL.step rfl rfl rfl (by exact AStepD.bool (AStepD.eql rfl rfl rfl) (c := false) (decide_eq_false (by omega))) ?_
        refine AL.step rfl rfl rfl qW16 ?_
        first | refine AL.gstep rfl rfl rfl rfl rfl rfl rfl qW16 ?_ | refine AL.gskip rfl rfl rfl rfl rfl rfl rfl ?_ | refine AL.gnone rfl rfl rfl rfl rfl ?_ | refine AL.gmay rfl rfl rfl rfl rfl rfl qW61 ?_ | refine AL.gmay2 rfl rfl rfl rfl rfl rfl qW62 ?_
        first | refine AL.gstep rfl rfl rfl rfl rfl rfl rfl qW16 ?_ | refine AL.gskip rfl rfl rfl rfl rfl rfl rfl ?_ | refine AL.gnone rfl rfl rfl rfl rfl ?_ | refine AL.gmay rfl rfl rfl rfl rfl rfl qW32 ?_ | refine AL.gmay2 rfl rfl rfl rfl rfl rfl qW33 ?_
        first | refine AL.gstep rfl rfl rfl rfl rfl rfl rfl qW220 ?_ | refine AL.gskip rfl rfl rfl rfl rfl rfl rfl ?_ | refine AL.gnone rfl rfl rfl rfl rfl ?_ | refine AL.gmay rfl rfl rfl rfl rfl rfl (fun hb => by (try (apply AStepD.uncond 53 rfl (gpf hb))); exact qW220) ?_ | refine AL.gmay2 rfl rfl rfl rfl rfl rfl (fun _ hb => by (try (apply AStepD.uncond 53 rfl (gpf hb))); exact qW220) ?_
        first | refine AL.gstep rfl rfl rfl rfl rfl rfl rfl qW218 ?_ | refine AL.gskip rfl rfl rfl rfl rfl rfl rfl ?_ | refine AL.gnone rfl rfl rfl rfl rfl ?_ | refine AL.gmay rfl rfl rfl rfl rfl rfl (fun hb => by (try (apply AStepD.uncond 52 rfl (gpf hb))); (try (apply AStepD.uncond 54 rfl (gpf hb))); exact qW218) ?_ | refine AL.gmay2 rfl rfl rfl rfl rfl rfl (fun _ hb => by (try (apply AStepD.uncond 52 rfl (gpf hb))); (try (apply AStepD.uncond 54 rfl (gpf hb))); exact qW218) ?_
        refine AL.step rfl rfl rfl qW224 ?_
        refine AL.nil_then (hK _ _ ?_); clear hK K
        refine AW.cond_false rfl rfl (AW.skip ?_)
        refine hK8 _ _ ?_; try clear hK8 K8
        refine AW.seq_k (fun K9 hK9 => ?_)
        by_cases hel : e = l.length
        · have hO2 : cmdO l = (zL, 62) := by
            rw [hO, decide_eq_false (by omega)]
            rcases hargs with ha | ha | ha | ha
            · exact absurd ha ha0
            · rw [ha]; rfl
            · rw [ha]; rfl
            · rw [ha]; rfl
          refine AW.seq_region (fun K hK => ?_)
          refine AL.step rfl rfl rfl qW16 ?_
          refine AL.step rfl rfl rfl (by exact AStepD.bool (AStepD.eql rfl rfl rfl) (c := false) (decide_eq_false (by omega))) ?_
          refine AL.step rfl rfl rfl qW16 ?_
          first | refine AL.gstep rfl rfl rfl rfl rfl rfl rfl qW16 ?_ | refine AL.gskip rfl rfl rfl rfl rfl rfl rfl ?_ | refine AL.gnone rfl rfl rfl rfl rfl ?_ | refine AL.gmay rfl rfl rfl rfl rfl rfl qW61 ?_ | refine AL.gmay2 rfl rfl rfl rfl rfl rfl qW62 ?_
          first | refine AL.gstep rfl rfl rfl rfl rfl rfl rfl qW16 ?_ | refine AL.gskip rfl rfl rfl rfl rfl rfl rfl ?_ | refine AL.gnone rfl rfl rfl rfl rfl ?_ | refine AL.gmay rfl rfl rfl rfl rfl rfl qW32 ?_ | refine AL.gmay2 rfl rfl rfl rfl rfl rfl qW33 ?_
          first | refine AL.gstep rfl rfl rfl rfl rfl rfl rfl (by exact strA_len tok rfl rfl rfl rfl) ?_ | refine AL.gskip rfl rfl rfl rfl rfl rfl rfl ?_ | refine AL.gnone rfl rfl rfl rfl rfl ?_ | refine AL.gmay rfl rfl rfl rfl rfl rfl (fun hb => by (try (apply AStepD.uncond 62 rfl (gpf hb))); exact (by exact strA_len tok rfl rfl rfl rfl)) ?_ | refine AL.gmay2 rfl rfl rfl rfl rfl rfl (fun _ hb => by (try (apply AStepD.uncond 62 rfl (gpf hb))); exact (by exact strA_len tok rfl rfl rfl rfl)) ?_
          first | refine AL.gstep rfl rfl rfl rfl rfl rfl rfl (by exact AStepD.bool (AStepD.eql rfl rfl rfl) (c := true) (decide_eq_true (by omega))) ?_ | refine AL.gskip rfl rfl rfl rfl rfl rfl rfl ?_ | refine AL.gnone rfl rfl rfl rfl rfl ?_ | refine AL.gmay rfl rfl rfl rfl rfl rfl (fun hb => by (try (apply AStepD.uncond 61 rfl (gpf hb))); (try (apply AStepD.uncond 63 rfl (gpf hb))); exact (by exact AStepD.bool (AStepD.eql rfl rfl rfl) (c := true) (decide_eq_true (by omega)))) ?_ | refine AL.gmay2 rfl rfl rfl rfl rfl rfl (fun _ hb => by (try (apply AStepD.uncond 61 rfl (gpf hb))); (try (apply AStepD.uncond 63 rfl (gpf hb))); exact (by exact AStepD.bool (AStepD.eql rfl rfl rfl) (c := true) (decide_eq_true (by omega)))) ?_
          refine AL.step rfl rfl rfl qW224 ?_
          refine AL.nil_then (hK _ _ ?_); clear hK K
          refine AW.cond_true rfl rfl ?_
          refine AW.seq_region (fun K hK => ?_)
          refine AL.step rfl rfl rfl qW42 ?_
          refine AL.step0 rfl rfl (by first | exact AStepD.store_row (k := 4) tok rfl rfl qW222 rfl rfl rfl (by first | with_reducible assumption | exact row_len _ | exact row_zero) (by first | with_reducible assumption | exact row_len _ | exact row_zero) | exact AStepD.store' tok rfl rfl qW222 qW11 qW211 qW14 rfl qW11 rfl qW212 qW213) ?_
          refine AL.step rfl rfl rfl qW15 ?_
          refine AL.nil_then (hK _ _ ?_); clear hK K
          refine AW.ret (RetQ.mk (.inr rfl) qW43 ⟨?_, qW46⟩)
          rw [hO2]; rfl
        have hlt3 : e < l.length := by omega
        rw [decide_eq_true hlt3, if_pos hlt3] at hO
        refine AW.seq_region (fun K hK => ?_)
        refine AL.step rfl rfl rfl qW16 ?_
        refine AL.step rfl rfl rfl (by exact AStepD.bool (AStepD.eql rfl rfl rfl) (c := false) (decide_eq_false (by omega))) ?_
        refine AL.step rfl rfl rfl qW16 ?_
        first | refine AL.gstep rfl rfl rfl rfl rfl rfl rfl qW16 ?_ | refine AL.gskip rfl rfl rfl rfl rfl rfl rfl ?_ | refine AL.gnone rfl rfl rfl rfl rfl ?_ | refine AL.gmay rfl rfl rfl rfl rfl rfl qW61 ?_ | refine AL.gmay2 rfl rfl rfl rfl rfl rfl qW62 ?_
        first | refine AL.gstep rfl rfl rfl rfl rfl rfl rfl qW16 ?_ | refine AL.gskip rfl rfl rfl rfl rfl rfl rfl ?_ | refine AL.gnone rfl rfl rfl rfl rfl ?_ | refine AL.gmay rfl rfl rfl rfl rfl rfl qW32 ?_ | refine AL.gmay2 rfl rfl rfl rfl rfl rfl qW33 ?_
        first | refine AL.gstep rfl rfl rfl rfl rfl rfl rfl (by exact strA_len tok rfl rfl rfl rfl) ?_ | refine AL.gskip rfl rfl rfl rfl rfl rfl rfl ?_ | refine AL.gnone rfl rfl rfl rfl rfl ?_ | refine AL.gmay rfl rfl rfl rfl rfl rfl (fun hb => by (try (apply AStepD.uncond 62 rfl (gpf hb))); exact (by exact strA_len tok rfl rfl rfl rfl)) ?_ | refine AL.gmay2 rfl rfl rfl rfl rfl rfl (fun _ hb => by (try (apply AStepD.uncond 62 rfl (gpf hb))); exact (by exact strA_len tok rfl rfl rfl rfl)) ?_
        first | refine AL.gstep rfl rfl rfl rfl rfl rfl rfl (by exact AStepD.bool (AStepD.eql rfl rfl rfl) (c := false) (decide_eq_false (by omega))) ?_ | refine AL.gskip rfl rfl rfl rfl rfl rfl rfl ?_ | refine AL.gnone rfl rfl rfl rfl rfl ?_ | refine AL.gmay rfl rfl rfl rfl rfl rfl (fun hb => by (try (apply AStepD.uncond 61 rfl (gpf hb))); (try (apply AStepD.uncond 63 rfl (gpf hb))); exact (by exact AStepD.bool (AStepD.eql rfl rfl rfl) (c := false) (decide_eq_false (by omega)))) ?_ | refine AL.gmay2 rfl rfl rfl rfl rfl rfl (fun _ hb => by (try (apply AStepD.uncond 61 rfl (gpf hb))); (try (apply AStepD.uncond 63 rfl (gpf hb))); exact (by exact AStepD.bool (AStepD.eql rfl rfl rfl) (c := false) (decide_eq_false (by omega)))) ?_
        refine AL.step rfl rfl rfl qW224 ?_
        refine AL.nil_then (hK _ _ ?_); clear hK K
        refine AW.cond_false rfl rfl (AW.skip ?_)
        refine hK9 _ _ ?_; try clear hK9 K9
        refine AW.seq_region (fun K hK => ?_)
        refine AL.step rfl rfl rfl qW16 ?_
        refine AL.step rfl rfl rfl qW16 ?_
        refine AL.step rfl rfl rfl (by exact AStepD.add (r := ((e + 1 : Nat) : Int)) rfl rfl rfl (IntWalk.i64_in _ (by omega))) ?_
        refine AL.step rfl rfl rfl (by exact AStepD.val (strA_from (n := e + 1) tok rfl rfl rfl rfl rfl (by omega)) (y := strA z) (by rw [hz])) ?_
        refine AL.step rfl rfl rfl qW15 ?_
        refine AL.nil_then (hK _ _ ?_); clear hK K
        clear hx hz
        refine AW.seq_k (fun K10 hK10 => ?_)
        have hfin : ∀ (q : Ln) T' H', SubT T' [(8, .ptr (H.next + 1) 0), (2, .ptr H.next 0)] → H'.get (H.next + 1) = some (.cells 31 (c q)) → H'.get H.next = some (.cells 31 (c zL)) → Keep H H' → cmdO l = (q, 0) → K10 T' H' := fun q T' H' hT' g1 g0 hk hok => by
          refine hK10 _ _ ?_
          refine AW.sub hT' ?_
          clear hT' hK10 K10 hO
          refine AW.seq_region (fun K hK => ?_)
          refine AL.step rfl rfl rfl (by first | exact AStepD.load_row tok rfl rfl rfl qW222 rfl (show _ = 4 from rfl) (by first | with_reducible assumption | exact row_len _ | exact row_zero) | exact AStepD.load_cel_ip tok rfl rfl rfl rfl (show _ = 4 from rfl) rfl | exact AStepD.load_agg tok rfl rfl rfl qW222 rfl (show _ = 4 from rfl) qW212 qW214 | exact AStepD.load_agg_ip tok rfl rfl rfl rfl (show _ = 4 from rfl) qW212 qW214) ?_
          refine AL.step0 rfl rfl (by first | exact AStepD.store_row (k := 4) tok rfl rfl qW222 rfl rfl rfl (by first | with_reducible assumption | exact row_len _ | exact row_zero) (by first | with_reducible assumption | exact row_len _ | exact row_zero) | exact AStepD.store' tok rfl rfl qW222 qW11 qW211 qW14 rfl qW11 rfl qW212 qW213) ?_
          refine AL.step rfl rfl rfl qW15 ?_
          refine AL.nil_then (hK _ _ ?_); clear hK K
          refine AW.ret (RetQ.mk (.inr rfl) qW43 ⟨?_, qW46⟩)
          rw [hok]; rfl
        refine AW.seq_region (fun K hK => ?_)
        refine AL.step rfl rfl rfl qW16 ?_
        refine AL.nil_then (hK _ _ ?_); clear hK K
        refine AW.block ?_
        have hval := num_same z
        rcases hargs with ha | ha | ha | ha
        · exact absurd ha ha0
        · rw [ha]
          rw [ha, show argsO 1 true z = if (true && !atoiB z && decide (z.length ≤ 15) && decide (Lib.itoa (atoiV z) = z) && decide (0 ≤ atoiV z)) = true then some (atoiV z, 0#64, []) else none from rfl, Bool.true_and, hval.1] at hO
          refine AW.seq_region (fun K hK => ?_)
          refine AL.step rfl rfl rfl (by exact AStepD.bool (AStepD.eql rfl rfl rfl) (c := true) (by simp)) ?_
          refine AL.step rfl rfl rfl qW15 ?_
          refine AL.nil_then (hK _ _ ?_); clear hK K
          refine AW.cond_true rfl rfl ?_
          refine AW.seq_region (fun K hK => ?_)
          refine AL.step rfl rfl rfl qW16 ?_
          refine AL.step rfl rfl rfl (by exact AStepD.callf rfl en23 rfl (numR_calls _ z hzl)) ?_
          refine AL.step rfl rfl rfl qW235 ?_
          refine AL.step0 rfl rfl qW231 ?_
          refine AL.nil_then (hK _ _ ?_); clear hK K
          refine AW.seq_region (fun K hK => ?_)
          refine AL.step rfl rfl rfl qW235 ?_
          refine AL.step rfl rfl rfl qW234 ?_
          refine AL.step rfl rfl rfl qW25 ?_
          refine AL.nil_then (hK _ _ ?_); clear hK K
          refine AW.cond _ rfl (fun hc => ?_) (fun hc => ?_)
          · have hneg : numR z < 0 := of_decide_eq_true hc
            have hO2 : cmdO l = (zL, 62) := by rw [hO, decide_eq_false (by omega)]; rfl
            refine AW.seq_region (fun K hK => ?_)
            refine AL.step rfl rfl rfl qW42 ?_
            refine AL.step0 rfl rfl (by first | exact AStepD.store_row (k := 4) tok rfl rfl qW222 rfl rfl rfl (by first | with_reducible assumption | exact row_len _ | exact row_zero) (by first | with_reducible assumption | exact row_len _ | exact row_zero) | exact AStepD.store' tok rfl rfl qW222 qW11 qW211 qW14 rfl qW11 rfl qW212 qW213) ?_
            refine AL.step rfl rfl rfl qW15 ?_
            refine AL.nil_then (hK _ _ ?_); clear hK K
            refine AW.ret (RetQ.mk (.inr rfl) qW43 ⟨?_, qW46⟩)
            rw [hO2]; rfl
          · have hpos : 0 ≤ numR z := by
              have := of_decide_eq_false hc
              omega
            have hO2 : cmdO l = (⟨kd, numR z, 0#64, []⟩, 0) := by rw [hO, decide_eq_true hpos, hval.2 hpos]; rfl
            clear hc hval
            refine AW.skip ?_
            exact hfin (⟨kd, numR z, 0#64, []⟩ : Ln) _ _ qW221 qW222 qW222 qW12 hO2
        · rw [ha]
          rw [ha, show argsO 2 true z = if (true && (parseO z).isSome && decide (parseS z ≠ 0#64)) = true then some (0, parseS z, []) else none from rfl, Bool.true_and] at hO
          clear hval
          refine AW.seq_region (fun K hK => ?_)
          refine AL.step rfl rfl rfl (by exact AStepD.bool (AStepD.eql rfl rfl rfl) (c := false) (by simp)) ?_
          refine AL.step rfl rfl rfl qW15 ?_
          refine AL.nil_then (hK _ _ ?_); clear hK K
          refine AW.cond_false rfl rfl ?_
          refine AW.seq_region (fun K hK => ?_)
          refine AL.step rfl rfl rfl (by exact AStepD.bool (AStepD.eql rfl rfl rfl) (c := true) (by simp)) ?_
          refine AL.step rfl rfl rfl qW15 ?_
          refine AL.nil_then (hK _ _ ?_); clear hK K
          refine AW.cond_true rfl rfl ?_
          refine AW.seq_region (fun K hK => ?_)
          refine AL.step rfl rfl rfl qW16 ?_
          refine AL.step rfl rfl rfl (by exact AStepD.callf rfl en24 rfl (refparse_calls _ z hzl)) ?_
          refine AL.step rfl rfl rfl qW16 ?_
          refine AL.step rfl rfl rfl qW44 ?_
          refine AL.step rfl rfl rfl qW44 ?_
          refine AL.step rfl rfl rfl qW41 ?_
          refine AL.step0 rfl rfl (by first | exact AStepD.store_row (k := 64) tok rfl rfl qW222 rfl rfl rfl (by first | with_reducible assumption | exact row_len _ | exact row_zero) (by first | with_reducible assumption | exact row_len _ | exact row_zero) | exact AStepD.store' tok rfl rfl qW222 qW11 qW211 qW14 rfl qW11 rfl qW212 qW213) ?_
          refine AL.step rfl rfl rfl qW15 ?_
          refine AL.nil_then (hK _ _ ?_); clear hK K
          refine AW.seq_region (fun K hK => ?_)
          refine AL.step rfl rfl rfl (by first | exact AStepD.load_row tok rfl rfl rfl qW222 rfl (show _ = 64 from rfl) (by first | with_reducible assumption | exact row_len _ | exact row_zero) | exact AStepD.load_cel_ip tok rfl rfl rfl rfl (show _ = 64 from rfl) rfl | exact AStepD.load_agg tok rfl rfl rfl qW222 rfl (show _ = 64 from rfl) qW212 qW214 | exact AStepD.load_agg_ip tok rfl rfl rfl rfl (show _ = 64 from rfl) qW212 qW214) ?_
          refine AL.step rfl rfl rfl (by exact AStepD.callf rfl en25 rfl (set_calls _ (parseS z))) ?_
          refine AL.step rfl rfl rfl qW413 ?_
          refine AL.step0 rfl rfl qW231 ?_
          refine AL.nil_then (hK _ _ ?_); clear hK K
          refine AW.seq_region (fun K hK => ?_)
          refine AL.step rfl rfl rfl qW16 ?_
          refine AL.step rfl rfl rfl (by first | exact AStepD.not rfl rfl | exact AStepD.neg rfl rfl (by first | exact IntWalk.i64_in _ (by omega) | exact IntWalk.i64_in _ (by simp only [Bool.or_eq_true, Bool.and_eq_true, Bool.or_eq_false_iff, Bool.and_eq_false_iff, Bool.not_eq_true', Bool.not_eq_false', decide_eq_true_eq, decide_eq_false_iff_not, Int.not_lt, Int.not_le, beq_iff_eq] at *; omega) | exact rfl)) ?_
          refine AL.step rfl rfl rfl qW16 ?_
          first | refine AL.gstep rfl rfl rfl rfl rfl rfl rfl qW413 ?_ | refine AL.gskip rfl rfl rfl rfl rfl rfl rfl ?_ | refine AL.gnone rfl rfl rfl rfl rfl ?_ | refine AL.gmay rfl rfl rfl rfl rfl rfl (fun hb => by (try (apply AStepD.uncond 8 rfl (gpf hb))); exact qW413) ?_ | refine AL.gmay2 rfl rfl rfl rfl rfl rfl (fun _ hb => by (try (apply AStepD.uncond 8 rfl (gpf hb))); exact qW413) ?_
          first | refine AL.gstep rfl rfl rfl rfl rfl rfl rfl qW234 ?_ | refine AL.gskip rfl rfl rfl rfl rfl rfl rfl ?_ | refine AL.gnone rfl rfl rfl rfl rfl ?_ | refine AL.gmay rfl rfl rfl rfl rfl rfl (fun hb => by (try (apply AStepD.uncond 94 rfl (gpf hb))); exact qW234) ?_ | refine AL.gmay2 rfl rfl rfl rfl rfl rfl (fun _ hb => by (try (apply AStepD.uncond 94 rfl (gpf hb))); exact qW234) ?_
          first | refine AL.gstep rfl rfl rfl rfl rfl rfl rfl (by exact AStepD.bool (AStepD.eql (b := ((0#64).toNat : Nat)) rfl rfl rfl) (bv_eq _ _)) ?_ | refine AL.gskip rfl rfl rfl rfl rfl rfl rfl ?_ | refine AL.gnone rfl rfl rfl rfl rfl ?_ | refine AL.gmay rfl rfl rfl rfl rfl rfl (fun hb => by (try (apply AStepD.uncond 95 rfl (gpf hb))); exact (by exact AStepD.bool (AStepD.eql (b := ((0#64).toNat : Nat)) rfl rfl rfl) (bv_eq _ _))) ?_ | refine AL.gmay2 rfl rfl rfl rfl rfl rfl (fun _ hb => by (try (apply AStepD.uncond 95 rfl (gpf hb))); exact (by exact AStepD.bool (AStepD.eql (b := ((0#64).toNat : Nat)) rfl rfl rfl) (bv_eq _ _))) ?_
          refine AL.step rfl rfl rfl qW224 ?_
          refine AL.nil_then (hK _ _ ?_); clear hK K
          refine AW.cond _ rfl (fun hc => ?_) (fun hc => ?_)
          · have hO2 : cmdO l = (zL, 62) := by
              rw [hO, if_neg]
              simp only [Bool.or_eq_true, Bool.not_eq_true', decide_eq_true_eq] at hc
              simp only [Bool.and_eq_true, decide_eq_true_eq]
              rintro ⟨q1, q2⟩
              rcases hc with hc | hc
              · rw [q1] at hc; cases hc
              · exact q2 hc
            clear hc
            refine AW.seq_region (fun K hK => ?_)
            refine AL.step rfl rfl rfl qW42 ?_
            refine AL.step0 rfl rfl (by first | exact AStepD.store_row (k := 4) tok rfl rfl qW222 rfl rfl rfl (by first | with_reducible assumption | exact row_len _ | exact row_zero) (by first | with_reducible assumption | exact row_len _ | exact row_zero) | exact AStepD.store' tok rfl rfl qW222 qW11 qW211 qW14 rfl qW11 rfl qW212 qW213) ?_
            refine AL.step rfl rfl rfl qW15 ?_
            refine AL.nil_then (hK _ _ ?_); clear hK K
            refine AW.ret (RetQ.mk (.inr rfl) qW43 ⟨?_, qW46⟩)
            rw [hO2]; rfl
          · have hO2 : cmdO l = (⟨kd, 0, parseS z, []⟩, 0) := by
              rw [hO, if_pos]
              simp only [Bool.or_eq_false_iff, Bool.not_eq_false', decide_eq_false_iff_not] at hc
              simp only [Bool.and_eq_true, decide_eq_true_eq]
              exact hc
            clear hc
            refine AW.skip ?_
            exact hfin (⟨kd, 0, parseS z, []⟩ : Ln) _ _ qW221 qW222 qW222 qW12 hO2
        · have hO2 : cmdO l = (⟨kd, 0, 0#64, z⟩, 0) := by rw [hO, ha]; rfl
          rw [ha]
          clear hval
          refine AW.seq_region (fun K hK => ?_)
          refine AL.step rfl rfl rfl (by exact AStepD.bool (AStepD.eql rfl rfl rfl) (c := false) (by simp)) ?_
          refine AL.step rfl rfl rfl qW15 ?_
          refine AL.nil_then (hK _ _ ?_); clear hK K
          refine AW.cond_false rfl rfl ?_
          refine AW.seq_region (fun K hK => ?_)
          refine AL.step rfl rfl rfl (by exact AStepD.bool (AStepD.eql rfl rfl rfl) (c := false) (by simp)) ?_
          refine AL.step rfl rfl rfl qW15 ?_
          refine AL.nil_then (hK _ _ ?_); clear hK K
          refine AW.cond_false rfl rfl ?_
          refine AW.seq_region (fun K hK => ?_)
          refine AL.step rfl rfl rfl (by exact AStepD.bool (AStepD.eql rfl rfl rfl) (c := true) (by simp)) ?_
          refine AL.step rfl rfl rfl qW15 ?_
          refine AL.nil_then (hK _ _ ?_); clear hK K
          refine AW.cond_true rfl rfl ?_
          refine AW.region ?_
          refine AL.step rfl rfl rfl qW16 ?_
          refine AL.step rfl rfl rfl qW230 ?_
          refine AL.step0 rfl rfl qW231 ?_
          refine AL.nil ?_
          exact hfin (⟨kd, 0, 0#64, z⟩ : Ln) _ _ qW221 qW222 qW222 qW12 hO2
    · have hk17 : kd = 17 := by
        have := of_decide_eq_false hc
        omega
      have hO2 : cmdO l = (zL, 61) := by
        have hnone : wordsL.find? (fun w => decide (w.name = bigL x)) = none := List.find?_eq_none.2 fun w hw => by
          have h1 := kind_le w hw
          simpa using hprev w hw (by omega)
        rw [hO, hnone]
      clear hO
      refine AW.exit ?_
      refine hK4 _ _ ?_; try clear hK4 K4
      refine AW.seq_region (fun K hK => ?_)
      refine AL.step rfl rfl rfl qW42 ?_
      refine AL.step0 rfl rfl (by first | exact AStepD.store_row (k := 4) tok rfl rfl qW222 rfl rfl rfl (by first | with_reducible assumption | exact row_len _ | exact row_zero) (by first | with_reducible assumption | exact row_len _ | exact row_zero) | exact AStepD.store' tok rfl rfl qW222 qW11 qW211 qW14 rfl qW11 rfl qW212 qW213) ?_
      refine AL.step rfl rfl rfl qW15 ?_
      refine AL.nil_then (hK _ _ ?_); clear hK K
      refine AW.ret (RetQ.mk (.inr rfl) qW43 ⟨?_, qW46⟩)
      rw [hO2]; rfl
  by_cases hel : e < l.length
  · refine AW.seq_region (fun K hK => ?_)
    refine AL.step rfl rfl rfl qW16 ?_
    refine AL.step rfl rfl rfl qW16 ?_
    refine AL.step rfl rfl rfl (by exact strA_len tok rfl rfl rfl rfl) ?_
    refine AL.step rfl rfl rfl (by exact AStepD.bool (AStepD.lss rfl rfl rfl) (c := true) (decide_eq_true (by omega))) ?_
    refine AL.step rfl rfl rfl qW16 ?_
    first | refine AL.gstep rfl rfl rfl rfl rfl rfl rfl qW16 ?_ | refine AL.gskip rfl rfl rfl rfl rfl rfl rfl ?_ | refine AL.gnone rfl rfl rfl rfl rfl ?_ | refine AL.gmay rfl rfl rfl rfl rfl rfl qW32 ?_ | refine AL.gmay2 rfl rfl rfl rfl rfl rfl qW33 ?_
    first | refine AL.gstep rfl rfl rfl rfl rfl rfl rfl qW16 ?_ | refine AL.gskip rfl rfl rfl rfl rfl rfl rfl ?_ | refine AL.gnone rfl rfl rfl rfl rfl ?_ | refine AL.gmay rfl rfl rfl rfl rfl rfl qW61 ?_ | refine AL.gmay2 rfl rfl rfl rfl rfl rfl qW62 ?_
    first | refine AL.gstep rfl rfl rfl rfl rfl rfl rfl (by exact strA_index (i := e) tok rfl rfl rfl rfl rfl rfl hel) ?_ | refine AL.gskip rfl rfl rfl rfl rfl rfl rfl ?_ | refine AL.gnone rfl rfl rfl rfl rfl ?_ | refine AL.gmay rfl rfl rfl rfl rfl rfl (fun hb => by (try (apply AStepD.uncond 21 rfl (gpf hb))); (try (apply AStepD.uncond 22 rfl (gpf hb))); exact (by exact strA_index (i := e) tok rfl rfl rfl rfl rfl rfl hel)) ?_ | refine AL.gmay2 rfl rfl rfl rfl rfl rfl (fun _ hb => by (try (apply AStepD.uncond 21 rfl (gpf hb))); (try (apply AStepD.uncond 22 rfl (gpf hb))); exact (by exact strA_index (i := e) tok rfl rfl rfl rfl rfl rfl hel)) ?_
    first | refine AL.gstep rfl rfl rfl rfl rfl rfl rfl (by exact AStepD.bool (AStepD.neq rfl rfl rfl) (c := decide (at8 l e ≠ 32)) (decide_eq_decide.2 (by omega))) ?_ | refine AL.gskip rfl rfl rfl rfl rfl rfl rfl ?_ | refine AL.gnone rfl rfl rfl rfl rfl ?_ | refine AL.gmay rfl rfl rfl rfl rfl rfl (fun hb => by (try (apply AStepD.uncond 23 rfl (gpf hb))); exact (by exact AStepD.bool (AStepD.neq rfl rfl rfl) (c := decide (at8 l e ≠ 32)) (decide_eq_decide.2 (by omega)))) ?_ | refine AL.gmay2 rfl rfl rfl rfl rfl rfl (fun _ hb => by (try (apply AStepD.uncond 23 rfl (gpf hb))); exact (by exact AStepD.bool (AStepD.neq rfl rfl rfl) (c := decide (at8 l e ≠ 32)) (decide_eq_decide.2 (by omega)))) ?_
    refine AL.step rfl rfl rfl qW224 ?_
    refine AL.nil_then (hK _ _ ?_); clear hK K
    refine AW.cond _ rfl (fun hc => ?_) (fun hc => ?_)
    · have hne : at8 l e ≠ 32 := of_decide_eq_true hc
      clear hc hexit
      refine AW.skip ?_
      refine hK3 _ _ ?_; try clear hK3 K3
      refine AW.block ?_
      refine AW.region ?_
      refine AL.step rfl rfl rfl qW16 ?_
      refine AL.step rfl rfl rfl (by first | exact AStepD.add rfl rfl rfl (by first | exact IntWalk.i64_in _ (by omega) | exact IntWalk.i64_in _ (by simp only [Bool.or_eq_true, Bool.and_eq_true, Bool.or_eq_false_iff, Bool.and_eq_false_iff, Bool.not_eq_true', Bool.not_eq_false', decide_eq_true_eq, decide_eq_false_iff_not, Int.not_lt, Int.not_le, beq_iff_eq] at *; omega) | exact rfl) | exact AStepD.str_add rfl rfl rfl (by omega)) ?_
      refine AL.step rfl rfl rfl qW15 ?_
      refine AL.nil ?_
      refine ⟨e + 1, by omega, qW221, hel, fun j hj => ?_, rfl⟩
      rcases Nat.lt_succ_iff_lt_or_eq.1 hj with q | q
      · exact hno j q
      · subst q
        rw [List.getElem?_eq_getElem hel]
        intro q
        rw [Option.some.injEq] at q
        rw [at8_elem hel, q] at hne
        exact hne h32
    · have heq : at8 l e = 32 := by
        have := of_decide_eq_false hc
        exact Decidable.not_not.1 this
      refine AW.exit ?_
      exact hexit (.inr heq) _ qW221
  · refine AW.seq_region (fun K hK => ?_)
    refine AL.step rfl rfl rfl qW16 ?_
    refine AL.step rfl rfl rfl qW16 ?_
    refine AL.step rfl rfl rfl (by exact strA_len tok rfl rfl rfl rfl) ?_
    refine AL.step rfl rfl rfl (by exact AStepD.bool (AStepD.lss rfl rfl rfl) (c := false) (decide_eq_false (by omega))) ?_
    refine AL.step rfl rfl rfl qW16 ?_
    first | refine AL.gstep rfl rfl rfl rfl rfl rfl rfl qW16 ?_ | refine AL.gskip rfl rfl rfl rfl rfl rfl rfl ?_ | refine AL.gnone rfl rfl rfl rfl rfl ?_ | refine AL.gmay rfl rfl rfl rfl rfl rfl qW32 ?_ | refine AL.gmay2 rfl rfl rfl rfl rfl rfl qW33 ?_
    first | refine AL.gstep rfl rfl rfl rfl rfl rfl rfl qW16 ?_ | refine AL.gskip rfl rfl rfl rfl rfl rfl rfl ?_ | refine AL.gnone rfl rfl rfl rfl rfl ?_ | refine AL.gmay rfl rfl rfl rfl rfl rfl qW61 ?_ | refine AL.gmay2 rfl rfl rfl rfl rfl rfl qW62 ?_
    first | refine AL.gstep rfl rfl rfl rfl rfl rfl rfl qW39 ?_ | refine AL.gskip rfl rfl rfl rfl rfl rfl rfl ?_ | refine AL.gnone rfl rfl rfl rfl rfl ?_ | refine AL.gmay rfl rfl rfl rfl rfl rfl (fun hb => by (try (apply AStepD.uncond 21 rfl (gpf hb))); (try (apply AStepD.uncond 22 rfl (gpf hb))); exact qW39) ?_ | refine AL.gmay2 rfl rfl rfl rfl rfl rfl (fun _ hb => by (try (apply AStepD.uncond 21 rfl (gpf hb))); (try (apply AStepD.uncond 22 rfl (gpf hb))); exact qW39) ?_
    first | refine AL.gstep rfl rfl rfl rfl rfl rfl rfl qW31 ?_ | refine AL.gskip rfl rfl rfl rfl rfl rfl rfl ?_ | refine AL.gnone rfl rfl rfl rfl rfl ?_ | refine AL.gmay rfl rfl rfl rfl rfl rfl (fun hb => by (try (apply AStepD.uncond 23 rfl (gpf hb))); exact qW31) ?_ | refine AL.gmay2 rfl rfl rfl rfl rfl rfl (fun _ hb => by (try (apply AStepD.uncond 23 rfl (gpf hb))); exact qW31) ?_
    refine AL.step rfl rfl rfl qW224 ?_
    refine AL.nil_then (hK _ _ ?_); clear hK K
    refine AW.cond_false rfl rfl ?_
    refine AW.exit ?_
    exact hexit (.inl hel) _ qW221
end Go.Proofs.YtlkbckffeegikaaDoor
