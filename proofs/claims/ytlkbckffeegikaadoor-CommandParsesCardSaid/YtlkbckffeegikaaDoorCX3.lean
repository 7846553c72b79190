/- The walk of the reference's Text. -/
import Derived.Test.YtlkbckffeegikaaDoorCX2
set_option linter.unusedSimpArgs false
set_option linter.unusedVariables false
namespace Go.Proofs.YtlkbckffeegikaaDoor
open Go.Ax
open Cel (c)
theorem qW71 {p : Prop} (h : p := by first | exact Nat.zero_add 3 | exact (show _ + 3 = _ from qW216) | exact (show _ + 3 = _ + 3 from rfl) | exact rfl) : p := h
theorem qW72 {p : Prop} (h : p := by first | exact AStepD.fieldAddr' tok rfl rfl rfl rfl rfl rfl rfl qW71 | exact AStepD.fieldAddr_ip' tok rfl rfl rfl rfl rfl rfl rfl (show List.drop 3 _ = _ from rfl)) : p := h
set_option linter.unusedSimpArgs false
set_option linter.unusedVariables false

theorem args_0 (m : Bool) (z : List UInt8) : argsO 0 m z = if m then none else some (0, 0#64, []) := rfl
theorem args_1 (m : Bool) (z : List UInt8) : argsO 1 m z = if (m && !atoiB z && decide (z.length ≤ 15) && decide (Lib.itoa (atoiV z) = z) && decide (0 ≤ atoiV z)) = true then some (atoiV z, 0#64, []) else none := rfl
theorem args_2 (m : Bool) (z : List UInt8) : argsO 2 m z = if (m && (parseO z).isSome && decide (parseS z ≠ 0#64)) = true then some (0, parseS z, []) else none := rfl
theorem args_3 (m : Bool) (z : List UInt8) : argsO 3 m z = if m then some (0, 0#64, z) else none := rfl
/-- What it is for a text to be read as a line. -/
theorem cmd_sound {t : List UInt8} {l : Ln} (h : cmdO t = (l, 0)) : t.length ≤ 8192 ∧ ∃ w ∈ wordsL, w.name = bigL (cutB 32 t).1 ∧ l.kind = (w.kind : Nat) ∧ argsO w.args (cutB 32 t).2.2 (cutB 32 t).2.1 = some (l.id, l.set, l.key) := by
  rw [cmdO] at h
  split at h
  · cases h
  rename_i h1
  refine ⟨by omega, ?_⟩
  split at h
  · cases h
  rename_i w hw
  split at h
  · cases h
  rename_i i s k ha
  have := List.find?_some hw
  simp only [decide_eq_true_eq] at this
  cases h
  exact ⟨w, List.mem_of_find?_eq_some hw, this, rfl, ha⟩
theorem kind_find {l : Ln} {w : Wd} (hw : w ∈ wordsL) (h : l.kind = (w.kind : Nat)) : wordsL.find? (fun v => decide ((v.kind : Int) = l.kind)) = some w := by
  rw [h]; exact find_kind w hw
theorem id_pos {t : List UInt8} {l : Ln} {w : Wd} (h : cmdO t = (l, 0)) (hw : wordsL.find? (fun v => decide ((v.kind : Int) = l.kind)) = some w) (ha : w.args = 1) : 0 ≤ l.id := by
  obtain ⟨_, v, hv, _, hk, hs⟩ := cmd_sound h
  rw [kind_find hv hk] at hw
  cases hw
  rw [ha, args_1] at hs
  split at hs
  · rename_i hc
    simp only [Bool.and_eq_true, decide_eq_true_eq] at hc
    simp only [Option.some.injEq, Prod.mk.injEq] at hs
    rw [← hs.1]; exact hc.2
  · cases hs
/-- What the reference writes. -/
def refT (l : Ln) : List UInt8 := match wordsL.find? (fun w => decide ((w.kind : Int) = l.kind)) with
  | none => []
  | some w => if w.args = 1 ∧ l.id < 0 then [] else if w.args = 3 ∧ 8192 < l.key.length then [] else w.name ++ argT w.args l
theorem txt_ref {l : Ln} {t : List UInt8} (h : txtO l = some t) : refT l = t ∧ cmdO t = (l, 0) := by
  rw [txtO, txtT] at h
  cases hf : wordsL.find? (fun w => decide ((w.kind : Int) = l.kind)) with
  | none => rw [hf] at h; cases h
  | some w =>
    rw [hf] at h
    simp only [Option.map_some] at h
    split at h
    · rename_i hc
      cases h
      refine ⟨?_, hc⟩
      rw [refT, hf]
      simp only
      rw [if_neg, if_neg]
      · rintro ⟨h1, h2⟩
        have := (cmd_sound hc).1
        rw [List.length_append, h1, show argT 3 l = 32 :: l.key from rfl, List.length_cons] at this
        omega
      · rintro ⟨h1, h2⟩
        have := id_pos hc hf h1
        omega
    · cases h

set_option maxHeartbeats 4000000 in
theorem reftxt_calls (H : AHeap) (l : Ln) (hid : -9223372036854775808 ≤ l.id ∧ l.id ≤ 9223372036854775807) (hkey : l.key.length ≤ 100000) : ACalls Tryd.prog 12 [.agg (c l)] H (fun r H' => r = .tup [strA (refT l), .v (.bool (txtO l).isSome)] ∧ H' = H) := by
  refine ACalls.quiet_keep ?_ (.tup (by simp only [List.forall_mem_cons]; exact ⟨.v _, .v _, fun _ h => absurd h List.not_mem_nil⟩))
  refine ACalls.lts fun hlt => ?_
  refine ACalls.of_body tok Tryd.func12 rfl Tryd.ntmps12 (Nat.le_of_ble_eq_true rfl) (fun base => ?_)
  refine AW.seq_region (fun K hK => ?_)
  refine AL.step rfl rfl rfl qW226 ?_
  refine AL.step rfl rfl rfl qW15 ?_
  refine AL.step rfl rfl rfl qW15 ?_
  refine AL.nil_then (hK _ _ ?_); clear hK K
  refine AW.seq_region (fun K hK => ?_)
  refine AL.step rfl rfl rfl qW233 ?_
  refine AL.step rfl rfl rfl qW234 ?_
  refine AL.step rfl rfl rfl (by exact AStepD.callf rfl en21 rfl (word_calls _ l.kind)) ?_
  refine AL.step rfl rfl rfl qW16 ?_
  refine AL.step rfl rfl rfl qW44 ?_
  refine AL.step rfl rfl rfl qW44 ?_
  refine AL.step rfl rfl rfl qW15 ?_
  refine AL.step rfl rfl rfl qW15 ?_
  refine AL.nil_then (hK _ _ ?_); clear hK K
  refine AW.seq_k (fun K1 hK1 => ?_)
  cases hf : wordsL.find? (fun w => decide ((w.kind : Int) = l.kind)) with
  | none =>
    have hO : refT l = [] ∧ txtO l = none := by rw [refT, txtO, txtT, hf]; exact ⟨rfl, rfl⟩
    rw [word_none hf]
    refine AW.seq_region (fun K hK => ?_)
    refine AL.step rfl rfl rfl qW16 ?_
    refine AL.step rfl rfl rfl (by exact AStepD.bool (AStepD.str_eql rfl rfl rfl) (c := true) rfl) ?_
    refine AL.nil_then (hK _ _ ?_); clear hK K
    refine AW.cond_true rfl rfl ?_
    refine AW.seq_region (fun K hK => ?_)
    refine AL.step rfl rfl rfl qW15 ?_
    refine AL.step rfl rfl rfl qW15 ?_
    refine AL.nil_then (hK _ _ ?_); clear hK K
    refine AW.ret (RetQ.mk (.inr rfl) (retA_tmp rfl qW11 (retA_tmp rfl qW11 retA_nil)) ⟨?_, qW12⟩)
    rw [hO.1, hO.2]; rfl
  | some w =>
    have hmem : w ∈ wordsL := List.mem_of_find?_eq_some hf
    have hargs := args_le w hmem
    have hname := name_len w hmem
    have hnp := name_pos w hmem
    have htl := textS_len l.set
    have hR : refT l = if w.args = 1 ∧ l.id < 0 then [] else if w.args = 3 ∧ 8192 < l.key.length then [] else w.name ++ argT w.args l := by rw [refT, hf]
    have hO : txtO l = if cmdO (w.name ++ argT w.args l) = (l, 0) then some (w.name ++ argT w.args l) else none := by rw [txtO, txtT, hf]; rfl
    have hpos : w.args = 1 → ∀ t, cmdO t = (l, 0) → 0 ≤ l.id := fun ha t h => id_pos h hf ha
    rw [word_some hf]
    refine AW.seq_region (fun K hK => ?_)
    refine AL.step rfl rfl rfl qW16 ?_
    refine AL.step rfl rfl rfl (by exact AStepD.bool (AStepD.str_eql rfl rfl rfl) (c := false) (by rw [str_list]; exact decide_eq_false hnp)) ?_
    refine AL.nil_then (hK _ _ ?_); clear hK K
    refine AW.cond_false rfl rfl (AW.skip ?_)
    refine hK1 _ _ ?_; try clear hK1 K1
    refine AW.seq_region (fun K hK => ?_)
    refine AL.step rfl rfl rfl qW16 ?_
    refine AL.step rfl rfl rfl qW15 ?_
    refine AL.nil_then (hK _ _ ?_); clear hK K
    refine AW.seq_k (fun K2 hK2 => ?_)
    have hfin : ∀ t T', SubT T' [(6, strA t), (1, .ptr H.next 0)] → t = w.name ++ argT w.args l → refT l = t → t.length ≤ 1000000 → K2 T' (H.new (.cells 31 (c l))) := fun t T' hT' ht hrt htl2 => by
      rw [← ht] at hO
      have hsome : (txtO l).isSome = (decide ((cmdO t).2 = 0) && decide ((cmdO t).1 = l)) := by
        rw [hO]
        by_cases h : cmdO t = (l, 0)
        · rw [if_pos h, h]; simp
        · rw [if_neg h]
          cases hd : (decide ((cmdO t).2 = 0) && decide ((cmdO t).1 = l)) with
          | false => rfl
          | true =>
            simp only [Bool.and_eq_true, decide_eq_true_eq] at hd
            exact absurd (Prod.ext hd.2 hd.1) h
      refine hK2 _ _ ?_
      refine AW.sub hT' ?_
      clear hT' hK2 K2 hR hO hpos ht
      refine AW.seq_region (fun K hK => ?_)
      refine AL.step rfl rfl rfl qW16 ?_
      refine AL.step rfl rfl rfl (by exact AStepD.callf rfl en9 rfl (refcmd_calls _ t htl2)) ?_
      refine AL.step rfl rfl rfl qW16 ?_
      refine AL.step rfl rfl rfl qW44 ?_
      refine AL.step rfl rfl rfl qW44 ?_
      refine AL.step rfl rfl rfl qW41 ?_
      refine AL.step0 rfl rfl qW231 ?_
      refine AL.step rfl rfl rfl qW15 ?_
      refine AL.nil_then (hK _ _ ?_); clear hK K
      refine AW.seq_k (fun K hK => ?_)
      apply AW.draw mixed [_, _, _, _, _, _, _, _, _, _] [] [_] [(0, 0), (1, 0), (2, 0), (3, 0), (4, 0), (5, 0), (6, 0), (7, 0), (8, 0), (9, 0)] rfl rfl rfl (by simp only [List.getD_cons_zero, List.getD_cons_succ]; all_goals apply Eq.refl)
      · refine ⟨?_, ?_, ?_, ?_, ?_, ?_, ?_, ?_, ?_, ?_⟩
        · refine Ob.mk _ [6] 0 rfl rfl (restr_cons qW11 restr_nil) rfl ?_
          simp only [List.getD_cons_zero, List.getD_cons_succ]
          exact GStep.plain rfl qW16
        · refine Ob.mk _ [8] 0 rfl rfl (restr_cons qW11 restr_nil) rfl ?_
          simp only [List.getD_cons_zero, List.getD_cons_succ]
          exact GStep.plain rfl qW16
        · refine Ob.mk _ [56] 0 rfl rfl (restr_cons qW11 restr_nil) rfl ?_
          simp only [List.getD_cons_zero, List.getD_cons_succ]
          exact GStep.plain rfl qW218
        · refine Ob.mk _ [57] 0 rfl rfl (restr_cons qW11 restr_nil) rfl ?_
          simp only [List.getD_cons_zero, List.getD_cons_succ]
          exact GStep.plain rfl qW16
        · refine Ob.mk _ [7, 58] 0 rfl rfl (restr_cons qW11 (restr_cons qW11 restr_nil)) rfl ?_
          simp only [List.getD_cons_zero, List.getD_cons_succ]
          first | exact GStep.yes rfl rfl rfl rfl rfl qW45 | exact GStep.no rfl rfl rfl rfl rfl | exact GStep.none rfl rfl rfl | exact GStep.may rfl rfl rfl rfl (fun hb => by (try (apply AStepD.uncond 7 rfl (gpf hb))); exact qW45) | exact GStep.may2 rfl rfl rfl rfl (fun _ hb => by (try (apply AStepD.uncond 7 rfl (gpf hb))); exact qW45)
        · refine Ob.mk _ [1, 58] 0 rfl rfl (restr_cons qW11 (restr_cons qW11 restr_nil)) rfl ?_
          simp only [List.getD_cons_zero, List.getD_cons_succ]
          first | exact GStep.yes rfl rfl rfl rfl rfl qW45 | exact GStep.no rfl rfl rfl rfl rfl | exact GStep.none rfl rfl rfl | exact GStep.may rfl rfl rfl rfl (fun hb => by (try (apply AStepD.uncond 1 rfl (gpf hb))); exact qW45) | exact GStep.may2 rfl rfl rfl rfl (fun _ hb => by (try (apply AStepD.uncond 1 rfl (gpf hb))); exact qW45)
        · refine Ob.mk _ [59, 60, 58] 0 rfl rfl (restr_cons qW11 (restr_cons qW11 (restr_cons qW11 restr_nil))) rfl ?_
          simp only [List.getD_cons_zero, List.getD_cons_succ]
          first | exact GStep.yes rfl rfl rfl rfl rfl (by exact ln_eql31 rfl rfl rfl) | exact GStep.no rfl rfl rfl rfl rfl | exact GStep.none rfl rfl rfl | exact GStep.may rfl rfl rfl rfl (fun hb => by (try (apply AStepD.uncond 59 rfl (gpf hb))); (try (apply AStepD.uncond 60 rfl (gpf hb))); exact (by exact ln_eql31 rfl rfl rfl)) | exact GStep.may2 rfl rfl rfl rfl (fun _ hb => by (try (apply AStepD.uncond 59 rfl (gpf hb))); (try (apply AStepD.uncond 60 rfl (gpf hb))); exact (by exact ln_eql31 rfl rfl rfl))
        · refine Ob.mk _ [58, 61] 0 rfl rfl (restr_cons qW11 (restr_cons qW11 restr_nil)) rfl ?_
          simp only [List.getD_cons_zero, List.getD_cons_succ]
          exact GStep.plain rfl qW224
        · refine Ob.mk _ [55] 0 rfl rfl (restr_cons qW11 restr_nil) rfl ?_
          simp only [List.getD_cons_zero, List.getD_cons_succ]
          exact GStep.plain rfl qW15
        · refine Ob.mk _ [62] 0 rfl rfl (restr_cons qW11 restr_nil) rfl ?_
          simp only [List.getD_cons_zero, List.getD_cons_succ]
          exact GStep.plain rfl qW15
      refine hK _ _ ?_; clear hK K
      refine AW.frame (by simp only [frameAt, putA]; all_goals exact rfl) (by simp only [List.length_cons, List.length_nil, Nat.zero_add, Nat.reduceAdd, List.getD_cons_zero, List.getD_cons_succ]; all_goals apply Eq.refl) ?_
      refine AW.ret (RetQ.mk (.inr rfl) (retA_tmp rfl qW11 (retA_tmp rfl qW11 retA_nil)) ⟨?_, qW12⟩)
      rw [hrt, hsome]; rfl
    refine AW.seq_region (fun K hK => ?_)
    refine AL.step rfl rfl rfl qW16 ?_
    refine AL.nil_then (hK _ _ ?_); clear hK K
    refine AW.block ?_
    rcases hargs with ha | ha | ha | ha
    · have hR2 : refT l = w.name := by rw [hR, ha, if_neg (by simp), if_neg (by simp), show argT 0 l = [] from rfl, List.append_nil]
      simp only [ha]
      refine AW.seq_region (fun K hK => ?_)
      refine AL.step rfl rfl rfl (by exact AStepD.bool (AStepD.eql rfl rfl rfl) (c := false) (by simp)) ?_
      refine AL.step rfl rfl rfl qW15 ?_
      refine AL.nil_then (hK _ _ ?_); clear hK K
      refine AW.cond_false rfl rfl ?_
      refine AW.seq_region (fun K hK => ?_)
      refine AL.step rfl rfl rfl (by exact AStepD.bool (AStepD.eql rfl rfl rfl) (c := false) (by simp)) ?_
      refine AL.step rfl rfl rfl qW15 ?_
      refine AL.nil_then (hK _ _ ?_); clear hK K
      refine AW.cond_false rfl rfl ?_
      refine AW.seq_region (fun K hK => ?_)
      refine AL.step rfl rfl rfl (by exact AStepD.bool (AStepD.eql rfl rfl rfl) (c := false) (by simp)) ?_
      refine AL.step rfl rfl rfl qW15 ?_
      refine AL.nil_then (hK _ _ ?_); clear hK K
      refine AW.cond_false rfl rfl (AW.skip ?_)
      exact hfin w.name _ qW221 (by rw [ha, show argT 0 l = [] from rfl, List.append_nil]) hR2 (by omega)
    · simp only [ha]
      refine AW.seq_region (fun K hK => ?_)
      refine AL.step rfl rfl rfl (by exact AStepD.bool (AStepD.eql rfl rfl rfl) (c := true) (by simp)) ?_
      refine AL.step rfl rfl rfl qW15 ?_
      refine AL.nil_then (hK _ _ ?_); clear hK K
      refine AW.cond_true rfl rfl ?_
      refine AW.seq_k (fun K3 hK3 => ?_)
      refine AW.seq_region (fun K hK => ?_)
      refine AL.step rfl rfl rfl qW235 ?_
      refine AL.step rfl rfl rfl qW234 ?_
      refine AL.step rfl rfl rfl qW25 ?_
      refine AL.nil_then (hK _ _ ?_); clear hK K
      refine AW.cond _ rfl (fun hc => ?_) (fun hc => ?_)
      · have hneg : l.id < 0 := of_decide_eq_true hc
        have hno : refT l = [] ∧ txtO l = none := by
          refine ⟨by rw [hR, if_pos ⟨ha, hneg⟩], ?_⟩
          rw [hO, if_neg]
          intro q
          have := hpos ha _ q
          omega
        clear hc
        refine AW.seq_region (fun K hK => ?_)
        refine AL.step rfl rfl rfl qW15 ?_
        refine AL.step rfl rfl rfl qW15 ?_
        refine AL.nil_then (hK _ _ ?_); clear hK K
        refine AW.ret (RetQ.mk (.inr rfl) (retA_tmp rfl qW11 (retA_tmp rfl qW11 retA_nil)) ⟨?_, qW12⟩)
        rw [hno.1, hno.2]; rfl
      · have hge : 0 ≤ l.id := by
          have := of_decide_eq_false hc
          omega
        obtain ⟨m, hm⟩ := Int.eq_ofNat_of_zero_le hge
        have hR2 : refT l = w.name ++ ([32] ++ Lib.decDigits m) := by rw [hR, ha, if_neg (by omega), if_neg (by simp), show argT 1 l = 32 :: Lib.itoa l.id from rfl, hm, Lib.itoa_nonneg]; rfl
        have hdl := decL_len m (by omega)
        have hdig : ∀ H2 : AHeap, ACalls Tryd.prog 28 [.v (.int .i64 l.id)] H2 (fun r H' => r = strA (Lib.decDigits m) ∧ H' = H2) := fun H2 => by rw [hm]; exact digitsG_calls 19 _ m hdl (by omega)
        have hat : argT 1 l = 32 :: Lib.decDigits m := by rw [show argT 1 l = 32 :: Lib.itoa l.id from rfl, hm, Lib.itoa_nonneg]
        clear hc hm
        refine AW.skip ?_
        refine hK3 _ _ ?_; try clear hK3 K3
        refine AW.region ?_
        refine AL.step rfl rfl rfl qW16 ?_
        refine AL.step rfl rfl rfl qW235 ?_
        refine AL.step rfl rfl rfl qW234 ?_
        refine AL.step rfl rfl rfl (by exact AStepD.callf rfl en28 rfl (hdig _)) ?_
        refine AL.step rfl rfl rfl (by exact strA_add [32] (Lib.decDigits m) rfl rfl rfl (by simp; omega)) ?_
        refine AL.step rfl rfl rfl (by exact strA_add w.name ([32] ++ Lib.decDigits m) rfl rfl rfl (by simp; omega)) ?_
        refine AL.step rfl rfl rfl qW15 ?_
        refine AL.nil ?_
        exact hfin (w.name ++ ([32] ++ Lib.decDigits m)) _ qW221 (by rw [ha, hat]; rfl) hR2 (by simp; omega)
    · have hR2 : refT l = w.name ++ ([32] ++ textS l.set) := by rw [hR, ha, if_neg (by simp), if_neg (by simp)]; rfl
      simp only [ha]
      refine AW.seq_region (fun K hK => ?_)
      refine AL.step rfl rfl rfl (by exact AStepD.bool (AStepD.eql rfl rfl rfl) (c := false) (by simp)) ?_
      refine AL.step rfl rfl rfl qW15 ?_
      refine AL.nil_then (hK _ _ ?_); clear hK K
      refine AW.cond_false rfl rfl ?_
      refine AW.seq_region (fun K hK => ?_)
      refine AL.step rfl rfl rfl (by exact AStepD.bool (AStepD.eql rfl rfl rfl) (c := true) (by simp)) ?_
      refine AL.step rfl rfl rfl qW15 ?_
      refine AL.nil_then (hK _ _ ?_); clear hK K
      refine AW.cond_true rfl rfl ?_
      refine AW.region ?_
      refine AL.step rfl rfl rfl qW16 ?_
      refine AL.step rfl rfl rfl qW413 ?_
      refine AL.step rfl rfl rfl qW234 ?_
      refine AL.step rfl rfl rfl (by exact AStepD.callf rfl en30 rfl (flags_calls _ l.set)) ?_
      refine AL.step rfl rfl rfl (by exact AStepD.callf rfl en29 rfl (reftext_calls _ l.set)) ?_
      refine AL.step rfl rfl rfl (by exact strA_add [32] (textS l.set) rfl rfl rfl (by simp; omega)) ?_
      refine AL.step rfl rfl rfl (by exact strA_add w.name ([32] ++ textS l.set) rfl rfl rfl (by simp; omega)) ?_
      refine AL.step rfl rfl rfl qW15 ?_
      refine AL.nil ?_
      exact hfin (w.name ++ ([32] ++ textS l.set)) _ qW221 (by rw [ha]; rfl) hR2 (by simp; omega)
    · simp only [ha]
      refine AW.seq_region (fun K hK => ?_)
      refine AL.step rfl rfl rfl (by exact AStepD.bool (AStepD.eql rfl rfl rfl) (c := false) (by simp)) ?_
      refine AL.step rfl rfl rfl qW15 ?_
      refine AL.nil_then (hK _ _ ?_); clear hK K
      refine AW.cond_false rfl rfl ?_
      refine AW.seq_region (fun K hK => ?_)
      refine AL.step rfl rfl rfl (by exact AStepD.bool (AStepD.eql rfl rfl rfl) (c := false) (by simp)) ?_
      refine AL.step rfl rfl rfl qW15 ?_
      refine AL.nil_then (hK _ _ ?_); clear hK K
      refine AW.cond_false rfl rfl ?_
      refine AW.seq_region (fun K hK => ?_)
      refine AL.step rfl rfl rfl (by exact AStepD.bool (AStepD.eql rfl rfl rfl) (c := true) (by simp)) ?_
      refine AL.step rfl rfl rfl qW15 ?_
      refine AL.nil_then (hK _ _ ?_); clear hK K
      refine AW.cond_true rfl rfl ?_
      refine AW.seq_k (fun K3 hK3 => ?_)
      refine AW.seq_region (fun K hK => ?_)
      refine AL.step rfl rfl rfl qW72 ?_
      refine AL.step rfl rfl rfl qW234 ?_
      refine AL.step rfl rfl rfl (by exact strA_len tok rfl rfl rfl rfl) ?_
      refine AL.step rfl rfl rfl qW36 ?_
      refine AL.nil_then (hK _ _ ?_); clear hK K
      refine AW.cond _ rfl (fun hc => ?_) (fun hc => ?_)
      · have hbig : 8192 < l.key.length := by
          have := of_decide_eq_true hc
          omega
        have hno : refT l = [] ∧ txtO l = none := by
          refine ⟨by rw [hR, ha, if_neg (by simp), if_pos ⟨rfl, hbig⟩], ?_⟩
          rw [hO, if_neg]
          intro q
          have := (cmd_sound q).1
          rw [List.length_append, ha, show argT 3 l = 32 :: l.key from rfl, List.length_cons] at this
          omega
        clear hc
        refine AW.seq_region (fun K hK => ?_)
        refine AL.step rfl rfl rfl qW15 ?_
        refine AL.step rfl rfl rfl qW15 ?_
        refine AL.nil_then (hK _ _ ?_); clear hK K
        refine AW.ret (RetQ.mk (.inr rfl) (retA_tmp rfl qW11 (retA_tmp rfl qW11 retA_nil)) ⟨?_, qW12⟩)
        rw [hno.1, hno.2]; rfl
      · have hsm : ¬ 8192 < l.key.length := by
          have := of_decide_eq_false hc
          omega
        have hR2 : refT l = w.name ++ ([32] ++ l.key) := by rw [hR, ha, if_neg (by simp), if_neg (by omega)]; rfl
        clear hc
        refine AW.skip ?_
        refine hK3 _ _ ?_; try clear hK3 K3
        refine AW.region ?_
        refine AL.step rfl rfl rfl qW16 ?_
        refine AL.step rfl rfl rfl qW72 ?_
        refine AL.step rfl rfl rfl qW234 ?_
        refine AL.step rfl rfl rfl (by exact strA_add [32] l.key rfl rfl rfl (by simp; omega)) ?_
        refine AL.step rfl rfl rfl (by exact strA_add w.name ([32] ++ l.key) rfl rfl rfl (by simp; omega)) ?_
        refine AL.step rfl rfl rfl qW15 ?_
        refine AL.nil ?_
        exact hfin (w.name ++ ([32] ++ l.key)) _ qW221 (by rw [ha]; rfl) hR2 (by simp; omega)
end Go.Proofs.YtlkbckffeegikaaDoor

/- The anchor, and the laws CommandParses, CommandTexts. -/

namespace Go.Proofs.YtlkbckffeegikaaDoor
open Go.Ax
open Cel (c)
theorem qW81 {p : Prop} (h : p := by exact (fun hb => by (try (apply AStepD.uncond 3 rfl (gpf hb))); exact qW45)) : p := h
theorem qW82 {p : Prop} (h : p := by exact (fun _ hb => by (try (apply AStepD.uncond 3 rfl (gpf hb))); exact qW45)) : p := h
theorem qW83 {p : Prop} (h : p := by exact (fun hb => by (try (apply AStepD.uncond 3 rfl (gpf hb))); exact qW16)) : p := h
theorem qW84 {p : Prop} (h : p := by exact (fun _ hb => by (try (apply AStepD.uncond 3 rfl (gpf hb))); exact qW16)) : p := h
set_option linter.unusedSimpArgs false
set_option linter.unusedVariables false

theorem cut_parts (l : List UInt8) : l = (cutB 32 l).1 ++ (if (cutB 32 l).2.2 then 32 :: (cutB 32 l).2.1 else []) ∧ ((cutB 32 l).2.2 = false → (cutB 32 l).2.1 = []) := by
  rw [cutB]
  split
  · exact ⟨by simp, fun _ => rfl⟩
  · rename_i h
    obtain ⟨o, ho⟩ := Int.eq_ofNat_of_zero_le (show 0 ≤ Lib.indexByte l 32 by omega)
    obtain ⟨k1, k2⟩ := Lib.indexByte_some ho
    obtain ⟨hol, he⟩ := List.getElem?_eq_some_iff.1 k1
    rw [ho, Int.toNat_natCast]
    refine ⟨?_, fun h => by cases h⟩
    simp only [if_true]
    rw [← he, ← List.drop_eq_getElem_cons hol, List.take_append_drop]
theorem cut_of (n z : List UInt8) (two : Bool) (hn : (32 : UInt8) ∉ n) (hz : two = false → z = []) : cutB 32 (n ++ (if two then 32 :: z else [])) = (n, z, two) := by
  cases two with
  | true =>
    simp only [if_true]
    rw [cut_scan (e := n.length) (fun j hj => ?_) (by simp) (fun _ => by simp)]
    · simp
    · rw [List.getElem?_append_left hj]
      exact fun e => hn (List.mem_of_getElem? e)
  | false =>
    rw [hz rfl]
    simp only [Bool.false_eq_true, if_false, List.append_nil]
    rw [cut_scan (e := n.length) (fun j hj => fun e => hn (List.mem_of_getElem? e)) (Nat.le_refl _) (fun h => by omega)]
    simp
/-- A text that begins with a word. -/
theorem cmd_of {w : Wd} (hw : w ∈ wordsL) {n z : List UInt8} {two : Bool} (hb : bigL n = w.name) (hn : (32 : UInt8) ∉ n) (hz : two = false → z = []) (hl : (n ++ (if two then 32 :: z else [])).length ≤ 8192) :
    cmdO (n ++ (if two then 32 :: z else [])) = match argsO w.args two z with | none => (zL, 62) | some (i, s, k) => (⟨w.kind, i, s, k⟩, 0) := by
  rw [cmdO, if_neg (by omega), cut_of n z two hn hz]
  simp only
  rw [hb, find_name w hw]; rfl
theorem name_big : ∀ w ∈ wordsL, bigL w.name = w.name ∧ (32 : UInt8) ∉ w.name ∧ ∀ b ∈ w.name, 65 ≤ b.toNat ∧ b.toNat ≤ 90 := by decide
/-- What was read is what is written behind the word. -/
theorem args_text {w : Wd} (hw : w ∈ wordsL) {l : Ln} {two : Bool} {z : List UInt8} (hz : two = false → z = []) (h : argsO w.args two z = some (l.id, l.set, l.key)) : argT w.args l = if two then 32 :: z else [] := by
  rcases args_le w hw with ha | ha | ha | ha
  · rw [ha, args_0] at h
    rw [ha]
    cases two with
    | true => cases h
    | false => rfl
  · rw [ha, args_1] at h
    rw [ha]
    split at h
    · rename_i hc
      simp only [Bool.and_eq_true, decide_eq_true_eq] at hc
      simp only [Option.some.injEq, Prod.mk.injEq] at h
      rw [hc.1.1.1.1, show argT 1 l = 32 :: Lib.itoa l.id from rfl, ← h.1, hc.1.2]; rfl
    · cases h
  · rw [ha, args_2] at h
    rw [ha]
    split at h
    · rename_i hc
      simp only [Bool.and_eq_true, decide_eq_true_eq] at hc
      simp only [Option.some.injEq, Prod.mk.injEq] at h
      obtain ⟨s, hs⟩ := Option.isSome_iff_exists.1 hc.1.2
      have hp : parseS z = s := by rw [parseS, hs]; rfl
      rw [hc.1.1, show argT 2 l = 32 :: textS l.set from rfl, ← h.2.1, hp, text_of_parse hs]; rfl
    · cases h
  · rw [ha, args_3] at h
    rw [ha]
    cases two with
    | false => cases h
    | true =>
      simp only [if_true, Option.some.injEq, Prod.mk.injEq] at h
      rw [show argT 3 l = 32 :: l.key from rfl, ← h.2.2]; rfl
theorem txt_of {w : Wd} (hw : w ∈ wordsL) {l : Ln} (hk : l.kind = (w.kind : Nat)) {two : Bool} {z : List UInt8} (hz : two = false → z = []) (h : argsO w.args two z = some (l.id, l.set, l.key)) (hl : (w.name ++ (if two then 32 :: z else [])).length ≤ 8192) :
    txtO l = some (w.name ++ (if two then 32 :: z else [])) ∧ cmdO (w.name ++ (if two then 32 :: z else [])) = (l, 0) := by
  obtain ⟨b1, b2, _⟩ := name_big w hw
  have hc := cmd_of hw b1 b2 hz hl
  rw [h] at hc
  simp only at hc
  rw [← hk] at hc
  refine ⟨?_, hc⟩
  rw [txtO, txtT, kind_find hw hk]
  simp only [Option.map_some]
  rw [args_text hw hz h, if_pos hc]
/-- What is read is written as a text of the same length that is read as it. -/
theorem cmd_back {t : List UInt8} {l : Ln} (h : cmdO t = (l, 0)) : ∃ s, txtO l = some s ∧ s.length = t.length ∧ cmdO s = (l, 0) ∧ (-9223372036854775808 ≤ l.id ∧ l.id ≤ 9223372036854775807) ∧ l.key.length ≤ t.length := by
  obtain ⟨h1, w, hw, hn, hk, ha⟩ := cmd_sound h
  obtain ⟨p1, p2⟩ := cut_parts t
  have hlen := cut_len 32 t
  have hnl := congrArg List.length hn
  rw [big_len] at hnl
  have hl2 : (w.name ++ (if (cutB 32 t).2.2 then 32 :: (cutB 32 t).2.1 else [])).length = t.length := by
    conv => rhs; rw [p1]
    rw [List.length_append, List.length_append, hnl]
  obtain ⟨k1, k2⟩ := txt_of hw hk p2 ha (by omega)
  refine ⟨_, k1, hl2, k2, ?_⟩
  have hb := atoiV_bounds (cutB 32 t).2.1
  rcases args_le w hw with q | q | q | q
  · rw [q, args_0] at ha
    split at ha
    · cases ha
    · simp only [Option.some.injEq, Prod.mk.injEq] at ha
      rw [← ha.1, ← ha.2.2]; simp
  · rw [q, args_1] at ha
    split at ha
    · simp only [Option.some.injEq, Prod.mk.injEq] at ha
      rw [← ha.1, ← ha.2.2]; exact ⟨hb, by simp⟩
    · cases ha
  · rw [q, args_2] at ha
    split at ha
    · simp only [Option.some.injEq, Prod.mk.injEq] at ha
      rw [← ha.1, ← ha.2.2]; simp
    · cases ha
  · rw [q, args_3] at ha
    split at ha
    · simp only [Option.some.injEq, Prod.mk.injEq] at ha
      rw [← ha.1, ← ha.2.2]; exact ⟨by simp, hlen.2⟩
    · cases ha

theorem anchor_facts : cmdO [109, 101, 101, 116, 32, 55] = (⟨1, 7, 0#64, []⟩, 0) ∧ cmdO [97, 100, 100, 115, 108, 111, 116, 115, 32, 48, 45, 50, 32, 53] = (⟨3, 0, 39#64, []⟩, 0) ∧ cmdO [114, 101, 115, 101, 116, 32, 110, 111, 119] = (zL, 62) ∧ cmdO [] = (zL, 61) := by
  decide +kernel
theorem anchor_build1 {o : Oper} {T : Fr} {H : AHeap} (ho : o.op = .build 26 #[(0, .const (.int .i64 1)), (1, .const (.int .i64 7))]) : AStepD Tryd.prog o T H (.agg (c (⟨1, 7, 0#64, []⟩ : Ln))) H := by
  refine AStepD.build tok ho rfl rfl (by decide) rfl ?_
  intro p hp z hz
  simp only [List.map_cons, List.map_nil, List.mem_cons, List.not_mem_nil, or_false] at hp
  rcases hp with rfl | rfl <;> (simp only [aev, AV.cells, List.mem_singleton] at hz; subst hz; rfl)
theorem anchor_build2 {o : Oper} {T : Fr} {H : AHeap} (ho : o.op = .build 26 #[(0, .const (.int .i64 3)), (2, .const (.int .u64 39))]) : AStepD Tryd.prog o T H (.agg (c (⟨3, 0, 39#64, []⟩ : Ln))) H := by
  refine AStepD.build tok ho rfl rfl (by decide) rfl ?_
  intro p hp z hz
  simp only [List.map_cons, List.map_nil, List.mem_cons, List.not_mem_nil, or_false] at hp
  rcases hp with rfl | rfl <;> (simp only [aev, AV.cells, List.mem_singleton] at hz; subst hz; rfl)
set_option maxHeartbeats 2000000 in
theorem anchor_calls (H : AHeap) : ACalls Tryd.prog 7 [] H (fun r H' => r = .v (.bool true) ∧ H' = H) := by
  obtain ⟨a1, a2, a3, a4⟩ := anchor_facts
  refine ACalls.quiet_keep ?_ (.v _)
  refine ACalls.of_body tok Tryd.func7 rfl Tryd.ntmps7 (Nat.le_of_ble_eq_true rfl) (fun base => ?_)
  refine AW.seq_region (fun K hK => ?_)
  refine AL.step rfl rfl rfl qW15 ?_
  refine AL.nil_then (hK _ _ ?_); clear hK K
  refine AW.seq_region (fun K hK => ?_)
  refine AL.step rfl rfl rfl (by exact AStepD.val (AStepD.callf rfl en8 rfl (cmd_calls _ [109, 101, 101, 116, 32, 55] (by decide))) (by rw [a1])) ?_
  refine AL.step rfl rfl rfl qW16 ?_
  refine AL.step rfl rfl rfl qW44 ?_
  refine AL.step rfl rfl rfl qW44 ?_
  refine AL.step rfl rfl rfl qW41 ?_
  refine AL.step0 rfl rfl qW231 ?_
  refine AL.step rfl rfl rfl qW15 ?_
  refine AL.nil_then (hK _ _ ?_); clear hK K
  refine AW.seq_region (fun K hK => ?_)
  refine AL.step rfl rfl rfl (by exact AStepD.val (AStepD.callf rfl en8 rfl (cmd_calls _ [97, 100, 100, 115, 108, 111, 116, 115, 32, 48, 45, 50, 32, 53] (by decide))) (by rw [a2])) ?_
  refine AL.step rfl rfl rfl qW16 ?_
  refine AL.step rfl rfl rfl qW44 ?_
  refine AL.step rfl rfl rfl qW44 ?_
  refine AL.step rfl rfl rfl qW41 ?_
  refine AL.step0 rfl rfl qW231 ?_
  refine AL.step rfl rfl rfl qW15 ?_
  refine AL.nil_then (hK _ _ ?_); clear hK K
  refine AW.seq_region (fun K hK => ?_)
  refine AL.step rfl rfl rfl (by exact AStepD.val (AStepD.callf rfl en8 rfl (cmd_calls _ [114, 101, 115, 101, 116, 32, 110, 111, 119] (by decide))) (by rw [a3])) ?_
  refine AL.step rfl rfl rfl qW16 ?_
  refine AL.step rfl rfl rfl qW44 ?_
  refine AL.step rfl rfl rfl qW44 ?_
  refine AL.step rfl rfl rfl qW41 ?_
  refine AL.step0 rfl rfl qW231 ?_
  refine AL.step rfl rfl rfl qW15 ?_
  refine AL.nil_then (hK _ _ ?_); clear hK K
  refine AW.seq_region (fun K hK => ?_)
  refine AL.step rfl rfl rfl (by exact AStepD.val (AStepD.callf rfl en8 rfl (cmd_calls _ [] (by decide))) (by rw [a4])) ?_
  refine AL.step rfl rfl rfl qW16 ?_
  refine AL.step rfl rfl rfl qW44 ?_
  refine AL.step rfl rfl rfl qW44 ?_
  refine AL.step rfl rfl rfl qW41 ?_
  refine AL.step0 rfl rfl qW231 ?_
  refine AL.step rfl rfl rfl qW15 ?_
  refine AL.nil_then (hK _ _ ?_); clear hK K
  refine AW.seq_region (fun K hK => ?_)
  refine AL.step rfl rfl rfl qW16 ?_
  refine AL.step rfl rfl rfl (by exact AStepD.bool (AStepD.eql rfl rfl rfl) (c := true) (by simp)) ?_
  refine AL.step rfl rfl rfl qW16 ?_
  first | refine AL.gstep rfl rfl rfl rfl rfl rfl rfl qW45 ?_ | refine AL.gskip rfl rfl rfl rfl rfl rfl rfl ?_ | refine AL.gnone rfl rfl rfl rfl rfl ?_ | refine AL.gmay rfl rfl rfl rfl rfl rfl (fun hb => by (try (apply AStepD.uncond 1 rfl (gpf hb))); exact qW45) ?_ | refine AL.gmay2 rfl rfl rfl rfl rfl rfl (fun _ hb => by (try (apply AStepD.uncond 1 rfl (gpf hb))); exact qW45) ?_
  first | refine AL.gstep rfl rfl rfl rfl rfl rfl rfl (by exact anchor_build1 rfl) ?_ | refine AL.gskip rfl rfl rfl rfl rfl rfl rfl ?_ | refine AL.gnone rfl rfl rfl rfl rfl ?_ | refine AL.gmay rfl rfl rfl rfl rfl rfl (fun hb => by exact (by exact anchor_build1 rfl)) ?_ | refine AL.gmay2 rfl rfl rfl rfl rfl rfl (fun _ hb => by exact (by exact anchor_build1 rfl)) ?_
  first | refine AL.gstep rfl rfl rfl rfl rfl rfl rfl (by exact AStepD.bool (ln_eql26 (a := ⟨1, 7, 0#64, []⟩) (b := ⟨1, 7, 0#64, []⟩) rfl rfl rfl) (c := true) (by simp)) ?_ | refine AL.gskip rfl rfl rfl rfl rfl rfl rfl ?_ | refine AL.gnone rfl rfl rfl rfl rfl ?_ | refine AL.gmay rfl rfl rfl rfl rfl rfl (fun hb => by (try (apply AStepD.uncond 28 rfl (gpf hb))); (try (apply AStepD.uncond 29 rfl (gpf hb))); exact (by exact AStepD.bool (ln_eql26 (a := ⟨1, 7, 0#64, []⟩) (b := ⟨1, 7, 0#64, []⟩) rfl rfl rfl) (c := true) (by simp))) ?_ | refine AL.gmay2 rfl rfl rfl rfl rfl rfl (fun _ hb => by (try (apply AStepD.uncond 28 rfl (gpf hb))); (try (apply AStepD.uncond 29 rfl (gpf hb))); exact (by exact AStepD.bool (ln_eql26 (a := ⟨1, 7, 0#64, []⟩) (b := ⟨1, 7, 0#64, []⟩) rfl rfl rfl) (c := true) (by simp))) ?_
  refine AL.step rfl rfl rfl qW224 ?_
  refine AL.step rfl rfl rfl qW16 ?_
  first | refine AL.gstep rfl rfl rfl rfl rfl rfl rfl qW16 ?_ | refine AL.gskip rfl rfl rfl rfl rfl rfl rfl ?_ | refine AL.gnone rfl rfl rfl rfl rfl ?_ | refine AL.gmay rfl rfl rfl rfl rfl rfl qW61 ?_ | refine AL.gmay2 rfl rfl rfl rfl rfl rfl qW62 ?_
  first | refine AL.gstep rfl rfl rfl rfl rfl rfl rfl (by exact AStepD.bool (AStepD.eql rfl rfl rfl) (c := true) (by simp)) ?_ | refine AL.gskip rfl rfl rfl rfl rfl rfl rfl ?_ | refine AL.gnone rfl rfl rfl rfl rfl ?_ | refine AL.gmay rfl rfl rfl rfl rfl rfl (fun hb => by (try (apply AStepD.uncond 33 rfl (gpf hb))); exact (by exact AStepD.bool (AStepD.eql rfl rfl rfl) (c := true) (by simp))) ?_ | refine AL.gmay2 rfl rfl rfl rfl rfl rfl (fun _ hb => by (try (apply AStepD.uncond 33 rfl (gpf hb))); exact (by exact AStepD.bool (AStepD.eql rfl rfl rfl) (c := true) (by simp))) ?_
  refine AL.step rfl rfl rfl qW224 ?_
  refine AL.step rfl rfl rfl qW16 ?_
  first | refine AL.gstep rfl rfl rfl rfl rfl rfl rfl qW45 ?_ | refine AL.gskip rfl rfl rfl rfl rfl rfl rfl ?_ | refine AL.gnone rfl rfl rfl rfl rfl ?_ | refine AL.gmay rfl rfl rfl rfl rfl rfl qW81 ?_ | refine AL.gmay2 rfl rfl rfl rfl rfl rfl qW82 ?_
  first | refine AL.gstep rfl rfl rfl rfl rfl rfl rfl (by exact anchor_build2 rfl) ?_ | refine AL.gskip rfl rfl rfl rfl rfl rfl rfl ?_ | refine AL.gnone rfl rfl rfl rfl rfl ?_ | refine AL.gmay rfl rfl rfl rfl rfl rfl (fun hb => by exact (by exact anchor_build2 rfl)) ?_ | refine AL.gmay2 rfl rfl rfl rfl rfl rfl (fun _ hb => by exact (by exact anchor_build2 rfl)) ?_
  first | refine AL.gstep rfl rfl rfl rfl rfl rfl rfl (by exact AStepD.bool (ln_eql26 (a := ⟨3, 0, 39#64, []⟩) (b := ⟨3, 0, 39#64, []⟩) rfl rfl rfl) (c := true) (by simp)) ?_ | refine AL.gskip rfl rfl rfl rfl rfl rfl rfl ?_ | refine AL.gnone rfl rfl rfl rfl rfl ?_ | refine AL.gmay rfl rfl rfl rfl rfl rfl (fun hb => by (try (apply AStepD.uncond 37 rfl (gpf hb))); (try (apply AStepD.uncond 38 rfl (gpf hb))); exact (by exact AStepD.bool (ln_eql26 (a := ⟨3, 0, 39#64, []⟩) (b := ⟨3, 0, 39#64, []⟩) rfl rfl rfl) (c := true) (by simp))) ?_ | refine AL.gmay2 rfl rfl rfl rfl rfl rfl (fun _ hb => by (try (apply AStepD.uncond 37 rfl (gpf hb))); (try (apply AStepD.uncond 38 rfl (gpf hb))); exact (by exact AStepD.bool (ln_eql26 (a := ⟨3, 0, 39#64, []⟩) (b := ⟨3, 0, 39#64, []⟩) rfl rfl rfl) (c := true) (by simp))) ?_
  refine AL.step rfl rfl rfl qW224 ?_
  refine AL.step rfl rfl rfl qW16 ?_
  first | refine AL.gstep rfl rfl rfl rfl rfl rfl rfl qW16 ?_ | refine AL.gskip rfl rfl rfl rfl rfl rfl rfl ?_ | refine AL.gnone rfl rfl rfl rfl rfl ?_ | refine AL.gmay rfl rfl rfl rfl rfl rfl qW64 ?_ | refine AL.gmay2 rfl rfl rfl rfl rfl rfl qW65 ?_
  first | refine AL.gstep rfl rfl rfl rfl rfl rfl rfl (by exact AStepD.bool (AStepD.eql rfl rfl rfl) (c := true) (by simp)) ?_ | refine AL.gskip rfl rfl rfl rfl rfl rfl rfl ?_ | refine AL.gnone rfl rfl rfl rfl rfl ?_ | refine AL.gmay rfl rfl rfl rfl rfl rfl (fun hb => by (try (apply AStepD.uncond 42 rfl (gpf hb))); exact (by exact AStepD.bool (AStepD.eql rfl rfl rfl) (c := true) (by simp))) ?_ | refine AL.gmay2 rfl rfl rfl rfl rfl rfl (fun _ hb => by (try (apply AStepD.uncond 42 rfl (gpf hb))); exact (by exact AStepD.bool (AStepD.eql rfl rfl rfl) (c := true) (by simp))) ?_
  refine AL.step rfl rfl rfl qW224 ?_
  refine AL.step rfl rfl rfl qW16 ?_
  first | refine AL.gstep rfl rfl rfl rfl rfl rfl rfl qW16 ?_ | refine AL.gskip rfl rfl rfl rfl rfl rfl rfl ?_ | refine AL.gnone rfl rfl rfl rfl rfl ?_ | refine AL.gmay rfl rfl rfl rfl rfl rfl (fun hb => by (try (apply AStepD.uncond 8 rfl (gpf hb))); exact qW16) ?_ | refine AL.gmay2 rfl rfl rfl rfl rfl rfl (fun _ hb => by (try (apply AStepD.uncond 8 rfl (gpf hb))); exact qW16) ?_
  first | refine AL.gstep rfl rfl rfl rfl rfl rfl rfl (by exact AStepD.bool (AStepD.eql rfl rfl rfl) (c := true) (by simp)) ?_ | refine AL.gskip rfl rfl rfl rfl rfl rfl rfl ?_ | refine AL.gnone rfl rfl rfl rfl rfl ?_ | refine AL.gmay rfl rfl rfl rfl rfl rfl (fun hb => by (try (apply AStepD.uncond 46 rfl (gpf hb))); exact (by exact AStepD.bool (AStepD.eql rfl rfl rfl) (c := true) (by simp))) ?_ | refine AL.gmay2 rfl rfl rfl rfl rfl rfl (fun _ hb => by (try (apply AStepD.uncond 46 rfl (gpf hb))); exact (by exact AStepD.bool (AStepD.eql rfl rfl rfl) (c := true) (by simp))) ?_
  refine AL.step rfl rfl rfl qW224 ?_
  refine AL.step rfl rfl rfl qW15 ?_
  refine AL.nil_then (hK _ _ ?_); clear hK K
  refine AW.ret (RetQ.mk (.inr rfl) (retA_tmp rfl qW11 retA_nil) ⟨rfl, qW12⟩)

set_option maxHeartbeats 2000000 in
theorem parses_law (H : AHeap) (t : List UInt8) : ACalls Tryd.prog 3 [strA t] H (fun r _ => r = .v (.bool true)) := by
  refine ACalls.of_body tok Tryd.func3 rfl Tryd.ntmps3 (Nat.le_of_ble_eq_true rfl) (fun base => ?_)
  refine AW.seq_region (fun K hK => ?_)
  refine AL.step rfl rfl rfl qW15 ?_
  refine AL.nil_then (hK _ _ ?_); clear hK K
  refine AW.seq_k (fun K1 hK1 => ?_)
  refine AW.seq_region (fun K hK => ?_)
  refine AL.step rfl rfl rfl (by exact AStepD.callf rfl en7 rfl (anchor_calls _)) ?_
  refine AL.step rfl rfl rfl (by first | exact AStepD.not rfl rfl | exact AStepD.neg rfl rfl (by first | exact IntWalk.i64_in _ (by omega) | exact IntWalk.i64_in _ (by simp only [Bool.or_eq_true, Bool.and_eq_true, Bool.or_eq_false_iff, Bool.and_eq_false_iff, Bool.not_eq_true', Bool.not_eq_false', decide_eq_true_eq, decide_eq_false_iff_not, Int.not_lt, Int.not_le, beq_iff_eq] at *; omega) | exact rfl)) ?_
  refine AL.nil_then (hK _ _ ?_); clear hK K
  refine AW.cond_false rfl rfl (AW.skip ?_)
  refine hK1 _ _ ?_; try clear hK1 K1
  refine AW.seq_k (fun K2 hK2 => ?_)
  refine AW.seq_region (fun K hK => ?_)
  refine AL.step rfl rfl rfl qW16 ?_
  refine AL.step rfl rfl rfl (by exact strA_len tok rfl rfl rfl rfl) ?_
  refine AL.step rfl rfl rfl qW36 ?_
  refine AL.nil_then (hK _ _ ?_); clear hK K
  refine AW.cond _ rfl (fun hc => ?_) (fun hc => ?_)
  · refine AW.seq_region (fun K hK => ?_)
    refine AL.step rfl rfl rfl qW15 ?_
    refine AL.nil_then (hK _ _ ?_); clear hK K
    exact AW.ret (RetQ.mk (.inr rfl) (retA_tmp rfl qW11 retA_nil) rfl)
  have hl : t.length ≤ 9000 := by
    have := of_decide_eq_false hc
    omega
  clear hc
  refine AW.skip ?_
  refine hK2 _ _ ?_; try clear hK2 K2
  refine AW.seq_region (fun K hK => ?_)
  refine AL.step rfl rfl rfl qW16 ?_
  refine AL.step rfl rfl rfl (by exact AStepD.callf rfl en8 rfl (cmd_calls _ t (by omega))) ?_
  refine AL.step rfl rfl rfl qW16 ?_
  refine AL.step rfl rfl rfl qW44 ?_
  refine AL.step rfl rfl rfl qW44 ?_
  refine AL.step rfl rfl rfl qW41 ?_
  refine AL.step0 rfl rfl qW231 ?_
  refine AL.step rfl rfl rfl qW15 ?_
  refine AL.nil_then (hK _ _ ?_); clear hK K
  refine AW.seq_region (fun K hK => ?_)
  refine AL.step rfl rfl rfl qW16 ?_
  refine AL.step rfl rfl rfl (by exact AStepD.callf rfl en9 rfl (refcmd_calls _ t (by omega))) ?_
  refine AL.step rfl rfl rfl qW16 ?_
  refine AL.step rfl rfl rfl qW44 ?_
  refine AL.step rfl rfl rfl qW44 ?_
  refine AL.step rfl rfl rfl qW41 ?_
  refine AL.step0 rfl rfl qW231 ?_
  refine AL.step rfl rfl rfl qW15 ?_
  refine AL.nil_then (hK _ _ ?_); clear hK K
  refine AW.seq_k (fun K3 hK3 => ?_)
  refine AW.seq_k (fun K hK => ?_)
  apply AW.draw mixed [_, _, _, _, _, _, _, _, _] [] [_] [(0, 0), (1, 0), (2, 0), (3, 0), (4, 0), (5, 0), (6, 0), (7, 0), (8, 0)] rfl rfl rfl (by simp only [List.getD_cons_zero, List.getD_cons_succ]; all_goals apply Eq.refl)
  · refine ⟨?_, ?_, ?_, ?_, ?_, ?_, ?_, ?_, ?_⟩
    · refine Ob.mk _ [4] 0 rfl rfl (restr_cons qW11 restr_nil) rfl ?_
      simp only [List.getD_cons_zero, List.getD_cons_succ]
      exact GStep.plain rfl qW16
    · refine Ob.mk _ [6] 0 rfl rfl (restr_cons qW11 restr_nil) rfl ?_
      simp only [List.getD_cons_zero, List.getD_cons_succ]
      exact GStep.plain rfl qW16
    · refine Ob.mk _ [26, 27] 0 rfl rfl (restr_cons qW11 (restr_cons qW11 restr_nil)) rfl ?_
      simp only [List.getD_cons_zero, List.getD_cons_succ]
      exact GStep.plain rfl (by exact AStepD.bool (AStepD.neq rfl rfl rfl) (c := false) (by simp))
    · refine Ob.mk _ [28] 0 rfl rfl (restr_cons qW11 restr_nil) rfl ?_
      simp only [List.getD_cons_zero, List.getD_cons_succ]
      exact GStep.plain rfl qW16
    · refine Ob.mk _ [3, 29] 0 rfl rfl (restr_cons qW11 (restr_cons qW11 restr_nil)) rfl ?_
      simp only [List.getD_cons_zero, List.getD_cons_succ]
      first | exact GStep.yes rfl rfl rfl rfl rfl qW45 | exact GStep.no rfl rfl rfl rfl rfl | exact GStep.none rfl rfl rfl | exact GStep.may rfl rfl rfl rfl qW81 | exact GStep.may2 rfl rfl rfl rfl qW82
    · refine Ob.mk _ [30, 29] 0 rfl rfl (restr_cons qW11 (restr_cons qW11 restr_nil)) rfl ?_
      simp only [List.getD_cons_zero, List.getD_cons_succ]
      first | exact GStep.yes rfl rfl rfl rfl rfl (by exact AStepD.callf rfl en10 rfl (line_calls _ (cmdO t).1)) | exact GStep.no rfl rfl rfl rfl rfl | exact GStep.none rfl rfl rfl | exact GStep.may rfl rfl rfl rfl (fun hb => by (try (apply AStepD.uncond 30 rfl (gpf hb))); exact (by exact AStepD.callf rfl en10 rfl (line_calls _ (cmdO t).1))) | exact GStep.may2 rfl rfl rfl rfl (fun _ hb => by (try (apply AStepD.uncond 30 rfl (gpf hb))); exact (by exact AStepD.callf rfl en10 rfl (line_calls _ (cmdO t).1)))
    · refine Ob.mk _ [5, 29] 0 rfl rfl (restr_cons qW11 (restr_cons qW11 restr_nil)) rfl ?_
      simp only [List.getD_cons_zero, List.getD_cons_succ]
      first | exact GStep.yes rfl rfl rfl rfl rfl qW45 | exact GStep.no rfl rfl rfl rfl rfl | exact GStep.none rfl rfl rfl | exact GStep.may rfl rfl rfl rfl (fun hb => by (try (apply AStepD.uncond 5 rfl (gpf hb))); exact qW45) | exact GStep.may2 rfl rfl rfl rfl (fun _ hb => by (try (apply AStepD.uncond 5 rfl (gpf hb))); exact qW45)
    · refine Ob.mk _ [31, 32, 29] 0 rfl rfl (restr_cons qW11 (restr_cons qW11 (restr_cons qW11 restr_nil))) rfl ?_
      simp only [List.getD_cons_zero, List.getD_cons_succ]
      first | exact GStep.yes rfl rfl rfl rfl rfl (by exact AStepD.bool (ln_neq31 rfl rfl rfl) (c := false) (by simp)) | exact GStep.no rfl rfl rfl rfl rfl | exact GStep.none rfl rfl rfl | exact GStep.may rfl rfl rfl rfl (fun hb => by (try (apply AStepD.uncond 31 rfl (gpf hb))); (try (apply AStepD.uncond 32 rfl (gpf hb))); exact (by exact AStepD.bool (ln_neq31 rfl rfl rfl) (c := false) (by simp))) | exact GStep.may2 rfl rfl rfl rfl (fun _ hb => by (try (apply AStepD.uncond 31 rfl (gpf hb))); (try (apply AStepD.uncond 32 rfl (gpf hb))); exact (by exact AStepD.bool (ln_neq31 rfl rfl rfl) (c := false) (by simp)))
    · refine Ob.mk _ [29, 33] 0 rfl rfl (restr_cons qW11 (restr_cons qW11 restr_nil)) rfl ?_
      simp only [List.getD_cons_zero, List.getD_cons_succ]
      exact GStep.plain rfl qW224
  refine hK _ _ ?_; clear hK K
  refine AW.frame (by simp only [frameAt, putA]; all_goals exact rfl) (by simp only [List.length_cons, List.length_nil, Nat.zero_add, Nat.reduceAdd, List.getD_cons_zero, List.getD_cons_succ]; all_goals apply Eq.refl) ?_
  refine AW.cond_false rfl rfl (AW.skip ?_)
  refine hK3 _ _ ?_; try clear hK3 K3
  refine AW.seq_k (fun K4 hK4 => ?_)
  refine AW.seq_region (fun K hK => ?_)
  refine AL.step rfl rfl rfl qW16 ?_
  refine AL.step rfl rfl rfl qW31 ?_
  refine AL.nil_then (hK _ _ ?_); clear hK K
  refine AW.cond _ rfl (fun hc => ?_) (fun hc => ?_)
  · refine AW.seq_region (fun K hK => ?_)
    refine AL.step rfl rfl rfl qW15 ?_
    refine AL.nil_then (hK _ _ ?_); clear hK K
    exact AW.ret (RetQ.mk (.inr rfl) (retA_tmp rfl qW11 retA_nil) rfl)
  have he : (cmdO t).2 = 0 := by simpa using hc
  clear hc
  obtain ⟨l, hl2⟩ : ∃ l, l = (cmdO t).1 := ⟨_, rfl⟩
  have hO : cmdO t = (l, 0) := Prod.ext hl2.symm he
  obtain ⟨s, s1, s2, s3, s4, s5⟩ := cmd_back hO
  rw [← hl2]
  clear hl2 he hO
  refine AW.skip ?_
  refine hK4 _ _ ?_; try clear hK4 K4
  refine AW.seq_region (fun K hK => ?_)
  refine AL.step rfl rfl rfl qW45 ?_
  refine AL.step rfl rfl rfl (by exact AStepD.val (AStepD.callf rfl en11 rfl (txt_calls _ l s4 (by omega))) (y := .tup [strA s, .v (.int .i64 0)]) (by rw [s1]; rfl)) ?_
  refine AL.step rfl rfl rfl qW16 ?_
  refine AL.step rfl rfl rfl qW44 ?_
  refine AL.step rfl rfl rfl qW44 ?_
  refine AL.step rfl rfl rfl qW15 ?_
  refine AL.step rfl rfl rfl qW15 ?_
  refine AL.nil_then (hK _ _ ?_); clear hK K
  refine AW.seq_region (fun K hK => ?_)
  refine AL.step rfl rfl rfl qW16 ?_
  refine AL.step rfl rfl rfl (by exact AStepD.val (AStepD.callf rfl en8 rfl (cmd_calls _ s (by omega))) (y := .tup [.agg (c l), .v (.int .i64 0)]) (by rw [s3])) ?_
  refine AL.step rfl rfl rfl qW16 ?_
  refine AL.step rfl rfl rfl qW44 ?_
  refine AL.step rfl rfl rfl qW44 ?_
  refine AL.step rfl rfl rfl qW41 ?_
  refine AL.step0 rfl rfl qW231 ?_
  refine AL.step rfl rfl rfl qW15 ?_
  refine AL.nil_then (hK _ _ ?_); clear hK K
  refine AW.seq_region (fun K hK => ?_)
  refine AL.step rfl rfl rfl qW16 ?_
  refine AL.step rfl rfl rfl (by exact AStepD.bool (AStepD.eql rfl rfl rfl) (c := true) (by simp)) ?_
  refine AL.step rfl rfl rfl qW16 ?_
  first | refine AL.gstep rfl rfl rfl rfl rfl rfl rfl qW16 ?_ | refine AL.gskip rfl rfl rfl rfl rfl rfl rfl ?_ | refine AL.gnone rfl rfl rfl rfl rfl ?_ | refine AL.gmay rfl rfl rfl rfl rfl rfl (fun hb => by (try (apply AStepD.uncond 10 rfl (gpf hb))); exact qW16) ?_ | refine AL.gmay2 rfl rfl rfl rfl rfl rfl (fun _ hb => by (try (apply AStepD.uncond 10 rfl (gpf hb))); exact qW16) ?_
  first | refine AL.gstep rfl rfl rfl rfl rfl rfl rfl (by exact AStepD.bool (AStepD.eql rfl rfl rfl) (c := true) (by simp)) ?_ | refine AL.gskip rfl rfl rfl rfl rfl rfl rfl ?_ | refine AL.gnone rfl rfl rfl rfl rfl ?_ | refine AL.gmay rfl rfl rfl rfl rfl rfl (fun hb => by (try (apply AStepD.uncond 50 rfl (gpf hb))); exact (by exact AStepD.bool (AStepD.eql rfl rfl rfl) (c := true) (by simp))) ?_ | refine AL.gmay2 rfl rfl rfl rfl rfl rfl (fun _ hb => by (try (apply AStepD.uncond 50 rfl (gpf hb))); exact (by exact AStepD.bool (AStepD.eql rfl rfl rfl) (c := true) (by simp))) ?_
  refine AL.step rfl rfl rfl qW224 ?_
  refine AL.step rfl rfl rfl qW16 ?_
  first | refine AL.gstep rfl rfl rfl rfl rfl rfl rfl qW45 ?_ | refine AL.gskip rfl rfl rfl rfl rfl rfl rfl ?_ | refine AL.gnone rfl rfl rfl rfl rfl ?_ | refine AL.gmay rfl rfl rfl rfl rfl rfl (fun hb => by (try (apply AStepD.uncond 9 rfl (gpf hb))); exact qW45) ?_ | refine AL.gmay2 rfl rfl rfl rfl rfl rfl (fun _ hb => by (try (apply AStepD.uncond 9 rfl (gpf hb))); exact qW45) ?_
  first | refine AL.gstep rfl rfl rfl rfl rfl rfl rfl qW45 ?_ | refine AL.gskip rfl rfl rfl rfl rfl rfl rfl ?_ | refine AL.gnone rfl rfl rfl rfl rfl ?_ | refine AL.gmay rfl rfl rfl rfl rfl rfl qW81 ?_ | refine AL.gmay2 rfl rfl rfl rfl rfl rfl qW82 ?_
  first | refine AL.gstep rfl rfl rfl rfl rfl rfl rfl (by exact AStepD.bool (ln_eql26 rfl rfl rfl) (c := true) (by simp)) ?_ | refine AL.gskip rfl rfl rfl rfl rfl rfl rfl ?_ | refine AL.gnone rfl rfl rfl rfl rfl ?_ | refine AL.gmay rfl rfl rfl rfl rfl rfl (fun hb => by (try (apply AStepD.uncond 54 rfl (gpf hb))); (try (apply AStepD.uncond 55 rfl (gpf hb))); exact (by exact AStepD.bool (ln_eql26 rfl rfl rfl) (c := true) (by simp))) ?_ | refine AL.gmay2 rfl rfl rfl rfl rfl rfl (fun _ hb => by (try (apply AStepD.uncond 54 rfl (gpf hb))); (try (apply AStepD.uncond 55 rfl (gpf hb))); exact (by exact AStepD.bool (ln_eql26 rfl rfl rfl) (c := true) (by simp))) ?_
  refine AL.step rfl rfl rfl qW224 ?_
  refine AL.step rfl rfl rfl qW16 ?_
  first | refine AL.gstep rfl rfl rfl rfl rfl rfl rfl qW16 ?_ | refine AL.gskip rfl rfl rfl rfl rfl rfl rfl ?_ | refine AL.gnone rfl rfl rfl rfl rfl ?_ | refine AL.gmay rfl rfl rfl rfl rfl rfl (fun hb => by (try (apply AStepD.uncond 7 rfl (gpf hb))); exact qW16) ?_ | refine AL.gmay2 rfl rfl rfl rfl rfl rfl (fun _ hb => by (try (apply AStepD.uncond 7 rfl (gpf hb))); exact qW16) ?_
  first | refine AL.gstep rfl rfl rfl rfl rfl rfl rfl (by exact strA_len tok rfl rfl rfl rfl) ?_ | refine AL.gskip rfl rfl rfl rfl rfl rfl rfl ?_ | refine AL.gnone rfl rfl rfl rfl rfl ?_ | refine AL.gmay rfl rfl rfl rfl rfl rfl (fun hb => by (try (apply AStepD.uncond 59 rfl (gpf hb))); exact (by exact strA_len tok rfl rfl rfl rfl)) ?_ | refine AL.gmay2 rfl rfl rfl rfl rfl rfl (fun _ hb => by (try (apply AStepD.uncond 59 rfl (gpf hb))); exact (by exact strA_len tok rfl rfl rfl rfl)) ?_
  first | refine AL.gstep rfl rfl rfl rfl rfl rfl rfl qW16 ?_ | refine AL.gskip rfl rfl rfl rfl rfl rfl rfl ?_ | refine AL.gnone rfl rfl rfl rfl rfl ?_ | refine AL.gmay rfl rfl rfl rfl rfl rfl qW32 ?_ | refine AL.gmay2 rfl rfl rfl rfl rfl rfl qW33 ?_
  first | refine AL.gstep rfl rfl rfl rfl rfl rfl rfl (by exact strA_len tok rfl rfl rfl rfl) ?_ | refine AL.gskip rfl rfl rfl rfl rfl rfl rfl ?_ | refine AL.gnone rfl rfl rfl rfl rfl ?_ | refine AL.gmay rfl rfl rfl rfl rfl rfl (fun hb => by (try (apply AStepD.uncond 61 rfl (gpf hb))); exact (by exact strA_len tok rfl rfl rfl rfl)) ?_ | refine AL.gmay2 rfl rfl rfl rfl rfl rfl (fun _ hb => by (try (apply AStepD.uncond 61 rfl (gpf hb))); exact (by exact strA_len tok rfl rfl rfl rfl)) ?_
  first | refine AL.gstep rfl rfl rfl rfl rfl rfl rfl (by exact AStepD.bool (AStepD.eql rfl rfl rfl) (c := true) (decide_eq_true (by omega))) ?_ | refine AL.gskip rfl rfl rfl rfl rfl rfl rfl ?_ | refine AL.gnone rfl rfl rfl rfl rfl ?_ | refine AL.gmay rfl rfl rfl rfl rfl rfl (fun hb => by (try (apply AStepD.uncond 60 rfl (gpf hb))); (try (apply AStepD.uncond 62 rfl (gpf hb))); exact (by exact AStepD.bool (AStepD.eql rfl rfl rfl) (c := true) (decide_eq_true (by omega)))) ?_ | refine AL.gmay2 rfl rfl rfl rfl rfl rfl (fun _ hb => by (try (apply AStepD.uncond 60 rfl (gpf hb))); (try (apply AStepD.uncond 62 rfl (gpf hb))); exact (by exact AStepD.bool (AStepD.eql rfl rfl rfl) (c := true) (decide_eq_true (by omega)))) ?_
  refine AL.step rfl rfl rfl qW224 ?_
  refine AL.step rfl rfl rfl qW15 ?_
  refine AL.nil_then (hK _ _ ?_); clear hK K
  exact AW.ret (RetQ.mk (.inr rfl) (retA_tmp rfl qW11 retA_nil) rfl)

set_option maxHeartbeats 2000000 in
theorem texts_law (H : AHeap) (l : Ln) (hid : -9223372036854775808 ≤ l.id ∧ l.id ≤ 9223372036854775807) : ACalls Tryd.prog 4 [.agg (c l)] H (fun r _ => r = .v (.bool true)) := by
  refine ACalls.of_body tok Tryd.func4 rfl Tryd.ntmps4 (Nat.le_of_ble_eq_true rfl) (fun base => ?_)
  refine AW.seq_region (fun K hK => ?_)
  refine AL.step rfl rfl rfl qW226 ?_
  refine AL.step rfl rfl rfl qW15 ?_
  refine AL.nil_then (hK _ _ ?_); clear hK K
  refine AW.seq_k (fun K1 hK1 => ?_)
  refine AW.seq_region (fun K hK => ?_)
  refine AL.step rfl rfl rfl (by exact AStepD.callf rfl en7 rfl (anchor_calls _)) ?_
  refine AL.step rfl rfl rfl (by first | exact AStepD.not rfl rfl | exact AStepD.neg rfl rfl (by first | exact IntWalk.i64_in _ (by omega) | exact IntWalk.i64_in _ (by simp only [Bool.or_eq_true, Bool.and_eq_true, Bool.or_eq_false_iff, Bool.and_eq_false_iff, Bool.not_eq_true', Bool.not_eq_false', decide_eq_true_eq, decide_eq_false_iff_not, Int.not_lt, Int.not_le, beq_iff_eq] at *; omega) | exact rfl)) ?_
  refine AL.nil_then (hK _ _ ?_); clear hK K
  refine AW.cond_false rfl rfl (AW.skip ?_)
  refine hK1 _ _ ?_; try clear hK1 K1
  refine AW.seq_k (fun K2 hK2 => ?_)
  refine AW.seq_region (fun K hK => ?_)
  refine AL.step rfl rfl rfl qW72 ?_
  refine AL.step rfl rfl rfl qW234 ?_
  refine AL.step rfl rfl rfl (by exact strA_len tok rfl rfl rfl rfl) ?_
  refine AL.step rfl rfl rfl qW36 ?_
  refine AL.nil_then (hK _ _ ?_); clear hK K
  refine AW.cond _ rfl (fun hc => ?_) (fun hc => ?_)
  · refine AW.seq_region (fun K hK => ?_)
    refine AL.step rfl rfl rfl qW15 ?_
    refine AL.nil_then (hK _ _ ?_); clear hK K
    exact AW.ret (RetQ.mk (.inr rfl) (retA_tmp rfl qW11 retA_nil) rfl)
  have hkey : l.key.length ≤ 100000 := by
    have := of_decide_eq_false hc
    omega
  clear hc
  refine AW.skip ?_
  refine hK2 _ _ ?_; try clear hK2 K2
  refine AW.seq_region (fun K hK => ?_)
  refine AL.step rfl rfl rfl qW45 ?_
  refine AL.step rfl rfl rfl (by exact AStepD.callf rfl en11 rfl (txt_calls _ l hid (by omega))) ?_
  refine AL.step rfl rfl rfl qW16 ?_
  refine AL.step rfl rfl rfl qW44 ?_
  refine AL.step rfl rfl rfl qW44 ?_
  refine AL.step rfl rfl rfl qW15 ?_
  refine AL.step rfl rfl rfl qW15 ?_
  refine AL.nil_then (hK _ _ ?_); clear hK K
  refine AW.seq_region (fun K hK => ?_)
  refine AL.step rfl rfl rfl qW45 ?_
  refine AL.step rfl rfl rfl (by exact AStepD.callf rfl en10 rfl (line_calls _ l)) ?_
  refine AL.step rfl rfl rfl (by exact AStepD.callf rfl en12 rfl (reftxt_calls _ l hid hkey)) ?_
  refine AL.step rfl rfl rfl qW16 ?_
  refine AL.step rfl rfl rfl qW44 ?_
  refine AL.step rfl rfl rfl qW44 ?_
  refine AL.step rfl rfl rfl qW15 ?_
  refine AL.step rfl rfl rfl qW15 ?_
  refine AL.nil_then (hK _ _ ?_); clear hK K
  refine AW.seq_k (fun K3 hK3 => ?_)
  refine AW.seq_region (fun K hK => ?_)
  refine AL.step rfl rfl rfl qW16 ?_
  refine AL.step rfl rfl rfl (by first | exact AStepD.not rfl rfl | exact AStepD.neg rfl rfl (by first | exact IntWalk.i64_in _ (by omega) | exact IntWalk.i64_in _ (by simp only [Bool.or_eq_true, Bool.and_eq_true, Bool.or_eq_false_iff, Bool.and_eq_false_iff, Bool.not_eq_true', Bool.not_eq_false', decide_eq_true_eq, decide_eq_false_iff_not, Int.not_lt, Int.not_le, beq_iff_eq] at *; omega) | exact rfl)) ?_
  refine AL.nil_then (hK _ _ ?_); clear hK K
  cases hO : txtO l with
  | none =>
    refine AW.cond_true rfl rfl ?_
    refine AW.seq_region (fun K hK => ?_)
    refine AL.step rfl rfl rfl qW16 ?_
    refine AL.step rfl rfl rfl (by exact AStepD.bool (AStepD.eql rfl rfl rfl) (c := true) (by simp)) ?_
    refine AL.step rfl rfl rfl qW16 ?_
    first | refine AL.gstep rfl rfl rfl rfl rfl rfl rfl qW16 ?_ | refine AL.gskip rfl rfl rfl rfl rfl rfl rfl ?_ | refine AL.gnone rfl rfl rfl rfl rfl ?_ | refine AL.gmay rfl rfl rfl rfl rfl rfl qW83 ?_ | refine AL.gmay2 rfl rfl rfl rfl rfl rfl qW84 ?_
    first | refine AL.gstep rfl rfl rfl rfl rfl rfl rfl (by exact AStepD.bool (AStepD.str_eql rfl rfl rfl) (c := true) rfl) ?_ | refine AL.gskip rfl rfl rfl rfl rfl rfl rfl ?_ | refine AL.gnone rfl rfl rfl rfl rfl ?_ | refine AL.gmay rfl rfl rfl rfl rfl rfl (fun hb => by (try (apply AStepD.uncond 29 rfl (gpf hb))); exact (by exact AStepD.bool (AStepD.str_eql rfl rfl rfl) (c := true) rfl)) ?_ | refine AL.gmay2 rfl rfl rfl rfl rfl rfl (fun _ hb => by (try (apply AStepD.uncond 29 rfl (gpf hb))); exact (by exact AStepD.bool (AStepD.str_eql rfl rfl rfl) (c := true) rfl)) ?_
    refine AL.step rfl rfl rfl qW224 ?_
    refine AL.step rfl rfl rfl qW15 ?_
    refine AL.nil_then (hK _ _ ?_); clear hK K
    exact AW.ret (RetQ.mk (.inr rfl) (retA_tmp rfl qW11 retA_nil) rfl)
  | some t =>
    have hr := (txt_ref hO).1
    refine AW.cond_false rfl rfl (AW.skip ?_)
    refine hK3 _ _ ?_; try clear hK3 K3
    refine AW.seq_region (fun K hK => ?_)
    refine AL.step rfl rfl rfl qW16 ?_
    refine AL.step rfl rfl rfl (by exact AStepD.bool (AStepD.eql rfl rfl rfl) (c := true) (by simp)) ?_
    refine AL.step rfl rfl rfl qW16 ?_
    first | refine AL.gstep rfl rfl rfl rfl rfl rfl rfl qW16 ?_ | refine AL.gskip rfl rfl rfl rfl rfl rfl rfl ?_ | refine AL.gnone rfl rfl rfl rfl rfl ?_ | refine AL.gmay rfl rfl rfl rfl rfl rfl qW83 ?_ | refine AL.gmay2 rfl rfl rfl rfl rfl rfl qW84 ?_
    first | refine AL.gstep rfl rfl rfl rfl rfl rfl rfl qW16 ?_ | refine AL.gskip rfl rfl rfl rfl rfl rfl rfl ?_ | refine AL.gnone rfl rfl rfl rfl rfl ?_ | refine AL.gmay rfl rfl rfl rfl rfl rfl qW48 ?_ | refine AL.gmay2 rfl rfl rfl rfl rfl rfl qW49 ?_
    first | refine AL.gstep rfl rfl rfl rfl rfl rfl rfl (by exact AStepD.bool (AStepD.str_eql rfl rfl rfl) (c := true) (by rw [hr]; simp)) ?_ | refine AL.gskip rfl rfl rfl rfl rfl rfl rfl ?_ | refine AL.gnone rfl rfl rfl rfl rfl ?_ | refine AL.gmay rfl rfl rfl rfl rfl rfl (fun hb => by (try (apply AStepD.uncond 35 rfl (gpf hb))); (try (apply AStepD.uncond 36 rfl (gpf hb))); exact (by exact AStepD.bool (AStepD.str_eql rfl rfl rfl) (c := true) (by rw [hr]; simp))) ?_ | refine AL.gmay2 rfl rfl rfl rfl rfl rfl (fun _ hb => by (try (apply AStepD.uncond 35 rfl (gpf hb))); (try (apply AStepD.uncond 36 rfl (gpf hb))); exact (by exact AStepD.bool (AStepD.str_eql rfl rfl rfl) (c := true) (by rw [hr]; simp))) ?_
    refine AL.step rfl rfl rfl qW224 ?_
    refine AL.step rfl rfl rfl qW15 ?_
    refine AL.nil_then (hK _ _ ?_); clear hK K
    exact AW.ret (RetQ.mk (.inr rfl) (retA_tmp rfl qW11 retA_nil) rfl)
end Go.Proofs.YtlkbckffeegikaaDoor

/- The laws CommandCases, CommandMore. -/

namespace Go.Proofs.YtlkbckffeegikaaDoor
open Go.Ax
open Cel (c)
theorem qW91 {p : Prop} (h : p := by exact (fun hb => by (try (apply AStepD.uncond 1 rfl (gpf hb))); exact qW16)) : p := h
theorem qW92 {p : Prop} (h : p := by exact (fun _ hb => by (try (apply AStepD.uncond 1 rfl (gpf hb))); exact qW16)) : p := h
theorem qW93 {p : Prop} (h : p := by exact (fun hb => by (try (apply AStepD.uncond 8 rfl (gpf hb))); exact qW16)) : p := h
theorem qW94 {p : Prop} (h : p := by exact (fun _ hb => by (try (apply AStepD.uncond 8 rfl (gpf hb))); exact qW16)) : p := h
theorem qW95 {p : Prop} (h : p := by exact (fun hb => by (try (apply AStepD.uncond 48 rfl (gpf hb))); (try (apply AStepD.uncond 49 rfl (gpf hb))); exact qW223)) : p := h
theorem qW96 {p : Prop} (h : p := by exact (fun _ hb => by (try (apply AStepD.uncond 48 rfl (gpf hb))); (try (apply AStepD.uncond 49 rfl (gpf hb))); exact qW223)) : p := h
theorem qW97 {p : Prop} (h : p := by exact (fun hb => by (try (apply AStepD.uncond 50 rfl (gpf hb))); exact qW234)) : p := h
theorem qW98 {p : Prop} (h : p := by exact (fun _ hb => by (try (apply AStepD.uncond 50 rfl (gpf hb))); exact qW234)) : p := h
theorem qW99 {p : Prop} (h : p := by exact (fun hb => by (try (apply AStepD.uncond 2 rfl (gpf hb))); exact qW233)) : p := h
theorem qW910 {p : Prop} (h : p := by exact (fun _ hb => by (try (apply AStepD.uncond 2 rfl (gpf hb))); exact qW233)) : p := h
theorem qW911 {p : Prop} (h : p := by exact (fun hb => by (try (apply AStepD.uncond 24 rfl (gpf hb))); exact qW234)) : p := h
theorem qW912 {p : Prop} (h : p := by exact (fun _ hb => by (try (apply AStepD.uncond 24 rfl (gpf hb))); exact qW234)) : p := h
theorem qW913 {p : Prop} (h : p := by exact (fun hb => by (try (apply AStepD.uncond 25 rfl (gpf hb))); exact qW218)) : p := h
theorem qW914 {p : Prop} (h : p := by exact (fun _ hb => by (try (apply AStepD.uncond 25 rfl (gpf hb))); exact qW218)) : p := h
theorem qW915 {p : Prop} (h : p := by exact (fun hb => by (try (apply AStepD.uncond 30 rfl (gpf hb))); exact qW36)) : p := h
theorem qW916 {p : Prop} (h : p := by exact (fun _ hb => by (try (apply AStepD.uncond 30 rfl (gpf hb))); exact qW36)) : p := h
theorem qW917 {p : Prop} (h : p := by exact (fun hb => by (try (apply AStepD.uncond 35 rfl (gpf hb))); exact qW36)) : p := h
theorem qW918 {p : Prop} (h : p := by exact (fun _ hb => by (try (apply AStepD.uncond 35 rfl (gpf hb))); exact qW36)) : p := h
set_option linter.unusedSimpArgs false
set_option linter.unusedVariables false

/-- How a written line looks. -/
theorem txt_shape {l : Ln} {t : List UInt8} (h : txtO l = some t) : ∃ w ∈ wordsL, ∃ two z, (two = false → z = []) ∧ t = w.name ++ (if two then 32 :: z else []) ∧ l.kind = (w.kind : Nat) ∧ argsO w.args two z = some (l.id, l.set, l.key) ∧ t.length ≤ 8192 := by
  have hc := (txt_ref h).2
  obtain ⟨h1, w, hw, hn, hk, ha⟩ := cmd_sound hc
  obtain ⟨p1, p2⟩ := cut_parts t
  refine ⟨w, hw, _, _, p2, ?_, hk, ha, h1⟩
  rw [txtO, txtT, kind_find hw hk] at h
  simp only [Option.map_some] at h
  split at h
  · cases h
    exact congrArg _ (args_text hw p2 ha)
  · cases h

set_option maxHeartbeats 4000000 in
theorem cases_law (H : AHeap) (l : Ln) (fl : List Bool) (hid : -9223372036854775808 ≤ l.id ∧ l.id ≤ 9223372036854775807) : ACalls Tryd.prog 5 [.agg (c l), vecA fl] H (fun r _ => r = .v (.bool true)) := by
  refine ACalls.of_body tok Tryd.func5 rfl Tryd.ntmps5 (Nat.le_of_ble_eq_true rfl) (fun base => ?_)
  refine AW.seq_region (fun K hK => ?_)
  refine AL.step rfl rfl rfl qW226 ?_
  refine AL.step rfl rfl rfl qW15 ?_
  refine AL.nil_then (hK _ _ ?_); clear hK K
  refine AW.seq_k (fun K1 hK1 => ?_)
  refine AW.seq_region (fun K hK => ?_)
  refine AL.step rfl rfl rfl (by exact AStepD.callf rfl en7 rfl (anchor_calls _)) ?_
  refine AL.step rfl rfl rfl (by first | exact AStepD.not rfl rfl | exact AStepD.neg rfl rfl (by first | exact IntWalk.i64_in _ (by omega) | exact IntWalk.i64_in _ (by simp only [Bool.or_eq_true, Bool.and_eq_true, Bool.or_eq_false_iff, Bool.and_eq_false_iff, Bool.not_eq_true', Bool.not_eq_false', decide_eq_true_eq, decide_eq_false_iff_not, Int.not_lt, Int.not_le, beq_iff_eq] at *; omega) | exact rfl)) ?_
  refine AL.nil_then (hK _ _ ?_); clear hK K
  refine AW.cond_false rfl rfl (AW.skip ?_)
  refine hK1 _ _ ?_; try clear hK1 K1
  refine AW.seq_k (fun K2 hK2 => ?_)
  refine AW.seq_region (fun K hK => ?_)
  refine AL.step rfl rfl rfl qW72 ?_
  refine AL.step rfl rfl rfl qW234 ?_
  refine AL.step rfl rfl rfl (by exact strA_len tok rfl rfl rfl rfl) ?_
  refine AL.step rfl rfl rfl qW36 ?_
  refine AL.step rfl rfl rfl qW16 ?_
  first | refine AL.gstep rfl rfl rfl rfl rfl rfl rfl qW16 ?_ | refine AL.gskip rfl rfl rfl rfl rfl rfl rfl ?_ | refine AL.gnone rfl rfl rfl rfl rfl ?_ | refine AL.gmay rfl rfl rfl rfl rfl rfl qW91 ?_ | refine AL.gmay2 rfl rfl rfl rfl rfl rfl qW92 ?_
  first | refine AL.gstep rfl rfl rfl rfl rfl rfl rfl qW220 ?_ | refine AL.gskip rfl rfl rfl rfl rfl rfl rfl ?_ | refine AL.gnone rfl rfl rfl rfl rfl ?_ | refine AL.gmay rfl rfl rfl rfl rfl rfl qW312 ?_ | refine AL.gmay2 rfl rfl rfl rfl rfl rfl qW313 ?_
  first | refine AL.gstep rfl rfl rfl rfl rfl rfl rfl qW36 ?_ | refine AL.gskip rfl rfl rfl rfl rfl rfl rfl ?_ | refine AL.gnone rfl rfl rfl rfl rfl ?_ | refine AL.gmay rfl rfl rfl rfl rfl rfl qW314 ?_ | refine AL.gmay2 rfl rfl rfl rfl rfl rfl qW315 ?_
  refine AL.step rfl rfl rfl qW224 ?_
  refine AL.nil_then (hK _ _ ?_); clear hK K
  refine AW.cond _ rfl (fun hc => ?_) (fun hc => ?_)
  · refine AW.seq_region (fun K hK => ?_)
    refine AL.step rfl rfl rfl qW15 ?_
    refine AL.nil_then (hK _ _ ?_); clear hK K
    exact AW.ret (RetQ.mk (.inr rfl) (retA_tmp rfl qW11 retA_nil) rfl)
  have hb : l.key.length ≤ 500 ∧ fl.length ≤ 60 := by
    simp only [Bool.or_eq_false_iff, decide_eq_false_iff_not] at hc
    omega
  clear hc
  refine AW.skip ?_
  refine hK2 _ _ ?_; try clear hK2 K2
  refine AW.seq_region (fun K hK => ?_)
  refine AL.step rfl rfl rfl qW45 ?_
  refine AL.step rfl rfl rfl (by exact AStepD.callf rfl en11 rfl (txt_calls _ l hid (by omega))) ?_
  refine AL.step rfl rfl rfl qW16 ?_
  refine AL.step rfl rfl rfl qW44 ?_
  refine AL.step rfl rfl rfl qW44 ?_
  refine AL.step rfl rfl rfl qW15 ?_
  refine AL.step rfl rfl rfl qW15 ?_
  refine AL.nil_then (hK _ _ ?_); clear hK K
  refine AW.seq_k (fun K3 hK3 => ?_)
  refine AW.seq_region (fun K hK => ?_)
  refine AL.step rfl rfl rfl qW16 ?_
  refine AL.step rfl rfl rfl qW31 ?_
  refine AL.nil_then (hK _ _ ?_); clear hK K
  cases hO : txtO l with
  | none =>
    refine AW.cond_true rfl rfl ?_
    refine AW.seq_region (fun K hK => ?_)
    refine AL.step rfl rfl rfl qW16 ?_
    refine AL.step rfl rfl rfl (by exact AStepD.bool (AStepD.str_eql rfl rfl rfl) (c := true) rfl) ?_
    refine AL.step rfl rfl rfl qW15 ?_
    refine AL.nil_then (hK _ _ ?_); clear hK K
    exact AW.ret (RetQ.mk (.inr rfl) (retA_tmp rfl qW11 retA_nil) rfl)
  | some t =>
    obtain ⟨w, hw, two, z, hz, ht, hk, ha, htl⟩ := txt_shape hO
    obtain ⟨b1, b2, b3⟩ := name_big w hw
    have hnl := name_len w hw
    obtain ⟨tail, htail⟩ : ∃ tail, tail = (if two then 32 :: z else [] : List UInt8) := ⟨_, rfl⟩
    rw [← htail] at ht
    have htb : ∀ q r, tail = q :: r → q = 32 := fun q r e => by
      rw [htail] at e
      cases two with
      | true => simp at e; exact e.1.symm
      | false => simp at e
    have hend : ∀ n : List UInt8, bigL n = w.name → (32 : UInt8) ∉ n → cmdO (n ++ tail) = (l, 0) := fun n h1 h2 => by
      have h3 := congrArg List.length h1
      rw [big_len] at h3
      have h4 := congrArg List.length ht
      rw [List.length_append] at h4
      have := cmd_of hw h1 h2 hz (two := two) (by rw [← htail, List.length_append]; omega)
      rw [← htail, ha] at this
      simp only at this
      rw [this, ← hk]
    clear htail hz ha hk hO b1
    refine AW.cond_false rfl rfl (AW.skip ?_)
    refine hK3 _ _ ?_; try clear hK3 K3
    refine AW.seq_region (fun K hK => ?_)
    refine AL.step rfl rfl rfl qW16 ?_
    refine AL.step rfl rfl rfl (by exact strA_bytes rfl rfl (l := t) (by omega)) ?_
    refine AL.step rfl rfl rfl qW15 ?_
    refine AL.nil_then (hK _ _ ?_); clear hK K
    refine AW.seq_k (fun K4 hK4 => ?_)
    refine AW.seq_region (fun K hK => ?_)
    refine AL.step rfl rfl rfl qW16 ?_
    refine AL.step rfl rfl rfl qW220 ?_
    refine AL.step rfl rfl rfl qW16 ?_
    refine AL.nil_then (hK _ _ ?_); clear hK K
    rw [ht]
    have htl3 : w.name.length + tail.length ≤ 8192 := by rw [ht, List.length_append] at htl; exact htl
    clear ht htl
    refine AW.block ?_
    refine AW.loop_at (ι := Nat × List UInt8) (fun x => [(35, .v (.int .i64 (x.1 : Nat))), (34, .v (.int .i64 ((w.name ++ tail).length : Nat))), (7, .sl (H.next + 1) 0 (w.name ++ tail).length 1), (2, .ptr H.next 0), (1, vecA fl)])
      (fun x H' => x.1 ≤ w.name.length ∧ x.2.length = w.name.length ∧ bigL x.2 = w.name ∧ (32 : UInt8) ∉ x.2 ∧ (∀ j, x.1 ≤ j → x.2[j]? = w.name[j]?) ∧ H'.get (H.next + 1) = some (.cells 5 (flat (x.2 ++ tail))) ∧ H'.get H.next = some (.cells 26 (c l)) ∧ H.next + 2 ≤ H'.next)
      (fun x => w.name.length + 1 - x.1) (0, w.name) qW221 ⟨Nat.zero_le _, rfl, (name_big w hw).1, b2, fun _ _ => rfl, qW222, qW222, qW24⟩ ?_
    rintro ⟨i, n⟩ H2 ⟨hi, hnn, hbn, h32, hsame, g1, g0, hnx⟩
    dsimp only at hi hnn hbn h32 hsame g1
    have hfl := flat_len1 (α := UInt8) rfl (n ++ tail)
    have hln : (n ++ tail).length = (w.name ++ tail).length := by rw [List.length_append, List.length_append, hnn]
    have hla : (w.name ++ tail).length = w.name.length + tail.length := List.length_append
    have hexit : ∀ T', SubT T' [(7, .sl (H.next + 1) 0 (w.name ++ tail).length 1), (2, .ptr H.next 0)] → K4 T' H2 := fun T' hT' => by
      have hcmd := hend n hbn h32
      refine hK4 _ _ ?_
      refine AW.sub hT' ?_
      clear hT' hK4 K4 hend hsame
      refine AW.seq_region (fun K hK => ?_)
      refine AL.step rfl rfl rfl qW16 ?_
      refine AL.step rfl rfl rfl (by exact strA_ofbytes (bs := n ++ tail) rfl rfl qW222 (by omega)) ?_
      refine AL.step rfl rfl rfl (by exact AStepD.val (AStepD.callf rfl en8 rfl (cmd_calls _ (n ++ tail) (by omega))) (y := .tup [.agg (c l), .v (.int .i64 0)]) (by rw [hcmd])) ?_
      refine AL.step rfl rfl rfl qW16 ?_
      refine AL.step rfl rfl rfl qW44 ?_
      refine AL.step rfl rfl rfl qW44 ?_
      refine AL.step rfl rfl rfl qW41 ?_
      refine AL.step0 rfl rfl qW231 ?_
      refine AL.step rfl rfl rfl qW15 ?_
      refine AL.nil_then (hK _ _ ?_); clear hK K
      refine AW.seq_region (fun K hK => ?_)
      refine AL.step rfl rfl rfl qW16 ?_
      refine AL.step rfl rfl rfl (by exact AStepD.bool (AStepD.eql rfl rfl rfl) (c := true) (by simp)) ?_
      refine AL.step rfl rfl rfl qW16 ?_
      first | refine AL.gstep rfl rfl rfl rfl rfl rfl rfl qW45 ?_ | refine AL.gskip rfl rfl rfl rfl rfl rfl rfl ?_ | refine AL.gnone rfl rfl rfl rfl rfl ?_ | refine AL.gmay rfl rfl rfl rfl rfl rfl (fun hb => by (try (apply AStepD.uncond 9 rfl (gpf hb))); exact qW45) ?_ | refine AL.gmay2 rfl rfl rfl rfl rfl rfl (fun _ hb => by (try (apply AStepD.uncond 9 rfl (gpf hb))); exact qW45) ?_
      first | refine AL.gstep rfl rfl rfl rfl rfl rfl rfl qW45 ?_ | refine AL.gskip rfl rfl rfl rfl rfl rfl rfl ?_ | refine AL.gnone rfl rfl rfl rfl rfl ?_ | refine AL.gmay rfl rfl rfl rfl rfl rfl (fun hb => by (try (apply AStepD.uncond 2 rfl (gpf hb))); exact qW45) ?_ | refine AL.gmay2 rfl rfl rfl rfl rfl rfl (fun _ hb => by (try (apply AStepD.uncond 2 rfl (gpf hb))); exact qW45) ?_
      first | refine AL.gstep rfl rfl rfl rfl rfl rfl rfl (by exact AStepD.bool (ln_eql26 (a := l) (b := l) rfl rfl rfl) (c := true) (by simp)) ?_ | refine AL.gskip rfl rfl rfl rfl rfl rfl rfl ?_ | refine AL.gnone rfl rfl rfl rfl rfl ?_ | refine AL.gmay rfl rfl rfl rfl rfl rfl (fun hb => by (try (apply AStepD.uncond 69 rfl (gpf hb))); (try (apply AStepD.uncond 70 rfl (gpf hb))); exact (by exact AStepD.bool (ln_eql26 (a := l) (b := l) rfl rfl rfl) (c := true) (by simp))) ?_ | refine AL.gmay2 rfl rfl rfl rfl rfl rfl (fun _ hb => by (try (apply AStepD.uncond 69 rfl (gpf hb))); (try (apply AStepD.uncond 70 rfl (gpf hb))); exact (by exact AStepD.bool (ln_eql26 (a := l) (b := l) rfl rfl rfl) (c := true) (by simp))) ?_
      refine AL.step rfl rfl rfl qW224 ?_
      refine AL.step rfl rfl rfl qW15 ?_
      refine AL.nil_then (hK _ _ ?_); clear hK K
      exact AW.ret (RetQ.mk (.inr rfl) (retA_tmp rfl qW11 retA_nil) rfl)
    refine AW.seq_region (fun K hK => ?_)
    refine AL.step rfl rfl rfl qW25 ?_
    refine AL.nil_then (hK _ _ ?_); clear hK K
    refine AW.seq_k (fun K5 hK5 => ?_)
    refine AW.cond _ rfl (fun hc => ?_) (fun hc => ?_)
    · have hil : i < (n ++ tail).length := by
        have := of_decide_eq_true hc
        omega
      clear hc
      refine AW.skip ?_
      refine hK5 _ _ ?_; try clear hK5 K5
      refine AW.seq_k (fun K6 hK6 => ?_)
      refine AW.block ?_
      refine AW.seq_region (fun K hK => ?_)
      refine AL.step rfl rfl rfl qW16 ?_
      refine AL.step rfl rfl rfl qW15 ?_
      refine AL.nil_then (hK _ _ ?_); clear hK K
      refine AW.seq_k (fun K7 hK7 => ?_)
      refine AW.seq_region (fun K hK => ?_)
      refine AL.step rfl rfl rfl qW16 ?_
      refine AL.step rfl rfl rfl qW16 ?_
      refine AL.step rfl rfl rfl qW223 ?_
      refine AL.step rfl rfl rfl (by exact AStepD.load_cellAt (y := .v (.int .u8 ((n ++ tail)[i].toNat : Int))) tok rfl rfl rfl rfl qW222 rfl (flat_at1 rfl _ i hil _ rfl)) ?_
      refine AL.step rfl rfl rfl qW218 ?_
      refine AL.nil_then (hK _ _ ?_); clear hK K
      by_cases hin : i < n.length
      · have hget : (n ++ tail)[i] = n[i] := List.getElem_append_left hin
        have hgw : n[i] = w.name[i]'(by omega) := by
          have := hsame i (Nat.le_refl _)
          rw [List.getElem?_eq_getElem hin, List.getElem?_eq_getElem (by omega)] at this
          exact Option.some.inj this
        have hlet := b3 _ (List.getElem_mem (l := w.name) (n := i) (by omega))
        rw [← hgw] at hlet
        rw [hget]
        refine AW.cond_false rfl (decide_eq_false (by omega)) (AW.skip ?_)
        refine hK7 _ _ ?_; try clear hK7 K7
        have hgo : ∀ (n' : List UInt8) T' H', SubT T' [(35, .v (.int .i64 (i : Nat))), (34, .v (.int .i64 ((w.name ++ tail).length : Nat))), (7, .sl (H.next + 1) 0 (w.name ++ tail).length 1), (2, .ptr H.next 0), (1, vecA fl)] → n'.length = w.name.length → bigL n' = w.name → (32 : UInt8) ∉ n' → (∀ j, i + 1 ≤ j → n'[j]? = w.name[j]?) → H'.get (H.next + 1) = some (.cells 5 (flat (n' ++ tail))) → H'.get H.next = some (.cells 26 (c l)) → H.next + 2 ≤ H'.next → K6 T' H' := fun n' T' H' hT' q1 q2 q3 q4 q5 q6 q7 => by
          refine hK6 _ _ ?_
          refine AW.sub hT' ?_
          clear hT' hK6 K6 hexit hend
          refine AW.region ?_
          refine AL.step rfl rfl rfl (by first | exact AStepD.add rfl rfl rfl (by first | exact IntWalk.i64_in _ (by omega) | exact IntWalk.i64_in _ (by simp only [Bool.or_eq_true, Bool.and_eq_true, Bool.or_eq_false_iff, Bool.and_eq_false_iff, Bool.not_eq_true', Bool.not_eq_false', decide_eq_true_eq, decide_eq_false_iff_not, Int.not_lt, Int.not_le, beq_iff_eq] at *; omega) | exact rfl) | exact AStepD.str_add rfl rfl rfl (by omega)) ?_
          refine AL.step rfl rfl rfl qW16 ?_
          refine AL.nil ?_
          exact ⟨(i + 1, n'), by show w.name.length + 1 - (i + 1) < w.name.length + 1 - i; omega, qW221, by show i + 1 ≤ w.name.length; omega, q1, q2, q3, q4, q5, q6, q7⟩
        have hsame1 : ∀ j, i + 1 ≤ j → n[j]? = w.name[j]? := fun j hj => hsame j (by omega)
        by_cases hif : i < fl.length
        · refine AW.seq_region (fun K hK => ?_)
          refine AL.step rfl rfl rfl qW16 ?_
          refine AL.step rfl rfl rfl qW16 ?_
          refine AL.step rfl rfl rfl qW220 ?_
          refine AL.step rfl rfl rfl (by exact AStepD.bool (AStepD.lss rfl rfl rfl) (c := true) (decide_eq_true (by omega))) ?_
          refine AL.step rfl rfl rfl qW16 ?_
          first | refine AL.gstep rfl rfl rfl rfl rfl rfl rfl qW16 ?_ | refine AL.gskip rfl rfl rfl rfl rfl rfl rfl ?_ | refine AL.gnone rfl rfl rfl rfl rfl ?_ | refine AL.gmay rfl rfl rfl rfl rfl rfl qW91 ?_ | refine AL.gmay2 rfl rfl rfl rfl rfl rfl qW92 ?_
          first | refine AL.gstep rfl rfl rfl rfl rfl rfl rfl qW16 ?_ | refine AL.gskip rfl rfl rfl rfl rfl rfl rfl ?_ | refine AL.gnone rfl rfl rfl rfl rfl ?_ | refine AL.gmay rfl rfl rfl rfl rfl rfl qW93 ?_ | refine AL.gmay2 rfl rfl rfl rfl rfl rfl qW94 ?_
          first | refine AL.gstep rfl rfl rfl rfl rfl rfl rfl qW223 ?_ | refine AL.gskip rfl rfl rfl rfl rfl rfl rfl ?_ | refine AL.gnone rfl rfl rfl rfl rfl ?_ | refine AL.gmay rfl rfl rfl rfl rfl rfl qW95 ?_ | refine AL.gmay2 rfl rfl rfl rfl rfl rfl qW96 ?_
          first | refine AL.gstep rfl rfl rfl rfl rfl rfl rfl qW234 ?_ | refine AL.gskip rfl rfl rfl rfl rfl rfl rfl ?_ | refine AL.gnone rfl rfl rfl rfl rfl ?_ | refine AL.gmay rfl rfl rfl rfl rfl rfl qW97 ?_ | refine AL.gmay2 rfl rfl rfl rfl rfl rfl qW98 ?_
          refine AL.step rfl rfl rfl qW224 ?_
          refine AL.nil_then (hK _ _ ?_); clear hK K
          refine AW.cond _ rfl (fun hc => ?_) (fun hc => ?_)
          · have h8 : (UInt8.ofNat (n[i].toNat + 32)).toNat = n[i].toNat + 32 := UInt8.toNat_ofNat_of_lt' (show n[i].toNat + 32 < 256 by omega)
            have hbb : bigB (UInt8.ofNat (n[i].toNat + 32)) = bigB n[i] := by
              apply UInt8.toNat_inj.1
              rw [big_toNat, big_toNat, h8, if_pos (by omega), if_neg (by omega)]
              omega
            have hbn2 : bigL (n.set i (UInt8.ofNat (n[i].toNat + 32))) = w.name := by
              rw [← hbn]
              simp only [bigL]
              rw [List.map_set, hbb]
              have : (n.map bigB)[i]'(by simpa using hin) = bigB n[i] := by simp
              rw [← this]
              exact List.set_getElem_self _
            have h322 : (32 : UInt8) ∉ n.set i (UInt8.ofNat (n[i].toNat + 32)) := fun h => by
              rcases List.mem_or_eq_of_mem_set h with q | q
              · exact h32 q
              · have := congrArg UInt8.toNat q
                rw [h8] at this
                have h32n : (32 : UInt8).toNat = 32 := rfl
                omega
            clear hc
            refine AW.region ?_
            refine AL.step rfl rfl rfl qW16 ?_
            refine AL.step rfl rfl rfl qW16 ?_
            refine AL.step rfl rfl rfl qW223 ?_
            refine AL.step rfl rfl rfl (by exact AStepD.load_cellAt (y := .v (.int .u8 (n[i].toNat : Int))) tok rfl rfl rfl rfl qW222 rfl (flat_at1 rfl _ i hil _ (by rw [hget]; rfl))) ?_
            refine AL.step rfl rfl rfl (by exact AStepD.add (r := ((UInt8.ofNat (n[i].toNat + 32)).toNat : Int)) rfl rfl rfl (by rw [h8, Int.natCast_add]; exact IntWalk.u8_in _ (by omega))) ?_
            refine AL.step rfl rfl rfl qW223 ?_
            refine AL.step0 rfl rfl qW231 ?_
            refine AL.nil ?_
            refine hgo (n.set i (UInt8.ofNat (n[i].toNat + 32))) _ _ qW221 (by rw [List.length_set]; exact hnn) hbn2 h322 (fun j hj => by rw [List.getElem?_set_ne (by omega)]; exact hsame1 j hj) ?_ qW222 qW24
            rw [← List.set_append_left _ _ hin, ← flat_put rfl (n ++ tail) i hil (UInt8.ofNat (n[i].toNat + 32)) _ rfl]
            exact qW222
          · refine AW.skip ?_
            exact hgo n _ _ qW221 hnn hbn h32 hsame1 g1 g0 hnx
        · refine AW.seq_region (fun K hK => ?_)
          refine AL.step rfl rfl rfl qW16 ?_
          refine AL.step rfl rfl rfl qW16 ?_
          refine AL.step rfl rfl rfl qW220 ?_
          refine AL.step rfl rfl rfl (by exact AStepD.bool (AStepD.lss rfl rfl rfl) (c := false) (decide_eq_false (by omega))) ?_
          refine AL.step rfl rfl rfl qW16 ?_
          first | refine AL.gstep rfl rfl rfl rfl rfl rfl rfl qW16 ?_ | refine AL.gskip rfl rfl rfl rfl rfl rfl rfl ?_ | refine AL.gnone rfl rfl rfl rfl rfl ?_ | refine AL.gmay rfl rfl rfl rfl rfl rfl qW91 ?_ | refine AL.gmay2 rfl rfl rfl rfl rfl rfl qW92 ?_
          first | refine AL.gstep rfl rfl rfl rfl rfl rfl rfl qW16 ?_ | refine AL.gskip rfl rfl rfl rfl rfl rfl rfl ?_ | refine AL.gnone rfl rfl rfl rfl rfl ?_ | refine AL.gmay rfl rfl rfl rfl rfl rfl qW93 ?_ | refine AL.gmay2 rfl rfl rfl rfl rfl rfl qW94 ?_
          first | refine AL.gstep rfl rfl rfl rfl rfl rfl rfl qW223 ?_ | refine AL.gskip rfl rfl rfl rfl rfl rfl rfl ?_ | refine AL.gnone rfl rfl rfl rfl rfl ?_ | refine AL.gmay rfl rfl rfl rfl rfl rfl qW95 ?_ | refine AL.gmay2 rfl rfl rfl rfl rfl rfl qW96 ?_
          first | refine AL.gstep rfl rfl rfl rfl rfl rfl rfl qW234 ?_ | refine AL.gskip rfl rfl rfl rfl rfl rfl rfl ?_ | refine AL.gnone rfl rfl rfl rfl rfl ?_ | refine AL.gmay rfl rfl rfl rfl rfl rfl qW97 ?_ | refine AL.gmay2 rfl rfl rfl rfl rfl rfl qW98 ?_
          refine AL.step rfl rfl rfl qW224 ?_
          refine AL.nil_then (hK _ _ ?_); clear hK K
          refine AW.cond_false rfl rfl (AW.skip ?_)
          exact hgo n _ _ qW221 hnn hbn h32 hsame1 g1 g0 hnx
      · have hget : (n ++ tail)[i].toNat = 32 := by
          rw [List.getElem_append_right (by omega)]
          have h0 : 0 < tail.length := by omega
          have hi0 : i - n.length = 0 := by omega
          obtain ⟨q, r, hq⟩ := List.exists_cons_of_length_pos h0
          have h32q := htb q r hq
          simp only [hi0, hq, List.getElem_cons_zero, h32q]
          rfl
        refine AW.cond_true rfl (decide_eq_true (by omega)) ?_
        refine AW.exit ?_
        exact hexit _ qW221
    · refine AW.exit ?_
      exact hexit _ qW221

theorem part_sub (c0 : UInt8) : ∀ (l p : List UInt8), p ∈ splitB c0 l → ∀ b ∈ p, b ∈ l
  | [], p, h, b, hb => by simp [splitB] at h; rw [h] at hb; cases hb
  | a :: r, p, h, b, hb => by
    have ih := part_sub c0 r
    rw [splitB] at h
    split at h
    · rcases List.mem_cons.1 h with rfl | h
      · cases hb
      · exact List.mem_cons_of_mem _ (ih p h b hb)
    · cases hs : splitB c0 r with
      | nil => exact absurd hs (splitB_ne c0 r)
      | cons x t =>
        rw [hs] at h ih
        rcases List.mem_cons.1 h with rfl | h
        · rcases List.mem_cons.1 hb with rfl | hb
          · exact List.mem_cons_self
          · exact List.mem_cons_of_mem _ (ih x (by simp) b hb)
        · exact List.mem_cons_of_mem _ (ih p (by simp [h]) b hb)
theorem seg_digit (x : Nat × Nat) : ∃ b ∈ segT x, isD b = true := by
  have h := (val_dec x.1).1
  simp only [okN, Bool.and_eq_true, decide_eq_true_eq, List.all_eq_true] at h
  obtain ⟨b, hb⟩ := List.exists_mem_of_length_pos h.1.1
  refine ⟨b, ?_, h.1.2 b hb⟩
  rw [segT]
  split
  · exact List.mem_append_left _ hb
  · exact hb
theorem parse_word {z word : List UInt8} (h : ∀ b ∈ word, isD b = false) : parseO (z ++ 32 :: word) = none := by
  cases hp : parseO (z ++ 32 :: word) with
  | none => rfl
  | some u =>
    exfalso
    have ht := text_of_parse hp
    have hne : segsS u ≠ [] := fun e => by
      rw [textS, e] at ht
      simp [Lib.join_nil] at ht
    have hs := congrArg (splitB 32) ht
    rw [split_text hne, split_append] at hs
    obtain ⟨p, hpm⟩ := List.exists_mem_of_ne_nil _ (splitB_ne 32 word)
    have hm : p ∈ (segsS u).map segT := by rw [hs]; exact List.mem_append_right _ hpm
    obtain ⟨x, _, rfl⟩ := List.mem_map.1 hm
    obtain ⟨b, hb, hd⟩ := seg_digit x
    rw [h b (part_sub 32 word _ hpm b hb)] at hd
    cases hd
theorem args3 : ∀ w ∈ wordsL, w.args = 3 → w.kind = 11 := by decide
/-- A word more makes it none. -/
theorem more_word {l : Ln} {t word : List UInt8} (h : txtO l = some t) (hk : l.kind ≠ 11) (hw : ∀ b ∈ word, isD b = false) (hl : (t ++ 32 :: word).length ≤ 8192) : cmdO (t ++ 32 :: word) = (zL, 62) := by
  obtain ⟨w, hwm, two, z, hz, ht, hkw, ha, htl⟩ := txt_shape h
  obtain ⟨b1, b2, _⟩ := name_big w hwm
  obtain ⟨z', hz'⟩ : ∃ z', z' = (if two then z ++ 32 :: word else word) := ⟨_, rfl⟩
  have e : t ++ 32 :: word = w.name ++ (if true = true then 32 :: z' else []) := by
    rw [ht, hz']
    cases two <;> simp
  have hc := cmd_of hwm b1 b2 (two := true) (z := z') (fun q => by cases q) (by rw [← e]; exact hl)
  rw [← e] at hc
  have hno : argsO w.args true z' = none := by
    rcases args_le w hwm with q | q | q | q
    · rw [q]; rfl
    · rw [q, args_1] at ha
      have htwo : two = true := by
        cases two with
        | true => rfl
        | false => simp at ha
      rw [htwo] at hz'
      simp only [if_true] at hz'
      rw [q, args_1, Bool.true_and, (num_same z').1, if_neg]
      rw [decide_eq_true_eq]
      intro hn
      have hok : okN z' = true := by
        cases hq : okN z' with
        | true => rfl
        | false => rw [numR, hq] at hn; simp at hn
      simp only [okN, Bool.and_eq_true, List.all_eq_true] at hok
      have := hok.1.2 32 (by rw [hz']; simp)
      cases this
    · rw [q, args_2] at ha
      have htwo : two = true := by
        cases two with
        | true => rfl
        | false => simp at ha
      rw [htwo] at hz'
      simp only [if_true] at hz'
      rw [q, args_2, hz', parse_word hw]
      rfl
    · have := args3 w hwm q
      rw [hkw, this] at hk
      exact absurd rfl hk
  rw [hc, hno]
theorem blank_ahead {t : List UInt8} (hl : (32 :: t).length ≤ 8192) : cmdO (32 :: t) = (zL, 61) := by
  have hcut := cut_of [] t true (by simp) (fun h => by cases h)
  simp only [List.nil_append, if_true] at hcut
  have hnone : wordsL.find? (fun w => decide (w.name = bigL [])) = none := List.find?_eq_none.2 fun w hw => by
    have := name_pos w hw
    simpa [bigL] using this
  rw [cmdO, if_neg (by omega), hcut, hnone]

set_option maxHeartbeats 4000000 in
theorem more_law (H : AHeap) (l : Ln) (word : List UInt8) (hid : -9223372036854775808 ≤ l.id ∧ l.id ≤ 9223372036854775807) (hkey : l.key.length ≤ 1000000000000000) : ACalls Tryd.prog 6 [.agg (c l), strA word] H (fun r _ => r = .v (.bool true)) := by
  refine ACalls.of_body tok Tryd.func6 rfl Tryd.ntmps6 (Nat.le_of_ble_eq_true rfl) (fun base => ?_)
  refine AW.seq_region (fun K hK => ?_)
  refine AL.step rfl rfl rfl qW226 ?_
  refine AL.step rfl rfl rfl qW15 ?_
  refine AL.nil_then (hK _ _ ?_); clear hK K
  refine AW.seq_k (fun K1 hK1 => ?_)
  refine AW.seq_region (fun K hK => ?_)
  refine AL.step rfl rfl rfl (by exact AStepD.callf rfl en7 rfl (anchor_calls _)) ?_
  refine AL.step rfl rfl rfl (by first | exact AStepD.not rfl rfl | exact AStepD.neg rfl rfl (by first | exact IntWalk.i64_in _ (by omega) | exact IntWalk.i64_in _ (by simp only [Bool.or_eq_true, Bool.and_eq_true, Bool.or_eq_false_iff, Bool.and_eq_false_iff, Bool.not_eq_true', Bool.not_eq_false', decide_eq_true_eq, decide_eq_false_iff_not, Int.not_lt, Int.not_le, beq_iff_eq] at *; omega) | exact rfl)) ?_
  refine AL.nil_then (hK _ _ ?_); clear hK K
  refine AW.cond_false rfl rfl (AW.skip ?_)
  refine hK1 _ _ ?_; try clear hK1 K1
  refine AW.seq_region (fun K hK => ?_)
  refine AL.step rfl rfl rfl qW45 ?_
  refine AL.step rfl rfl rfl (by exact AStepD.callf rfl en11 rfl (txt_calls _ l hid hkey)) ?_
  refine AL.step rfl rfl rfl qW16 ?_
  refine AL.step rfl rfl rfl qW44 ?_
  refine AL.step rfl rfl rfl qW44 ?_
  refine AL.step rfl rfl rfl qW15 ?_
  refine AL.step rfl rfl rfl qW15 ?_
  refine AL.nil_then (hK _ _ ?_); clear hK K
  refine AW.seq_k (fun K2 hK2 => ?_)
  cases hO : txtO l with
  | none =>
    refine AW.seq_region (fun K hK => ?_)
    refine AL.step rfl rfl rfl qW16 ?_
    refine AL.step rfl rfl rfl (by exact AStepD.bool (AStepD.neq rfl rfl rfl) (c := true) (by simp)) ?_
    refine AL.step rfl rfl rfl qW16 ?_
    first | refine AL.gstep rfl rfl rfl rfl rfl rfl rfl qW233 ?_ | refine AL.gskip rfl rfl rfl rfl rfl rfl rfl ?_ | refine AL.gnone rfl rfl rfl rfl rfl ?_ | refine AL.gmay rfl rfl rfl rfl rfl rfl qW99 ?_ | refine AL.gmay2 rfl rfl rfl rfl rfl rfl qW910 ?_
    first | refine AL.gstep rfl rfl rfl rfl rfl rfl rfl qW234 ?_ | refine AL.gskip rfl rfl rfl rfl rfl rfl rfl ?_ | refine AL.gnone rfl rfl rfl rfl rfl ?_ | refine AL.gmay rfl rfl rfl rfl rfl rfl qW911 ?_ | refine AL.gmay2 rfl rfl rfl rfl rfl rfl qW912 ?_
    first | refine AL.gstep rfl rfl rfl rfl rfl rfl rfl qW218 ?_ | refine AL.gskip rfl rfl rfl rfl rfl rfl rfl ?_ | refine AL.gnone rfl rfl rfl rfl rfl ?_ | refine AL.gmay rfl rfl rfl rfl rfl rfl qW913 ?_ | refine AL.gmay2 rfl rfl rfl rfl rfl rfl qW914 ?_
    refine AL.step rfl rfl rfl qW224 ?_
    refine AL.step rfl rfl rfl qW16 ?_
    first | refine AL.gstep rfl rfl rfl rfl rfl rfl rfl qW16 ?_ | refine AL.gskip rfl rfl rfl rfl rfl rfl rfl ?_ | refine AL.gnone rfl rfl rfl rfl rfl ?_ | refine AL.gmay rfl rfl rfl rfl rfl rfl qW91 ?_ | refine AL.gmay2 rfl rfl rfl rfl rfl rfl qW92 ?_
    first | refine AL.gstep rfl rfl rfl rfl rfl rfl rfl qW220 ?_ | refine AL.gskip rfl rfl rfl rfl rfl rfl rfl ?_ | refine AL.gnone rfl rfl rfl rfl rfl ?_ | refine AL.gmay rfl rfl rfl rfl rfl rfl (fun hb => by (try (apply AStepD.uncond 29 rfl (gpf hb))); exact qW220) ?_ | refine AL.gmay2 rfl rfl rfl rfl rfl rfl (fun _ hb => by (try (apply AStepD.uncond 29 rfl (gpf hb))); exact qW220) ?_
    first | refine AL.gstep rfl rfl rfl rfl rfl rfl rfl qW36 ?_ | refine AL.gskip rfl rfl rfl rfl rfl rfl rfl ?_ | refine AL.gnone rfl rfl rfl rfl rfl ?_ | refine AL.gmay rfl rfl rfl rfl rfl rfl qW915 ?_ | refine AL.gmay2 rfl rfl rfl rfl rfl rfl qW916 ?_
    refine AL.step rfl rfl rfl qW224 ?_
    refine AL.step rfl rfl rfl qW16 ?_
    first | refine AL.gstep rfl rfl rfl rfl rfl rfl rfl qW16 ?_ | refine AL.gskip rfl rfl rfl rfl rfl rfl rfl ?_ | refine AL.gnone rfl rfl rfl rfl rfl ?_ | refine AL.gmay rfl rfl rfl rfl rfl rfl qW48 ?_ | refine AL.gmay2 rfl rfl rfl rfl rfl rfl qW49 ?_
    first | refine AL.gstep rfl rfl rfl rfl rfl rfl rfl qW220 ?_ | refine AL.gskip rfl rfl rfl rfl rfl rfl rfl ?_ | refine AL.gnone rfl rfl rfl rfl rfl ?_ | refine AL.gmay rfl rfl rfl rfl rfl rfl (fun hb => by (try (apply AStepD.uncond 34 rfl (gpf hb))); exact qW220) ?_ | refine AL.gmay2 rfl rfl rfl rfl rfl rfl (fun _ hb => by (try (apply AStepD.uncond 34 rfl (gpf hb))); exact qW220) ?_
    first | refine AL.gstep rfl rfl rfl rfl rfl rfl rfl qW36 ?_ | refine AL.gskip rfl rfl rfl rfl rfl rfl rfl ?_ | refine AL.gnone rfl rfl rfl rfl rfl ?_ | refine AL.gmay rfl rfl rfl rfl rfl rfl qW917 ?_ | refine AL.gmay2 rfl rfl rfl rfl rfl rfl qW918 ?_
    refine AL.step rfl rfl rfl qW224 ?_
    refine AL.nil_then (hK _ _ ?_); clear hK K
    refine AW.cond_true rfl rfl ?_
    refine AW.seq_region (fun K hK => ?_)
    refine AL.step rfl rfl rfl qW15 ?_
    refine AL.nil_then (hK _ _ ?_); clear hK K
    exact AW.ret (RetQ.mk (.inr rfl) (retA_tmp rfl qW11 retA_nil) rfl)
  | some t =>
    refine AW.seq_region (fun K hK => ?_)
    refine AL.step rfl rfl rfl qW16 ?_
    refine AL.step rfl rfl rfl (by exact AStepD.bool (AStepD.neq rfl rfl rfl) (c := false) (by simp)) ?_
    refine AL.step rfl rfl rfl qW16 ?_
    first | refine AL.gstep rfl rfl rfl rfl rfl rfl rfl qW233 ?_ | refine AL.gskip rfl rfl rfl rfl rfl rfl rfl ?_ | refine AL.gnone rfl rfl rfl rfl rfl ?_ | refine AL.gmay rfl rfl rfl rfl rfl rfl qW99 ?_ | refine AL.gmay2 rfl rfl rfl rfl rfl rfl qW910 ?_
    first | refine AL.gstep rfl rfl rfl rfl rfl rfl rfl qW234 ?_ | refine AL.gskip rfl rfl rfl rfl rfl rfl rfl ?_ | refine AL.gnone rfl rfl rfl rfl rfl ?_ | refine AL.gmay rfl rfl rfl rfl rfl rfl qW911 ?_ | refine AL.gmay2 rfl rfl rfl rfl rfl rfl qW912 ?_
    first | refine AL.gstep rfl rfl rfl rfl rfl rfl rfl qW218 ?_ | refine AL.gskip rfl rfl rfl rfl rfl rfl rfl ?_ | refine AL.gnone rfl rfl rfl rfl rfl ?_ | refine AL.gmay rfl rfl rfl rfl rfl rfl qW913 ?_ | refine AL.gmay2 rfl rfl rfl rfl rfl rfl qW914 ?_
    refine AL.step rfl rfl rfl qW224 ?_
    refine AL.step rfl rfl rfl qW16 ?_
    first | refine AL.gstep rfl rfl rfl rfl rfl rfl rfl qW16 ?_ | refine AL.gskip rfl rfl rfl rfl rfl rfl rfl ?_ | refine AL.gnone rfl rfl rfl rfl rfl ?_ | refine AL.gmay rfl rfl rfl rfl rfl rfl qW91 ?_ | refine AL.gmay2 rfl rfl rfl rfl rfl rfl qW92 ?_
    first | refine AL.gstep rfl rfl rfl rfl rfl rfl rfl (by exact strA_len tok rfl rfl rfl rfl) ?_ | refine AL.gskip rfl rfl rfl rfl rfl rfl rfl ?_ | refine AL.gnone rfl rfl rfl rfl rfl ?_ | refine AL.gmay rfl rfl rfl rfl rfl rfl (fun hb => by (try (apply AStepD.uncond 29 rfl (gpf hb))); exact (by exact strA_len tok rfl rfl rfl rfl)) ?_ | refine AL.gmay2 rfl rfl rfl rfl rfl rfl (fun _ hb => by (try (apply AStepD.uncond 29 rfl (gpf hb))); exact (by exact strA_len tok rfl rfl rfl rfl)) ?_
    first | refine AL.gstep rfl rfl rfl rfl rfl rfl rfl qW36 ?_ | refine AL.gskip rfl rfl rfl rfl rfl rfl rfl ?_ | refine AL.gnone rfl rfl rfl rfl rfl ?_ | refine AL.gmay rfl rfl rfl rfl rfl rfl qW915 ?_ | refine AL.gmay2 rfl rfl rfl rfl rfl rfl qW916 ?_
    refine AL.step rfl rfl rfl qW224 ?_
    refine AL.step rfl rfl rfl qW16 ?_
    first | refine AL.gstep rfl rfl rfl rfl rfl rfl rfl qW16 ?_ | refine AL.gskip rfl rfl rfl rfl rfl rfl rfl ?_ | refine AL.gnone rfl rfl rfl rfl rfl ?_ | refine AL.gmay rfl rfl rfl rfl rfl rfl qW48 ?_ | refine AL.gmay2 rfl rfl rfl rfl rfl rfl qW49 ?_
    first | refine AL.gstep rfl rfl rfl rfl rfl rfl rfl (by exact strA_len tok rfl rfl rfl rfl) ?_ | refine AL.gskip rfl rfl rfl rfl rfl rfl rfl ?_ | refine AL.gnone rfl rfl rfl rfl rfl ?_ | refine AL.gmay rfl rfl rfl rfl rfl rfl (fun hb => by (try (apply AStepD.uncond 34 rfl (gpf hb))); exact (by exact strA_len tok rfl rfl rfl rfl)) ?_ | refine AL.gmay2 rfl rfl rfl rfl rfl rfl (fun _ hb => by (try (apply AStepD.uncond 34 rfl (gpf hb))); exact (by exact strA_len tok rfl rfl rfl rfl)) ?_
    first | refine AL.gstep rfl rfl rfl rfl rfl rfl rfl qW36 ?_ | refine AL.gskip rfl rfl rfl rfl rfl rfl rfl ?_ | refine AL.gnone rfl rfl rfl rfl rfl ?_ | refine AL.gmay rfl rfl rfl rfl rfl rfl qW917 ?_ | refine AL.gmay2 rfl rfl rfl rfl rfl rfl qW918 ?_
    refine AL.step rfl rfl rfl qW224 ?_
    refine AL.nil_then (hK _ _ ?_); clear hK K
    refine AW.cond _ rfl (fun hc => ?_) (fun hc => ?_)
    · refine AW.seq_region (fun K hK => ?_)
      refine AL.step rfl rfl rfl qW15 ?_
      refine AL.nil_then (hK _ _ ?_); clear hK K
      exact AW.ret (RetQ.mk (.inr rfl) (retA_tmp rfl qW11 retA_nil) rfl)
    have hb : l.kind ≠ 11 ∧ word.length ≤ 100 ∧ t.length ≤ 1000 := by
      simp only [Bool.or_eq_false_iff, decide_eq_false_iff_not] at hc
      obtain ⟨⟨h1, h2⟩, h3⟩ := hc
      simp only [Option.getD_some] at h3
      exact ⟨h1, by omega, by omega⟩
    clear hc
    obtain ⟨hk11, hwl, htl⟩ := hb
    have m1 : (∀ b ∈ word, isD b = false) → cmdO (t ++ [32] ++ word) = (zL, 62) := fun h => by
      rw [List.append_assoc, List.singleton_append]
      exact more_word hO hk11 h (by simp; omega)
    have m2 : cmdO ([32] ++ t) = (zL, 61) := blank_ahead (by simp; omega)
    have m3 : cmdO (t ++ [32]) = (zL, 62) := more_word hO hk11 (word := []) (by simp) (by simp; omega)
    simp only [Option.getD_some]
    clear hO
    refine AW.skip ?_
    refine hK2 _ _ ?_; try clear hK2 K2
    refine AW.seq_k (fun K3 hK3 => ?_)
    refine AW.seq_region (fun K hK => ?_)
    refine AL.step rfl rfl rfl qW16 ?_
    refine AL.step rfl rfl rfl (by exact strA_len tok rfl rfl rfl rfl) ?_
    refine AL.step rfl rfl rfl qW16 ?_
    refine AL.nil_then (hK _ _ ?_); clear hK K
    refine AW.block ?_
    refine AW.loop_at (ι := Nat) (fun i => [(40, .v (.int .i64 (i : Nat))), (39, .v (.int .i64 (word.length : Nat))), (5, strA t), (1, strA word)])
      (fun i H' => i ≤ word.length ∧ ∀ b ∈ word.take i, isD b = false) (fun i => word.length - i) 0 qW221 ⟨Nat.zero_le _, by simp⟩ ?_
    rintro i H2 ⟨hi, hno⟩
    refine AW.seq_region (fun K hK => ?_)
    refine AL.step rfl rfl rfl qW25 ?_
    refine AL.nil_then (hK _ _ ?_); clear hK K
    refine AW.seq_k (fun K4 hK4 => ?_)
    refine AW.cond _ rfl (fun hc => ?_) (fun hc => ?_)
    · have hil : i < word.length := by simpa using hc
      clear hc
      have h8 := at8_elem hil
      refine AW.skip ?_
      refine hK4 _ _ ?_; try clear hK4 K4
      refine AW.seq_k (fun K5 hK5 => ?_)
      refine AW.block ?_
      refine AW.seq_region (fun K hK => ?_)
      refine AL.step rfl rfl rfl qW16 ?_
      refine AL.step rfl rfl rfl qW15 ?_
      refine AL.nil_then (hK _ _ ?_); clear hK K
      refine AW.seq_region (fun K hK => ?_)
      refine AL.step rfl rfl rfl qW16 ?_
      refine AL.step rfl rfl rfl qW16 ?_
      refine AL.step rfl rfl rfl (by exact strA_index (i := i) tok rfl rfl rfl rfl rfl rfl hil) ?_
      refine AL.step rfl rfl rfl qW412 ?_
      refine AL.step rfl rfl rfl qW16 ?_
      first | refine AL.gstep rfl rfl rfl rfl rfl rfl rfl qW16 ?_ | refine AL.gskip rfl rfl rfl rfl rfl rfl rfl ?_ | refine AL.gnone rfl rfl rfl rfl rfl ?_ | refine AL.gmay rfl rfl rfl rfl rfl rfl qW91 ?_ | refine AL.gmay2 rfl rfl rfl rfl rfl rfl qW92 ?_
      first | refine AL.gstep rfl rfl rfl rfl rfl rfl rfl qW16 ?_ | refine AL.gskip rfl rfl rfl rfl rfl rfl rfl ?_ | refine AL.gnone rfl rfl rfl rfl rfl ?_ | refine AL.gmay rfl rfl rfl rfl rfl rfl (fun hb => by (try (apply AStepD.uncond 7 rfl (gpf hb))); exact qW16) ?_ | refine AL.gmay2 rfl rfl rfl rfl rfl rfl (fun _ hb => by (try (apply AStepD.uncond 7 rfl (gpf hb))); exact qW16) ?_
      first | refine AL.gstep rfl rfl rfl rfl rfl rfl rfl (by exact strA_index (i := i) tok rfl rfl rfl rfl rfl rfl hil) ?_ | refine AL.gskip rfl rfl rfl rfl rfl rfl rfl ?_ | refine AL.gnone rfl rfl rfl rfl rfl ?_ | refine AL.gmay rfl rfl rfl rfl rfl rfl (fun hb => by (try (apply AStepD.uncond 48 rfl (gpf hb))); (try (apply AStepD.uncond 49 rfl (gpf hb))); exact (by exact strA_index (i := i) tok rfl rfl rfl rfl rfl rfl hil)) ?_ | refine AL.gmay2 rfl rfl rfl rfl rfl rfl (fun _ hb => by (try (apply AStepD.uncond 48 rfl (gpf hb))); (try (apply AStepD.uncond 49 rfl (gpf hb))); exact (by exact strA_index (i := i) tok rfl rfl rfl rfl rfl rfl hil)) ?_
      first | refine AL.gstep rfl rfl rfl rfl rfl rfl rfl qW29 ?_ | refine AL.gskip rfl rfl rfl rfl rfl rfl rfl ?_ | refine AL.gnone rfl rfl rfl rfl rfl ?_ | refine AL.gmay rfl rfl rfl rfl rfl rfl (fun hb => by (try (apply AStepD.uncond 50 rfl (gpf hb))); exact qW29) ?_ | refine AL.gmay2 rfl rfl rfl rfl rfl rfl (fun _ hb => by (try (apply AStepD.uncond 50 rfl (gpf hb))); exact qW29) ?_
      refine AL.step rfl rfl rfl qW224 ?_
      refine AL.nil_then (hK _ _ ?_); clear hK K
      refine AW.cond _ rfl (fun hc => ?_) (fun hc => ?_)
      · refine AW.seq_region (fun K hK => ?_)
        refine AL.step rfl rfl rfl qW15 ?_
        refine AL.nil_then (hK _ _ ?_); clear hK K
        exact AW.ret (RetQ.mk (.inr rfl) (retA_tmp rfl qW11 retA_nil) rfl)
      have hnd : isD word[i] = false := by
        rw [h8] at hc
        rw [isD, ← hc]
        congr 1
        · exact decide_eq_decide.2 (by omega)
        · exact decide_eq_decide.2 (by omega)
      clear hc
      refine AW.skip ?_
      refine hK5 _ _ ?_; try clear hK5 K5
      refine AW.region ?_
      refine AL.step rfl rfl rfl (by first | exact AStepD.add rfl rfl rfl (by first | exact IntWalk.i64_in _ (by omega) | exact IntWalk.i64_in _ (by simp only [Bool.or_eq_true, Bool.and_eq_true, Bool.or_eq_false_iff, Bool.and_eq_false_iff, Bool.not_eq_true', Bool.not_eq_false', decide_eq_true_eq, decide_eq_false_iff_not, Int.not_lt, Int.not_le, beq_iff_eq] at *; omega) | exact rfl) | exact AStepD.str_add rfl rfl rfl (by omega)) ?_
      refine AL.step rfl rfl rfl qW16 ?_
      refine AL.nil ?_
      refine ⟨i + 1, by omega, qW221, hil, fun b hb => ?_⟩
      rw [List.take_succ_eq_append_getElem hil] at hb
      rcases List.mem_append.1 hb with q | q
      · exact hno b q
      · rw [List.mem_singleton.1 q]; exact hnd
    · have hil : i = word.length := by
        have : ¬ i < word.length := by simpa using hc
        omega
      rw [hil, List.take_length] at hno
      have m1 := m1 hno
      clear hc hno hil hi
      refine AW.exit ?_
      refine hK3 _ _ ?_; try clear hK3 K3
      refine AW.seq_region (fun K hK => ?_)
      refine AL.step rfl rfl rfl qW16 ?_
      refine AL.step rfl rfl rfl (by exact strA_add t [32] rfl rfl rfl (by simp; omega)) ?_
      refine AL.step rfl rfl rfl qW16 ?_
      refine AL.step rfl rfl rfl (by exact strA_add (t ++ [32]) word rfl rfl rfl (by simp; omega)) ?_
      refine AL.step rfl rfl rfl (by exact AStepD.val (AStepD.callf rfl en8 rfl (cmd_calls _ (t ++ [32] ++ word) (by simp; omega))) (y := .tup [.agg (c zL), .v (.int .i64 62)]) (by rw [m1])) ?_
      refine AL.step rfl rfl rfl qW16 ?_
      refine AL.step rfl rfl rfl qW44 ?_
      refine AL.step rfl rfl rfl qW44 ?_
      refine AL.step rfl rfl rfl qW41 ?_
      refine AL.step0 rfl rfl qW231 ?_
      refine AL.step rfl rfl rfl qW15 ?_
      refine AL.nil_then (hK _ _ ?_); clear hK K
      refine AW.seq_region (fun K hK => ?_)
      refine AL.step rfl rfl rfl qW16 ?_
      refine AL.step rfl rfl rfl (by exact strA_add [32] t rfl rfl rfl (by simp; omega)) ?_
      refine AL.step rfl rfl rfl (by exact AStepD.val (AStepD.callf rfl en8 rfl (cmd_calls _ ([32] ++ t) (by simp; omega))) (y := .tup [.agg (c zL), .v (.int .i64 61)]) (by rw [m2])) ?_
      refine AL.step rfl rfl rfl qW16 ?_
      refine AL.step rfl rfl rfl qW44 ?_
      refine AL.step rfl rfl rfl qW44 ?_
      refine AL.step rfl rfl rfl qW41 ?_
      refine AL.step0 rfl rfl qW231 ?_
      refine AL.step rfl rfl rfl qW15 ?_
      refine AL.nil_then (hK _ _ ?_); clear hK K
      refine AW.seq_region (fun K hK => ?_)
      refine AL.step rfl rfl rfl qW16 ?_
      refine AL.step rfl rfl rfl (by exact strA_add t [32] rfl rfl rfl (by simp; omega)) ?_
      refine AL.step rfl rfl rfl (by exact AStepD.val (AStepD.callf rfl en8 rfl (cmd_calls _ (t ++ [32]) (by simp; omega))) (y := .tup [.agg (c zL), .v (.int .i64 62)]) (by rw [m3])) ?_
      refine AL.step rfl rfl rfl qW16 ?_
      refine AL.step rfl rfl rfl qW44 ?_
      refine AL.step rfl rfl rfl qW44 ?_
      refine AL.step rfl rfl rfl qW41 ?_
      refine AL.step0 rfl rfl qW231 ?_
      refine AL.step rfl rfl rfl qW15 ?_
      refine AL.nil_then (hK _ _ ?_); clear hK K
      refine AW.seq_region (fun K hK => ?_)
      refine AL.step rfl rfl rfl qW16 ?_
      refine AL.step rfl rfl rfl (by exact AStepD.bool (AStepD.eql rfl rfl rfl) (c := true) (by simp)) ?_
      refine AL.step rfl rfl rfl qW16 ?_
      first | refine AL.gstep rfl rfl rfl rfl rfl rfl rfl qW16 ?_ | refine AL.gskip rfl rfl rfl rfl rfl rfl rfl ?_ | refine AL.gnone rfl rfl rfl rfl rfl ?_ | refine AL.gmay rfl rfl rfl rfl rfl rfl qW410 ?_ | refine AL.gmay2 rfl rfl rfl rfl rfl rfl qW411 ?_
      first | refine AL.gstep rfl rfl rfl rfl rfl rfl rfl (by exact AStepD.bool (AStepD.eql rfl rfl rfl) (c := true) (by simp)) ?_ | refine AL.gskip rfl rfl rfl rfl rfl rfl rfl ?_ | refine AL.gnone rfl rfl rfl rfl rfl ?_ | refine AL.gmay rfl rfl rfl rfl rfl rfl (fun hb => by (try (apply AStepD.uncond 77 rfl (gpf hb))); exact (by exact AStepD.bool (AStepD.eql rfl rfl rfl) (c := true) (by simp))) ?_ | refine AL.gmay2 rfl rfl rfl rfl rfl rfl (fun _ hb => by (try (apply AStepD.uncond 77 rfl (gpf hb))); exact (by exact AStepD.bool (AStepD.eql rfl rfl rfl) (c := true) (by simp))) ?_
      refine AL.step rfl rfl rfl qW224 ?_
      refine AL.step rfl rfl rfl qW16 ?_
      first | refine AL.gstep rfl rfl rfl rfl rfl rfl rfl qW16 ?_ | refine AL.gskip rfl rfl rfl rfl rfl rfl rfl ?_ | refine AL.gnone rfl rfl rfl rfl rfl ?_ | refine AL.gmay rfl rfl rfl rfl rfl rfl (fun hb => by (try (apply AStepD.uncond 13 rfl (gpf hb))); exact qW16) ?_ | refine AL.gmay2 rfl rfl rfl rfl rfl rfl (fun _ hb => by (try (apply AStepD.uncond 13 rfl (gpf hb))); exact qW16) ?_
      first | refine AL.gstep rfl rfl rfl rfl rfl rfl rfl (by exact AStepD.bool (AStepD.eql rfl rfl rfl) (c := true) (by simp)) ?_ | refine AL.gskip rfl rfl rfl rfl rfl rfl rfl ?_ | refine AL.gnone rfl rfl rfl rfl rfl ?_ | refine AL.gmay rfl rfl rfl rfl rfl rfl (fun hb => by (try (apply AStepD.uncond 81 rfl (gpf hb))); exact (by exact AStepD.bool (AStepD.eql rfl rfl rfl) (c := true) (by simp))) ?_ | refine AL.gmay2 rfl rfl rfl rfl rfl rfl (fun _ hb => by (try (apply AStepD.uncond 81 rfl (gpf hb))); exact (by exact AStepD.bool (AStepD.eql rfl rfl rfl) (c := true) (by simp))) ?_
      refine AL.step rfl rfl rfl qW224 ?_
      refine AL.step rfl rfl rfl qW15 ?_
      refine AL.nil_then (hK _ _ ?_); clear hK K
      exact AW.ret (RetQ.mk (.inr rfl) (retA_tmp rfl qW11 retA_nil) rfl)
end Go.Proofs.YtlkbckffeegikaaDoor
