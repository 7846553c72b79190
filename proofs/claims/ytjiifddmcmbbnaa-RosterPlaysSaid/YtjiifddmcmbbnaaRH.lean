/- The walks of the roster's Get and Forget. -/
import Derived.Test.YtjiifddmcmbbnaaRF
namespace Go.Proofs.Ytjiifddmcmbbnaa
open Go.Ax
theorem qRH1 {p : Prop} (h : p := by first | exact retA_agg rfl rfl rfl qRA6 rfl (show _ = 5 from rfl) qRA12 qRA15 (retA_tmp rfl qRA1 retA_nil) | exact retA_one rfl rfl rfl rfl qRA6 rfl qRA7 (retA_tmp rfl qRA1 retA_nil)) : p := h
set_option linter.unusedSimpArgs false
set_option linter.unusedVariables false

/-- What is told of a member. -/
def getM (ms : List Mem) (w : Int) : Mem := if h : has ms w = true ∧ pos ms w < ms.length then ms[pos ms w] else ⟨0, 0, 0, 0, 0⟩

theorem get_calls (H : AHeap) (n L B : Nat) (r : Ros) (w : Int) (hR : RosAt H n L B r) (hI : Inv r) :
    ACalls Try.prog 16 [.ptr n 0, .v (.int .i64 w)] H (fun v H' => v = .tup [.agg (getM r.ms w).cells, .v (.bool (has r.ms w))] ∧ H' = H) := by
  refine ACalls.quiet_keep ?_ (.tup (by simp only [List.forall_mem_cons]; exact ⟨.agg (Mem.plain _), .v _, fun _ h => absurd h List.not_mem_nil⟩))
  have hR0 := hR
  have h15 := hI.2
  obtain ⟨x0, hn, hM, hB⟩ := hR
  have hx1 := hM.one
  refine ACalls.lts fun hlt => ?_
  have hnl := hlt _ _ hn
  refine ACalls.of_body tok Try.func16 rfl Try.ntmps16 (Nat.le_of_ble_eq_true rfl) ?_
  refine AW.seq_region (fun K hK => ?_)
  refine AL.step rfl rfl rfl (by exact AStepD.alloc tok rfl rfl) ?_
  refine AL.step rfl rfl rfl qRA18 ?_
  refine AL.nil_then (hK _ _ ?_); clear hK K
  refine AW.seq_k (fun K hK => ?_)
  refine AW.seq_region (fun K hK => ?_)
  refine AL.step rfl rfl rfl qRA19 ?_
  refine AL.step rfl rfl rfl qRA19 ?_
  refine AL.step rfl rfl rfl (by exact AStepD.callf rfl en29 rfl (find_calls _ n L B r w (hR0.keep hlt qRA8) hI.1 (by omega))) ?_
  refine AL.step rfl rfl rfl qRA19 ?_
  refine AL.step rfl rfl rfl qRB6 ?_
  refine AL.step rfl rfl rfl qRB6 ?_
  refine AL.step rfl rfl rfl qRA18 ?_
  refine AL.step rfl rfl rfl qRA18 ?_
  refine AL.nil_then (hK _ _ ?_); clear hK K
  refine AW.seq_region (fun K hK => ?_)
  refine AL.step rfl rfl rfl qRA19 ?_
  refine AL.nil_then (hK _ _ ?_); clear hK K
  refine AW.cond _ rfl (fun hc => ?_) (fun hc => ?_)
  · obtain ⟨hp, -⟩ := (has_at hI.1 w).1 hc
    obtain ⟨hxe, hH⟩ := hM.at hp
    have hLl := hlt _ _ hH
    have hfl := flat_length r.ms
    have hfa := flat_at r.ms _ hp
    have hone := (r.ms[pos r.ms w]).one
    have hg : getM r.ms w = r.ms[pos r.ms w] := by rw [getM, dif_pos ⟨hc, hp⟩]
    subst hxe
    generalize hpp : pos r.ms w = p at hp hfa hone hg
    refine AW.seq_region (fun K hK => ?_)
    refine AL.step rfl rfl rfl qRA19 ?_
    refine AL.step rfl rfl rfl qRB3 ?_
    refine AL.step rfl rfl rfl qRD9 ?_
    refine AL.step rfl rfl rfl qRB5 ?_
    refine AL.step rfl rfl rfl qRA19 ?_
    refine AL.step rfl rfl rfl qRA24 ?_
    refine AL.step rfl rfl rfl qRA25 ?_
    refine AL.step0 rfl rfl qRE5 ?_
    refine AL.step rfl rfl rfl qRA18 ?_
    refine AL.nil_then (hK _ _ ?_); clear hK K
    refine AW.ret (RetQ.mk (.inr rfl) qRH1 ⟨?_, qRA8⟩)
    rw [hg, hc]; rfl
  · refine AW.skip (hK _ _ ?_); clear hK K
    have hg : getM r.ms w = ⟨0, 0, 0, 0, 0⟩ := by rw [getM, dif_neg]; rintro ⟨h, _⟩; rw [hc] at h; cases h
    refine AW.seq_region (fun K hK => ?_)
    refine AL.step rfl rfl rfl (by exact AStepD.val (AStepD.build tok rfl rfl rfl (by decide) rfl (show ∀ p ∈ ([] : List (Nat × AV)), ∀ x ∈ p.2.cells, x.one = true from by simp)) (show _ = AV.agg (Mem.cells ⟨0, 0, 0, 0, 0⟩) from rfl)) ?_
    refine AL.step0 rfl rfl qRE5 ?_
    refine AL.step rfl rfl rfl qRA18 ?_
    refine AL.nil_then (hK _ _ ?_); clear hK K
    refine AW.ret (RetQ.mk (.inr rfl) qRH1 ⟨?_, qRA8⟩)
    rw [hg, hc]; rfl

/-- What forgetting answers, and leaves. -/
def forE (r : Ros) (w t : Int) : Int := if asked r.self w t ≠ 0 then asked r.self w t else if has r.ms w then 0 else 30
def forR (r : Ros) (w t : Int) : Ros := ⟨r.self, r.ms.take (pos r.ms w) ++ r.ms.drop (pos r.ms w + 1), putB r.bs w (t + 60000), r.cur⟩
theorem asked_time {s w t : Int} (h : asked s w t = 0) : idB w = true ∧ timeB t = true ∧ w ≠ s := by
  unfold asked at h
  split at h
  · cases h
  · rename_i h1
    split at h
    · cases h
    · rename_i h2
      simp only [Bool.or_eq_true, Bool.not_eq_true', not_or, Bool.not_eq_false] at h1
      exact ⟨h1.1, h1.2, h2⟩
theorem forE_zero {r : Ros} {w t : Int} (h : forE r w t = 0) : asked r.self w t = 0 ∧ has r.ms w = true := by
  unfold forE at h
  split at h
  · contradiction
  · rename_i h1
    split at h
    · rename_i h2; exact ⟨by omega, h2⟩
    · cases h
theorem Inv.forget {r : Ros} {w t : Int} (h : Inv r) : Inv (forR r w t) := by
  refine ⟨?_, ?_⟩
  · have hp := h.1
    have : List.Sublist (r.ms.take (pos r.ms w) ++ r.ms.drop (pos r.ms w + 1)) r.ms := by
      have h1 : List.Sublist (r.ms.take (pos r.ms w) ++ r.ms.drop (pos r.ms w + 1)) (r.ms.take (pos r.ms w) ++ r.ms.drop (pos r.ms w)) :=
        List.Sublist.append_left (List.drop_sublist_drop_left _ (Nat.le_succ _)) _
      rwa [List.take_append_drop] at h1
    exact hp.sublist this
  · have := h.2
    simp [forR]; omega

theorem forget_calls (H : AHeap) (n L B : Nat) (r : Ros) (w t : Int) (hR : RosAt H n L B r) (hI : Inv r) :
    ACalls Try.prog 17 [.ptr n 0, .v (.int .i64 w), .v (.int .i64 t)] H (fun v H' => v = .v (.int .i64 (forE r w t)) ∧ RosAt H' n L B (if forE r w t = 0 then forR r w t else r) ∧ Only H H' n L B L) := by
  have hR0 := hR
  have h15 := hI.2
  obtain ⟨x0, hn, hM, hB⟩ := hR
  have hx1 := hM.one
  have hno : ∀ e : Int, forE r w t = e → e ≠ 0 → AV.v (.int .i64 e) = .v (.int .i64 (forE r w t)) ∧ RosAt H n L B (if forE r w t = 0 then forR r w t else r) ∧ Only H H n L B L := by
    intro e he h0
    subst he
    exact ⟨rfl, by rw [if_neg h0]; exact hR0, Only.refl H n L B⟩
  refine ACalls.lts fun hlt => ?_
  refine ACalls.of_body tok Try.func17 rfl Try.ntmps17 (Nat.le_of_ble_eq_true rfl) ?_
  refine AW.seq_region (fun K hK => ?_)
  refine AL.step rfl rfl rfl qRA18 ?_
  refine AL.nil_then (hK _ _ ?_); clear hK K
  refine AW.seq_region (fun K hK => ?_)
  refine AL.step rfl rfl rfl qRA19 ?_
  refine AL.step rfl rfl rfl qRA19 ?_
  refine AL.step rfl rfl rfl (by exact AStepD.callf rfl en29 rfl (find_calls _ n L B r w hR0 hI.1 (by omega))) ?_
  refine AL.step rfl rfl rfl qRA19 ?_
  refine AL.step rfl rfl rfl qRB6 ?_
  refine AL.step rfl rfl rfl qRB6 ?_
  refine AL.step rfl rfl rfl qRA18 ?_
  refine AL.step rfl rfl rfl qRA18 ?_
  refine AL.nil_then (hK _ _ ?_); clear hK K
  refine AW.seq_region (fun K hK => ?_)
  refine AL.step rfl rfl rfl qRA19 ?_
  refine AL.step rfl rfl rfl qRA19 ?_
  refine AL.step rfl rfl rfl qRA19 ?_
  refine AL.step rfl rfl rfl (by exact AStepD.callf rfl en30 rfl (asked_calls _ n L B r w t hR0)) ?_
  refine AL.step rfl rfl rfl qRA18 ?_
  refine AL.nil_then (hK _ _ ?_); clear hK K
  refine AW.seq_k (fun K hK => ?_)
  refine AW.block ?_
  refine AW.seq_region (fun K hK => ?_)
  refine AL.step rfl rfl rfl qRA19 ?_
  refine AL.step rfl rfl rfl qRA2 ?_
  refine AL.step rfl rfl rfl qRA18 ?_
  refine AL.nil_then (hK _ _ ?_); clear hK K
  refine AW.cond _ rfl (fun hc => ?_) (fun hc => ?_)
  · have hc := of_decide_eq_true hc
    refine AW.seq_region (fun K hK => ?_)
    refine AL.step rfl rfl rfl qRA19 ?_
    refine AL.step rfl rfl rfl qRA18 ?_
    refine AL.nil_then (hK _ _ ?_); clear hK K
    exact AW.ret (RetQ.mk (.inr rfl) (retA_tmp rfl qRA1 retA_nil) (hno _ (by rw [forE, if_pos hc]) hc))
  have hc := of_decide_eq_false hc
  refine AW.seq_region (fun K hK => ?_)
  refine AL.step rfl rfl rfl qRA19 ?_
  refine AL.step rfl rfl rfl qRB9 ?_
  refine AL.step rfl rfl rfl qRA18 ?_
  refine AL.nil_then (hK _ _ ?_); clear hK K
  refine AW.cond _ rfl (fun hc2 => ?_) (fun hc2 => ?_)
  · have hc2 : has r.ms w = false := by simpa using hc2
    refine AW.seq_region (fun K hK => ?_)
    refine AL.step rfl rfl rfl qRA18 ?_
    refine AL.nil_then (hK _ _ ?_); clear hK K
    exact AW.ret (RetQ.mk (.inr rfl) (retA_tmp rfl qRA1 retA_nil) (hno _ (by rw [forE, if_neg hc, hc2]; rfl) (by decide)))
  have hc2 : has r.ms w = true := by simpa using hc2
  refine AW.skip (hK _ _ ?_); clear hK K
  have he : forE r w t = 0 := by rw [forE, if_neg hc, if_pos hc2]
  obtain ⟨hp, -⟩ := (has_at hI.1 w).1 hc2
  obtain ⟨rfl, hH⟩ := hM.at hp
  have hnl := hlt _ _ hn
  have hBl := hlt _ _ hB
  have hLl := hlt _ _ hH
  have hnB : n ≠ B := by rintro rfl; rw [hn] at hB; simp at hB
  have hLn : L ≠ n := by rintro rfl; rw [hn] at hH; simp at hH
  have hLB : L ≠ B := by rintro rfl; rw [hB] at hH; simp at hH
  have hfl := flat_length r.ms
  have hfo := flat_ones r.ms
  have htm := (asked_time (show asked r.self w t = 0 by omega)).2.1
  have htb : 0 ≤ t ∧ t ≤ 1099511627776 := by simpa [timeB] using htm
  have hout : (flat r.ms).take (pos r.ms w * 5) ++ (flat r.ms).drop ((pos r.ms w + 1) * 5) = flat (r.ms.take (pos r.ms w) ++ r.ms.drop (pos r.ms w + 1)) := by rw [flat_append, flat_take, flat_drop]
  refine AW.seq_region (fun K hK => ?_)
  refine AL.step rfl rfl rfl qRA19 ?_
  refine AL.step rfl rfl rfl qRA19 ?_
  refine AL.step rfl rfl rfl qRB3 ?_
  refine AL.step rfl rfl rfl qRD9 ?_
  refine AL.step rfl rfl rfl qRB5 ?_
  refine AL.step rfl rfl rfl qRA19 ?_
  refine AL.step rfl rfl rfl qRA19 ?_
  refine AL.step rfl rfl rfl qRA22 ?_
  refine AL.step rfl rfl rfl (by exact AStepD.callf rfl en33 rfl (delete_calls _ L r.ms.length (pos r.ms w) (pos r.ms w + 1) (flat r.ms) qRA6 hfl hfo (by omega) (by omega) (by omega))) ?_
  refine AL.step rfl rfl rfl qRB3 ?_
  refine AL.step rfl rfl rfl qRD9 ?_
  refine AL.step0 rfl rfl qRE5 ?_
  refine AL.nil_then (hK _ _ ?_); clear hK K
  refine AW.seq_region (fun K hK => ?_)
  refine AL.step rfl rfl rfl qRA19 ?_
  refine AL.step rfl rfl rfl qRB3 ?_
  refine AL.step rfl rfl rfl qRB17 ?_
  refine AL.step rfl rfl rfl qRB5 ?_
  refine AL.step rfl rfl rfl qRA19 ?_
  refine AL.step rfl rfl rfl qRA19 ?_
  refine AL.step rfl rfl rfl qRA22 ?_
  refine AL.step0 rfl rfl (by exact AStepD.mapUpdate tok rfl rfl rfl qRA1 rfl rfl rfl rfl qRA6 (putI_bans _ _ _)) ?_
  refine AL.nil_then (hK _ _ ?_); clear hK K
  refine AW.seq_region (fun K hK => ?_)
  refine AL.step rfl rfl rfl qRA18 ?_
  refine AL.nil_then (hK _ _ ?_); clear hK K
  refine AW.ret (RetQ.mk (.inr rfl) (retA_tmp rfl qRA1 retA_nil) ⟨by rw [he]; rfl, ?_, ?_, ?_, .inl rfl⟩)
  · rw [if_pos he]
    refine ⟨_, qRA6, MemsAt.mk (cs := (flat r.ms).take (pos r.ms w * 5) ++ (flat r.ms).drop ((pos r.ms w + 1) * 5)) ?_ hout ?_, qRA6⟩
    · exact qRA6
    · simp [forR]; omega
  · exact qRC3
  · intro q h1 h2 h3 h4
    exact qRC4
end Go.Proofs.Ytjiifddmcmbbnaa
