/- The law RankRises. -/
import Derived.Test.YtmjookofajlcoaaO
namespace Go.Proofs.Ytmjookofajlcoaa
open Go.Ax
open Cel (c)
theorem qP1 {p : Prop} (h : p := by exact (fun hb => by (try (apply AStepD.uncond 25 rfl (gpf hb))); exact qF8)) : p := h
theorem qP2 {p : Prop} (h : p := by exact (fun _ hb => by (try (apply AStepD.uncond 25 rfl (gpf hb))); exact qF8)) : p := h
theorem qP3 {p : Prop} (h : p := by exact (fun hb => by (try (apply AStepD.uncond 24 rfl (gpf hb))); (try (apply AStepD.uncond 26 rfl (gpf hb))); exact qG3)) : p := h
theorem qP4 {p : Prop} (h : p := by exact (fun _ hb => by (try (apply AStepD.uncond 24 rfl (gpf hb))); (try (apply AStepD.uncond 26 rfl (gpf hb))); exact qG3)) : p := h
theorem qP5 {p : Prop} (h : p := by exact (fun hb => by (try (apply AStepD.uncond 2 rfl (gpf hb))); exact qA16)) : p := h
theorem qP6 {p : Prop} (h : p := by exact (fun _ hb => by (try (apply AStepD.uncond 2 rfl (gpf hb))); exact qA16)) : p := h
theorem qP7 {p : Prop} (h : p := by exact (fun hb => by (try (apply AStepD.uncond 30 rfl (gpf hb))); exact qF2)) : p := h
theorem qP8 {p : Prop} (h : p := by exact (fun _ hb => by (try (apply AStepD.uncond 30 rfl (gpf hb))); exact qF2)) : p := h
theorem qP9 {p : Prop} (h : p := by exact (fun hb => by (try (apply AStepD.uncond 35 rfl (gpf hb))); (try (apply AStepD.uncond 36 rfl (gpf hb))); exact qA18)) : p := h
theorem qP10 {p : Prop} (h : p := by exact (fun _ hb => by (try (apply AStepD.uncond 35 rfl (gpf hb))); (try (apply AStepD.uncond 36 rfl (gpf hb))); exact qA18)) : p := h
theorem qP11 {p : Prop} (h : p := by exact (fun hb => by (try (apply AStepD.uncond 37 rfl (gpf hb))); exact qF10)) : p := h
theorem qP12 {p : Prop} (h : p := by exact (fun _ hb => by (try (apply AStepD.uncond 37 rfl (gpf hb))); exact qF10)) : p := h
theorem qP13 {p : Prop} (h : p := by exact (fun hb => by (try (apply AStepD.uncond 38 rfl (gpf hb))); exact qB2)) : p := h
theorem qP14 {p : Prop} (h : p := by exact (fun _ hb => by (try (apply AStepD.uncond 38 rfl (gpf hb))); exact qB2)) : p := h
theorem qP15 {p : Prop} (h : p := by exact (fun hb => by (try (apply AStepD.uncond 34 rfl (gpf hb))); (try (apply AStepD.uncond 40 rfl (gpf hb))); exact qF3)) : p := h
theorem qP16 {p : Prop} (h : p := by exact (fun _ hb => by (try (apply AStepD.uncond 34 rfl (gpf hb))); (try (apply AStepD.uncond 40 rfl (gpf hb))); exact qF3)) : p := h
theorem qP17 {p : Prop} (h : p := by exact (fun hb => by (try (apply AStepD.uncond 8 rfl (gpf hb))); exact qA16)) : p := h
theorem qP18 {p : Prop} (h : p := by exact (fun _ hb => by (try (apply AStepD.uncond 8 rfl (gpf hb))); exact qA16)) : p := h
theorem qP19 {p : Prop} (h : p := by exact (fun hb => by (try (apply AStepD.uncond 12 rfl (gpf hb))); exact qA16)) : p := h
theorem qP20 {p : Prop} (h : p := by exact (fun _ hb => by (try (apply AStepD.uncond 12 rfl (gpf hb))); exact qA16)) : p := h
theorem qP21 {p : Prop} (h : p := by exact (fun hb => by (try (apply AStepD.uncond 10 rfl (gpf hb))); exact qA16)) : p := h
theorem qP22 {p : Prop} (h : p := by exact (fun _ hb => by (try (apply AStepD.uncond 10 rfl (gpf hb))); exact qA16)) : p := h
set_option linter.unusedSimpArgs false
set_option linter.unusedVariables false

/-- The list in which one has more than it had. -/
def riseL (l : List Rep) (k : Nat) (more : Int) : List Rep := l.modify k fun r => ⟨r.id, r.off + more⟩
theorem rise_length (l : List Rep) (k : Nat) (more : Int) : (riseL l k more).length = l.length := by simp [riseL]
theorem rise_at (l : List Rep) (k : Nat) (more : Int) (i : Nat) (hi : i < l.length) (hi2 : i < (riseL l k more).length) : (riseL l k more)[i] = if k = i then ⟨l[i].id, l[i].off + more⟩ else l[i] := by
  simp [riseL, List.getElem_modify]
theorem rise_set (l : List Rep) (k : Nat) (more : Int) (hk : k < l.length) : riseL l k more = l.set k ⟨l[k].id, l[k].off + more⟩ := by
  refine List.ext_getElem (by rw [rise_length, List.length_set]) fun i h1 h2 => ?_
  rw [rise_at l k more i (by rwa [rise_length] at h1) h1, List.getElem_set]
  split
  · rename_i e; subst e; rfl
  · rfl
theorem rise_right {l : List Rep} (hr : rightB l = true) {k : Nat} (hk : k < l.length) {more : Int} (h0 : 0 ≤ more) (h1 : l[k].off + more ≤ 281474976710656) : rightB (riseL l k more) = true := by
  have hd := List.pairwise_iff_getElem.1 (right_dist hr)
  have ho := right_ok hr
  have hn := right_len hr
  simp only [rightB, Bool.and_eq_true, List.all_eq_true, decide_eq_true_eq, distB_iff, rise_length]
  refine ⟨⟨fun x hx => ?_, List.pairwise_iff_getElem.2 fun i j hi hj hij => ?_⟩, hn⟩
  · obtain ⟨i, hi, rfl⟩ := List.mem_iff_getElem.1 hx
    have hi2 : i < l.length := by rwa [rise_length] at hi
    have := ho _ (List.getElem_mem hi2)
    rw [rise_at l k more i hi2 hi]
    simp only [okR, Bool.and_eq_true, decide_eq_true_eq] at this ⊢
    split
    · rename_i e; subst e; simp only; omega
    · exact this
  · have hi2 : i < l.length := by rwa [rise_length] at hi
    have hj2 : j < l.length := by rwa [rise_length] at hj
    have := hd i j hi2 hj2 hij
    rw [rise_at l k more i hi2 hi, rise_at l k more j hj2 hj]
    split <;> split <;> exact this
theorem countP_le_of_at {α : Type} {p q : α → Bool} : ∀ {l m : List α}, l.length = m.length → (∀ i (h : i < l.length) (h' : i < m.length), p l[i] = true → q m[i] = true) → l.countP p ≤ m.countP q
  | [], [], _, _ => Nat.le_refl _
  | a :: l, b :: m, hn, h => by
    have h1 := countP_le_of_at (l := l) (m := m) (p := p) (q := q) (by simpa using hn) fun i hi hi' hp => h (i + 1) (by simpa using hi) (by simpa using hi') hp
    have h2 := h 0 (by simp) (by simp)
    simp only [List.getElem_cons_zero] at h2
    rw [List.countP_cons, List.countP_cons]
    by_cases ha : p a = true
    · rw [if_pos ha, if_pos (h2 ha)]; omega
    · rw [if_neg ha]; omega
/-- The one that has more stands no further behind. -/
theorem rise_up {l : List Rep} {k : Nat} (hk : k < l.length) {more : Int} (h0 : 0 ≤ more) : (riseL l k more).countP (fun x => ahead x ⟨l[k].id, l[k].off + more⟩) ≤ l.countP fun x => ahead x l[k] := by
  refine countP_le_of_at (rise_length _ _ _) fun i hi hi2 h => ?_
  rw [rise_at l k more i hi2 hi] at h
  rw [ahead_iff] at h ⊢
  split at h
  · rename_i e; subst e; simp only at h; omega
  · simp only at h
    omega
/-- Every other stands no further ahead. -/
theorem rise_down {l : List Rep} {k i : Nat} (hi : i < l.length) (hne : k ≠ i) {more : Int} (h0 : 0 ≤ more) : (l.countP fun x => ahead x l[i]) ≤ (riseL l k more).countP fun x => ahead x l[i] := by
  refine countP_le_of_at (rise_length _ _ _).symm fun j hj hj2 h => ?_
  rw [rise_at l k more j hj hj2]
  rw [ahead_iff] at h ⊢
  split
  · rename_i e; subst e; simp only; omega
  · exact h

theorem rise_rank {l : List Rep} {k : Nat} {more : Int} (h0 : 0 ≤ more) (hr2 : rightB (riseL l k more) = true) {i : Nat} (hi : i < l.length) :
    ∃ b : Nat, rankS (riseL l k more) l[i].id = (b : Int) ∧ rankE (riseL l k more) l[i].id = 0 ∧ (k = i → b ≤ l.countP fun x => ahead x l[i]) ∧ (k ≠ i → (l.countP fun x => ahead x l[i]) ≤ b) := by
  have hi2 : i < (riseL l k more).length := by rwa [rise_length]
  obtain ⟨h1, h2⟩ := rank_in hr2 (List.getElem_mem hi2)
  have hat := rise_at l k more i hi hi2
  by_cases hki : k = i
  · subst hki
    rw [if_pos rfl] at hat
    rw [hat] at h1 h2
    exact ⟨_, h1, h2, fun _ => rise_up hi h0, fun h => absurd rfl h⟩
  · rw [if_neg hki] at hat
    rw [hat] at h1 h2
    exact ⟨_, h1, h2, fun h => absurd h hki, fun _ => rise_down hi hki h0⟩
theorem lright_all (H : AHeap) (l : List Rep) : ACalls Try.prog 12 [vecA l] H (fun r H' => r = .v (.bool (rightB l)) ∧ H' = H) := by
  by_cases hlen : l.length ≤ 8000000
  · exact lright_calls H l hlen
  refine ACalls.quiet_keep ?_ (.v _)
  refine ACalls.of_body tok Try.func12 rfl Try.ntmps12 (Nat.le_of_ble_eq_true rfl) (fun base => ?_)
  refine AW.seq_region (fun K hK => ?_)
  refine AL.step rfl rfl rfl qA13 ?_
  refine AL.nil_then (hK _ _ ?_); clear hK K
  refine AW.seq_k (fun K1 hK1 => ?_)
  refine AW.seq_region (fun K hK => ?_)
  refine AL.step rfl rfl rfl qA16 ?_
  refine AL.step rfl rfl rfl qF8 ?_
  refine AL.step rfl rfl rfl qF3 ?_
  refine AL.nil_then (hK _ _ ?_); clear hK K
  refine AW.cond _ rfl (fun hc => ?_) (fun hc => ?_)
  · (try simp only [Bool.or_eq_true, Bool.and_eq_true, Bool.or_eq_false_iff, Bool.and_eq_false_iff, Bool.not_eq_true', Bool.not_eq_false', decide_eq_true_eq, decide_eq_false_iff_not, Int.not_lt, Int.not_le] at hc)
    refine AW.seq_region (fun K hK => ?_)
    refine AL.step rfl rfl rfl qA13 ?_
    refine AL.nil_then (hK _ _ ?_); clear hK K
    refine AW.ret (RetQ.mk (.inr rfl) (retA_tmp rfl qA1 retA_nil) ⟨?_, qE4⟩)
    rw [rightB, decide_eq_false (by omega : ¬ l.length ≤ 16), Bool.and_false]; rfl
  · (try simp only [Bool.or_eq_true, Bool.and_eq_true, Bool.or_eq_false_iff, Bool.and_eq_false_iff, Bool.not_eq_true', Bool.not_eq_false', decide_eq_true_eq, decide_eq_false_iff_not, Int.not_lt, Int.not_le] at hc)
    exfalso
    omega

theorem rises_law (l : List Rep) (w more : Int) : ACalls Try.prog 9 [vecA l, .v (.int .i64 w), .v (.int .i64 more)] AHeap.empty (fun r _ => r = .v (.bool true)) := by
  refine ACalls.of_body tok Try.func9 rfl Try.ntmps9 (Nat.le_of_ble_eq_true rfl) (fun base => ?_)
  refine AW.seq_region (fun K hK => ?_)
  refine AL.step rfl rfl rfl qA13 ?_
  refine AL.nil_then (hK _ _ ?_); clear hK K
  refine AW.seq_k (fun K1 hK1 => ?_)
  refine AW.seq_region (fun K hK => ?_)
  refine AL.step rfl rfl rfl (by exact AStepD.callf rfl en10 rfl (anchor_calls _)) ?_
  refine AL.step rfl rfl rfl (by first | exact AStepD.not rfl rfl | exact AStepD.neg rfl rfl (by first | exact IntWalk.i64_in _ (by omega) | exact IntWalk.i64_in _ (by simp only [Bool.or_eq_true, Bool.and_eq_true, Bool.or_eq_false_iff, Bool.and_eq_false_iff, Bool.not_eq_true', Bool.not_eq_false', decide_eq_true_eq, decide_eq_false_iff_not, Int.not_lt, Int.not_le, beq_iff_eq] at *; omega) | exact rfl)) ?_
  refine AL.nil_then (hK _ _ ?_); clear hK K
  refine AW.cond_false rfl rfl (AW.skip ?_)
  refine hK1 _ _ ?_; try clear hK1 K1
  refine AW.seq_k (fun K2 hK2 => ?_)
  by_cases hr : rightB l = true
  case neg =>
    refine AW.seq_region (fun K hK => ?_)
    refine AL.step rfl rfl rfl qA16 ?_
    refine AL.step rfl rfl rfl (by exact AStepD.val (AStepD.callf rfl en12 rfl (lright_all _ l)) (y := .v (.bool false)) (by rw [Bool.not_eq_true] at hr; rw [hr])) ?_
    refine AL.step rfl rfl rfl (by first | exact AStepD.not rfl rfl | exact AStepD.neg rfl rfl (by first | exact IntWalk.i64_in _ (by omega) | exact IntWalk.i64_in _ (by simp only [Bool.or_eq_true, Bool.and_eq_true, Bool.or_eq_false_iff, Bool.and_eq_false_iff, Bool.not_eq_true', Bool.not_eq_false', decide_eq_true_eq, decide_eq_false_iff_not, Int.not_lt, Int.not_le, beq_iff_eq] at *; omega) | exact rfl)) ?_
    refine AL.step rfl rfl rfl qA16 ?_
    first | refine AL.gstep rfl rfl rfl rfl rfl rfl rfl qA16 ?_ | refine AL.gskip rfl rfl rfl rfl rfl rfl rfl ?_ | refine AL.gnone rfl rfl rfl rfl rfl ?_ | refine AL.gmay rfl rfl rfl rfl rfl rfl qG4 ?_ | refine AL.gmay2 rfl rfl rfl rfl rfl rfl qG5 ?_
    first | refine AL.gstep rfl rfl rfl rfl rfl rfl rfl qF2 ?_ | refine AL.gskip rfl rfl rfl rfl rfl rfl rfl ?_ | refine AL.gnone rfl rfl rfl rfl rfl ?_ | refine AL.gmay rfl rfl rfl rfl rfl rfl (fun hb => by (try (apply AStepD.uncond 20 rfl (gpf hb))); exact qF2) ?_ | refine AL.gmay2 rfl rfl rfl rfl rfl rfl (fun _ hb => by (try (apply AStepD.uncond 20 rfl (gpf hb))); exact qF2) ?_
    refine AL.step rfl rfl rfl qF9 ?_
    refine AL.step rfl rfl rfl qA16 ?_
    first | refine AL.gstep rfl rfl rfl rfl rfl rfl rfl qA16 ?_ | refine AL.gskip rfl rfl rfl rfl rfl rfl rfl ?_ | refine AL.gnone rfl rfl rfl rfl rfl ?_ | refine AL.gmay rfl rfl rfl rfl rfl rfl qG4 ?_ | refine AL.gmay2 rfl rfl rfl rfl rfl rfl qG5 ?_
    first | refine AL.gstep rfl rfl rfl rfl rfl rfl rfl qA16 ?_ | refine AL.gskip rfl rfl rfl rfl rfl rfl rfl ?_ | refine AL.gnone rfl rfl rfl rfl rfl ?_ | refine AL.gmay rfl rfl rfl rfl rfl rfl qG1 ?_ | refine AL.gmay2 rfl rfl rfl rfl rfl rfl qG2 ?_
    first | refine AL.gstep rfl rfl rfl rfl rfl rfl rfl qF8 ?_ | refine AL.gskip rfl rfl rfl rfl rfl rfl rfl ?_ | refine AL.gnone rfl rfl rfl rfl rfl ?_ | refine AL.gmay rfl rfl rfl rfl rfl rfl qP1 ?_ | refine AL.gmay2 rfl rfl rfl rfl rfl rfl qP2 ?_
    first | refine AL.gstep rfl rfl rfl rfl rfl rfl rfl qG3 ?_ | refine AL.gskip rfl rfl rfl rfl rfl rfl rfl ?_ | refine AL.gnone rfl rfl rfl rfl rfl ?_ | refine AL.gmay rfl rfl rfl rfl rfl rfl qP3 ?_ | refine AL.gmay2 rfl rfl rfl rfl rfl rfl qP4 ?_
    refine AL.step rfl rfl rfl qF9 ?_
    refine AL.step rfl rfl rfl qA16 ?_
    first | refine AL.gstep rfl rfl rfl rfl rfl rfl rfl qA16 ?_ | refine AL.gskip rfl rfl rfl rfl rfl rfl rfl ?_ | refine AL.gnone rfl rfl rfl rfl rfl ?_ | refine AL.gmay rfl rfl rfl rfl rfl rfl qP5 ?_ | refine AL.gmay2 rfl rfl rfl rfl rfl rfl qP6 ?_
    first | refine AL.gstep rfl rfl rfl rfl rfl rfl rfl qF2 ?_ | refine AL.gskip rfl rfl rfl rfl rfl rfl rfl ?_ | refine AL.gnone rfl rfl rfl rfl rfl ?_ | refine AL.gmay rfl rfl rfl rfl rfl rfl qP7 ?_ | refine AL.gmay2 rfl rfl rfl rfl rfl rfl qP8 ?_
    refine AL.step rfl rfl rfl qF9 ?_
    refine AL.step rfl rfl rfl qA16 ?_
    first | refine AL.gstep rfl rfl rfl rfl rfl rfl rfl qA16 ?_ | refine AL.gskip rfl rfl rfl rfl rfl rfl rfl ?_ | refine AL.gnone rfl rfl rfl rfl rfl ?_ | refine AL.gmay rfl rfl rfl rfl rfl rfl qP5 ?_ | refine AL.gmay2 rfl rfl rfl rfl rfl rfl qP6 ?_
    first | refine AL.gstep rfl rfl rfl rfl rfl rfl rfl qA16 ?_ | refine AL.gskip rfl rfl rfl rfl rfl rfl rfl ?_ | refine AL.gnone rfl rfl rfl rfl rfl ?_ | refine AL.gmay rfl rfl rfl rfl rfl rfl qG1 ?_ | refine AL.gmay2 rfl rfl rfl rfl rfl rfl qG2 ?_
    first | refine AL.gstep rfl rfl rfl rfl rfl rfl rfl qA16 ?_ | refine AL.gskip rfl rfl rfl rfl rfl rfl rfl ?_ | refine AL.gnone rfl rfl rfl rfl rfl ?_ | refine AL.gmay rfl rfl rfl rfl rfl rfl qG4 ?_ | refine AL.gmay2 rfl rfl rfl rfl rfl rfl qG5 ?_
    first | refine AL.gstep rfl rfl rfl rfl rfl rfl rfl qA18 ?_ | refine AL.gskip rfl rfl rfl rfl rfl rfl rfl ?_ | refine AL.gnone rfl rfl rfl rfl rfl ?_ | refine AL.gmay rfl rfl rfl rfl rfl rfl qP9 ?_ | refine AL.gmay2 rfl rfl rfl rfl rfl rfl qP10 ?_
    first | refine AL.gstep rfl rfl rfl rfl rfl rfl rfl qF10 ?_ | refine AL.gskip rfl rfl rfl rfl rfl rfl rfl ?_ | refine AL.gnone rfl rfl rfl rfl rfl ?_ | refine AL.gmay rfl rfl rfl rfl rfl rfl qP11 ?_ | refine AL.gmay2 rfl rfl rfl rfl rfl rfl qP12 ?_
    first | refine AL.gstep rfl rfl rfl rfl rfl rfl rfl qB2 ?_ | refine AL.gskip rfl rfl rfl rfl rfl rfl rfl ?_ | refine AL.gnone rfl rfl rfl rfl rfl ?_ | refine AL.gmay rfl rfl rfl rfl rfl rfl qP13 ?_ | refine AL.gmay2 rfl rfl rfl rfl rfl rfl qP14 ?_
    first | refine AL.gstep rfl rfl rfl rfl rfl rfl rfl (by exact AStepD.sub rfl rfl rfl (by first | exact IntWalk.i64_in _ (by omega) | exact IntWalk.i64_in _ (by simp only [Bool.or_eq_true, Bool.and_eq_true, Bool.or_eq_false_iff, Bool.and_eq_false_iff, Bool.not_eq_true', Bool.not_eq_false', decide_eq_true_eq, decide_eq_false_iff_not, Int.not_lt, Int.not_le, beq_iff_eq] at *; omega) | exact rfl)) ?_ | refine AL.gskip rfl rfl rfl rfl rfl rfl rfl ?_ | refine AL.gnone rfl rfl rfl rfl rfl ?_ | refine AL.gmay rfl rfl rfl rfl rfl rfl (fun hb => by (try (apply AStepD.uncond 39 rfl (gpf hb))); exact (by exact AStepD.sub rfl rfl rfl (by first | exact IntWalk.i64_in _ (by omega) | exact IntWalk.i64_in _ (by simp only [Bool.or_eq_true, Bool.and_eq_true, Bool.or_eq_false_iff, Bool.and_eq_false_iff, Bool.not_eq_true', Bool.not_eq_false', decide_eq_true_eq, decide_eq_false_iff_not, Int.not_lt, Int.not_le, beq_iff_eq] at *; omega) | exact rfl))) ?_ | refine AL.gmay2 rfl rfl rfl rfl rfl rfl (fun _ hb => by (try (apply AStepD.uncond 39 rfl (gpf hb))); exact (by exact AStepD.sub rfl rfl rfl (by first | exact IntWalk.i64_in _ (by omega) | exact IntWalk.i64_in _ (by simp only [Bool.or_eq_true, Bool.and_eq_true, Bool.or_eq_false_iff, Bool.and_eq_false_iff, Bool.not_eq_true', Bool.not_eq_false', decide_eq_true_eq, decide_eq_false_iff_not, Int.not_lt, Int.not_le, beq_iff_eq] at *; omega) | exact rfl))) ?_
    first | refine AL.gstep rfl rfl rfl rfl rfl rfl rfl qF3 ?_ | refine AL.gskip rfl rfl rfl rfl rfl rfl rfl ?_ | refine AL.gnone rfl rfl rfl rfl rfl ?_ | refine AL.gmay rfl rfl rfl rfl rfl rfl qP15 ?_ | refine AL.gmay2 rfl rfl rfl rfl rfl rfl qP16 ?_
    refine AL.step rfl rfl rfl qF9 ?_
    refine AL.nil_then (hK _ _ ?_); clear hK K
    refine AW.cond_true rfl rfl ?_
    refine AW.seq_region (fun K hK => ?_)
    refine AL.step rfl rfl rfl qA13 ?_
    refine AL.nil_then (hK _ _ ?_); clear hK K
    exact AW.ret (RetQ.mk (.inr rfl) (retA_tmp rfl qA1 retA_nil) rfl)
  have h16 := right_len hr
  have hll : l.length ≤ 8000000 := by omega
  by_cases hw0 : w < 0
  · refine AW.seq_region (fun K hK => ?_)
    refine AL.step rfl rfl rfl qA16 ?_
    refine AL.step rfl rfl rfl (by exact AStepD.val (AStepD.callf rfl en12 rfl (lright_all _ l)) (y := .v (.bool true)) (by rw [hr])) ?_
    refine AL.step rfl rfl rfl (by first | exact AStepD.not rfl rfl | exact AStepD.neg rfl rfl (by first | exact IntWalk.i64_in _ (by omega) | exact IntWalk.i64_in _ (by simp only [Bool.or_eq_true, Bool.and_eq_true, Bool.or_eq_false_iff, Bool.and_eq_false_iff, Bool.not_eq_true', Bool.not_eq_false', decide_eq_true_eq, decide_eq_false_iff_not, Int.not_lt, Int.not_le, beq_iff_eq] at *; omega) | exact rfl)) ?_
    refine AL.step rfl rfl rfl qA16 ?_
    first | refine AL.gstep rfl rfl rfl rfl rfl rfl rfl qA16 ?_ | refine AL.gskip rfl rfl rfl rfl rfl rfl rfl ?_ | refine AL.gnone rfl rfl rfl rfl rfl ?_ | refine AL.gmay rfl rfl rfl rfl rfl rfl qG4 ?_ | refine AL.gmay2 rfl rfl rfl rfl rfl rfl qG5 ?_
    first | refine AL.gstep rfl rfl rfl rfl rfl rfl rfl (by exact AStepD.bool (AStepD.lss rfl rfl rfl) (c := true) (by simpa using hw0)) ?_ | refine AL.gskip rfl rfl rfl rfl rfl rfl rfl ?_ | refine AL.gnone rfl rfl rfl rfl rfl ?_ | refine AL.gmay rfl rfl rfl rfl rfl rfl (fun hb => by (try (apply AStepD.uncond 20 rfl (gpf hb))); exact (by exact AStepD.bool (AStepD.lss rfl rfl rfl) (c := true) (by simpa using hw0))) ?_ | refine AL.gmay2 rfl rfl rfl rfl rfl rfl (fun _ hb => by (try (apply AStepD.uncond 20 rfl (gpf hb))); exact (by exact AStepD.bool (AStepD.lss rfl rfl rfl) (c := true) (by simpa using hw0))) ?_
    refine AL.step rfl rfl rfl qF9 ?_
    refine AL.step rfl rfl rfl qA16 ?_
    first | refine AL.gstep rfl rfl rfl rfl rfl rfl rfl qA16 ?_ | refine AL.gskip rfl rfl rfl rfl rfl rfl rfl ?_ | refine AL.gnone rfl rfl rfl rfl rfl ?_ | refine AL.gmay rfl rfl rfl rfl rfl rfl qG4 ?_ | refine AL.gmay2 rfl rfl rfl rfl rfl rfl qG5 ?_
    first | refine AL.gstep rfl rfl rfl rfl rfl rfl rfl qA16 ?_ | refine AL.gskip rfl rfl rfl rfl rfl rfl rfl ?_ | refine AL.gnone rfl rfl rfl rfl rfl ?_ | refine AL.gmay rfl rfl rfl rfl rfl rfl qG1 ?_ | refine AL.gmay2 rfl rfl rfl rfl rfl rfl qG2 ?_
    first | refine AL.gstep rfl rfl rfl rfl rfl rfl rfl qF8 ?_ | refine AL.gskip rfl rfl rfl rfl rfl rfl rfl ?_ | refine AL.gnone rfl rfl rfl rfl rfl ?_ | refine AL.gmay rfl rfl rfl rfl rfl rfl qP1 ?_ | refine AL.gmay2 rfl rfl rfl rfl rfl rfl qP2 ?_
    first | refine AL.gstep rfl rfl rfl rfl rfl rfl rfl qG3 ?_ | refine AL.gskip rfl rfl rfl rfl rfl rfl rfl ?_ | refine AL.gnone rfl rfl rfl rfl rfl ?_ | refine AL.gmay rfl rfl rfl rfl rfl rfl qP3 ?_ | refine AL.gmay2 rfl rfl rfl rfl rfl rfl qP4 ?_
    refine AL.step rfl rfl rfl qF9 ?_
    refine AL.step rfl rfl rfl qA16 ?_
    first | refine AL.gstep rfl rfl rfl rfl rfl rfl rfl qA16 ?_ | refine AL.gskip rfl rfl rfl rfl rfl rfl rfl ?_ | refine AL.gnone rfl rfl rfl rfl rfl ?_ | refine AL.gmay rfl rfl rfl rfl rfl rfl qP5 ?_ | refine AL.gmay2 rfl rfl rfl rfl rfl rfl qP6 ?_
    first | refine AL.gstep rfl rfl rfl rfl rfl rfl rfl qF2 ?_ | refine AL.gskip rfl rfl rfl rfl rfl rfl rfl ?_ | refine AL.gnone rfl rfl rfl rfl rfl ?_ | refine AL.gmay rfl rfl rfl rfl rfl rfl qP7 ?_ | refine AL.gmay2 rfl rfl rfl rfl rfl rfl qP8 ?_
    refine AL.step rfl rfl rfl qF9 ?_
    refine AL.step rfl rfl rfl qA16 ?_
    first | refine AL.gstep rfl rfl rfl rfl rfl rfl rfl qA16 ?_ | refine AL.gskip rfl rfl rfl rfl rfl rfl rfl ?_ | refine AL.gnone rfl rfl rfl rfl rfl ?_ | refine AL.gmay rfl rfl rfl rfl rfl rfl qP5 ?_ | refine AL.gmay2 rfl rfl rfl rfl rfl rfl qP6 ?_
    first | refine AL.gstep rfl rfl rfl rfl rfl rfl rfl qA16 ?_ | refine AL.gskip rfl rfl rfl rfl rfl rfl rfl ?_ | refine AL.gnone rfl rfl rfl rfl rfl ?_ | refine AL.gmay rfl rfl rfl rfl rfl rfl qG1 ?_ | refine AL.gmay2 rfl rfl rfl rfl rfl rfl qG2 ?_
    first | refine AL.gstep rfl rfl rfl rfl rfl rfl rfl qA16 ?_ | refine AL.gskip rfl rfl rfl rfl rfl rfl rfl ?_ | refine AL.gnone rfl rfl rfl rfl rfl ?_ | refine AL.gmay rfl rfl rfl rfl rfl rfl qG4 ?_ | refine AL.gmay2 rfl rfl rfl rfl rfl rfl qG5 ?_
    first | refine AL.gstep rfl rfl rfl rfl rfl rfl rfl qA18 ?_ | refine AL.gskip rfl rfl rfl rfl rfl rfl rfl ?_ | refine AL.gnone rfl rfl rfl rfl rfl ?_ | refine AL.gmay rfl rfl rfl rfl rfl rfl qP9 ?_ | refine AL.gmay2 rfl rfl rfl rfl rfl rfl qP10 ?_
    first | refine AL.gstep rfl rfl rfl rfl rfl rfl rfl qF10 ?_ | refine AL.gskip rfl rfl rfl rfl rfl rfl rfl ?_ | refine AL.gnone rfl rfl rfl rfl rfl ?_ | refine AL.gmay rfl rfl rfl rfl rfl rfl qP11 ?_ | refine AL.gmay2 rfl rfl rfl rfl rfl rfl qP12 ?_
    first | refine AL.gstep rfl rfl rfl rfl rfl rfl rfl qB2 ?_ | refine AL.gskip rfl rfl rfl rfl rfl rfl rfl ?_ | refine AL.gnone rfl rfl rfl rfl rfl ?_ | refine AL.gmay rfl rfl rfl rfl rfl rfl qP13 ?_ | refine AL.gmay2 rfl rfl rfl rfl rfl rfl qP14 ?_
    first | refine AL.gstep rfl rfl rfl rfl rfl rfl rfl (by exact AStepD.sub rfl rfl rfl (by first | exact IntWalk.i64_in _ (by omega) | exact IntWalk.i64_in _ (by simp only [Bool.or_eq_true, Bool.and_eq_true, Bool.or_eq_false_iff, Bool.and_eq_false_iff, Bool.not_eq_true', Bool.not_eq_false', decide_eq_true_eq, decide_eq_false_iff_not, Int.not_lt, Int.not_le, beq_iff_eq] at *; omega) | exact rfl)) ?_ | refine AL.gskip rfl rfl rfl rfl rfl rfl rfl ?_ | refine AL.gnone rfl rfl rfl rfl rfl ?_ | refine AL.gmay rfl rfl rfl rfl rfl rfl (fun hb => by (try (apply AStepD.uncond 39 rfl (gpf hb))); exact (by exact AStepD.sub rfl rfl rfl (by first | exact IntWalk.i64_in _ (by omega) | exact IntWalk.i64_in _ (by simp only [Bool.or_eq_true, Bool.and_eq_true, Bool.or_eq_false_iff, Bool.and_eq_false_iff, Bool.not_eq_true', Bool.not_eq_false', decide_eq_true_eq, decide_eq_false_iff_not, Int.not_lt, Int.not_le, beq_iff_eq] at *; omega) | exact rfl))) ?_ | refine AL.gmay2 rfl rfl rfl rfl rfl rfl (fun _ hb => by (try (apply AStepD.uncond 39 rfl (gpf hb))); exact (by exact AStepD.sub rfl rfl rfl (by first | exact IntWalk.i64_in _ (by omega) | exact IntWalk.i64_in _ (by simp only [Bool.or_eq_true, Bool.and_eq_true, Bool.or_eq_false_iff, Bool.and_eq_false_iff, Bool.not_eq_true', Bool.not_eq_false', decide_eq_true_eq, decide_eq_false_iff_not, Int.not_lt, Int.not_le, beq_iff_eq] at *; omega) | exact rfl))) ?_
    first | refine AL.gstep rfl rfl rfl rfl rfl rfl rfl qF3 ?_ | refine AL.gskip rfl rfl rfl rfl rfl rfl rfl ?_ | refine AL.gnone rfl rfl rfl rfl rfl ?_ | refine AL.gmay rfl rfl rfl rfl rfl rfl qP15 ?_ | refine AL.gmay2 rfl rfl rfl rfl rfl rfl qP16 ?_
    refine AL.step rfl rfl rfl qF9 ?_
    refine AL.nil_then (hK _ _ ?_); clear hK K
    refine AW.cond_true rfl rfl ?_
    refine AW.seq_region (fun K hK => ?_)
    refine AL.step rfl rfl rfl qA13 ?_
    refine AL.nil_then (hK _ _ ?_); clear hK K
    exact AW.ret (RetQ.mk (.inr rfl) (retA_tmp rfl qA1 retA_nil) rfl)
  by_cases hw1 : (l.length : Int) ≤ w
  · refine AW.seq_region (fun K hK => ?_)
    refine AL.step rfl rfl rfl qA16 ?_
    refine AL.step rfl rfl rfl (by exact AStepD.val (AStepD.callf rfl en12 rfl (lright_all _ l)) (y := .v (.bool true)) (by rw [hr])) ?_
    refine AL.step rfl rfl rfl (by first | exact AStepD.not rfl rfl | exact AStepD.neg rfl rfl (by first | exact IntWalk.i64_in _ (by omega) | exact IntWalk.i64_in _ (by simp only [Bool.or_eq_true, Bool.and_eq_true, Bool.or_eq_false_iff, Bool.and_eq_false_iff, Bool.not_eq_true', Bool.not_eq_false', decide_eq_true_eq, decide_eq_false_iff_not, Int.not_lt, Int.not_le, beq_iff_eq] at *; omega) | exact rfl)) ?_
    refine AL.step rfl rfl rfl qA16 ?_
    first | refine AL.gstep rfl rfl rfl rfl rfl rfl rfl qA16 ?_ | refine AL.gskip rfl rfl rfl rfl rfl rfl rfl ?_ | refine AL.gnone rfl rfl rfl rfl rfl ?_ | refine AL.gmay rfl rfl rfl rfl rfl rfl qG4 ?_ | refine AL.gmay2 rfl rfl rfl rfl rfl rfl qG5 ?_
    first | refine AL.gstep rfl rfl rfl rfl rfl rfl rfl (by exact AStepD.bool (AStepD.lss rfl rfl rfl) (c := false) (by simp; omega)) ?_ | refine AL.gskip rfl rfl rfl rfl rfl rfl rfl ?_ | refine AL.gnone rfl rfl rfl rfl rfl ?_ | refine AL.gmay rfl rfl rfl rfl rfl rfl (fun hb => by (try (apply AStepD.uncond 20 rfl (gpf hb))); exact (by exact AStepD.bool (AStepD.lss rfl rfl rfl) (c := false) (by simp; omega))) ?_ | refine AL.gmay2 rfl rfl rfl rfl rfl rfl (fun _ hb => by (try (apply AStepD.uncond 20 rfl (gpf hb))); exact (by exact AStepD.bool (AStepD.lss rfl rfl rfl) (c := false) (by simp; omega))) ?_
    refine AL.step rfl rfl rfl qF9 ?_
    refine AL.step rfl rfl rfl qA16 ?_
    first | refine AL.gstep rfl rfl rfl rfl rfl rfl rfl qA16 ?_ | refine AL.gskip rfl rfl rfl rfl rfl rfl rfl ?_ | refine AL.gnone rfl rfl rfl rfl rfl ?_ | refine AL.gmay rfl rfl rfl rfl rfl rfl qG4 ?_ | refine AL.gmay2 rfl rfl rfl rfl rfl rfl qG5 ?_
    first | refine AL.gstep rfl rfl rfl rfl rfl rfl rfl qA16 ?_ | refine AL.gskip rfl rfl rfl rfl rfl rfl rfl ?_ | refine AL.gnone rfl rfl rfl rfl rfl ?_ | refine AL.gmay rfl rfl rfl rfl rfl rfl qG1 ?_ | refine AL.gmay2 rfl rfl rfl rfl rfl rfl qG2 ?_
    first | refine AL.gstep rfl rfl rfl rfl rfl rfl rfl qF8 ?_ | refine AL.gskip rfl rfl rfl rfl rfl rfl rfl ?_ | refine AL.gnone rfl rfl rfl rfl rfl ?_ | refine AL.gmay rfl rfl rfl rfl rfl rfl qP1 ?_ | refine AL.gmay2 rfl rfl rfl rfl rfl rfl qP2 ?_
    first | refine AL.gstep rfl rfl rfl rfl rfl rfl rfl (by exact AStepD.bool (AStepD.geq rfl rfl rfl) (c := true) (by simpa using hw1)) ?_ | refine AL.gskip rfl rfl rfl rfl rfl rfl rfl ?_ | refine AL.gnone rfl rfl rfl rfl rfl ?_ | refine AL.gmay rfl rfl rfl rfl rfl rfl (fun hb => by (try (apply AStepD.uncond 24 rfl (gpf hb))); (try (apply AStepD.uncond 26 rfl (gpf hb))); exact (by exact AStepD.bool (AStepD.geq rfl rfl rfl) (c := true) (by simpa using hw1))) ?_ | refine AL.gmay2 rfl rfl rfl rfl rfl rfl (fun _ hb => by (try (apply AStepD.uncond 24 rfl (gpf hb))); (try (apply AStepD.uncond 26 rfl (gpf hb))); exact (by exact AStepD.bool (AStepD.geq rfl rfl rfl) (c := true) (by simpa using hw1))) ?_
    refine AL.step rfl rfl rfl qF9 ?_
    refine AL.step rfl rfl rfl qA16 ?_
    first | refine AL.gstep rfl rfl rfl rfl rfl rfl rfl qA16 ?_ | refine AL.gskip rfl rfl rfl rfl rfl rfl rfl ?_ | refine AL.gnone rfl rfl rfl rfl rfl ?_ | refine AL.gmay rfl rfl rfl rfl rfl rfl qP5 ?_ | refine AL.gmay2 rfl rfl rfl rfl rfl rfl qP6 ?_
    first | refine AL.gstep rfl rfl rfl rfl rfl rfl rfl qF2 ?_ | refine AL.gskip rfl rfl rfl rfl rfl rfl rfl ?_ | refine AL.gnone rfl rfl rfl rfl rfl ?_ | refine AL.gmay rfl rfl rfl rfl rfl rfl qP7 ?_ | refine AL.gmay2 rfl rfl rfl rfl rfl rfl qP8 ?_
    refine AL.step rfl rfl rfl qF9 ?_
    refine AL.step rfl rfl rfl qA16 ?_
    first | refine AL.gstep rfl rfl rfl rfl rfl rfl rfl qA16 ?_ | refine AL.gskip rfl rfl rfl rfl rfl rfl rfl ?_ | refine AL.gnone rfl rfl rfl rfl rfl ?_ | refine AL.gmay rfl rfl rfl rfl rfl rfl qP5 ?_ | refine AL.gmay2 rfl rfl rfl rfl rfl rfl qP6 ?_
    first | refine AL.gstep rfl rfl rfl rfl rfl rfl rfl qA16 ?_ | refine AL.gskip rfl rfl rfl rfl rfl rfl rfl ?_ | refine AL.gnone rfl rfl rfl rfl rfl ?_ | refine AL.gmay rfl rfl rfl rfl rfl rfl qG1 ?_ | refine AL.gmay2 rfl rfl rfl rfl rfl rfl qG2 ?_
    first | refine AL.gstep rfl rfl rfl rfl rfl rfl rfl qA16 ?_ | refine AL.gskip rfl rfl rfl rfl rfl rfl rfl ?_ | refine AL.gnone rfl rfl rfl rfl rfl ?_ | refine AL.gmay rfl rfl rfl rfl rfl rfl qG4 ?_ | refine AL.gmay2 rfl rfl rfl rfl rfl rfl qG5 ?_
    first | refine AL.gstep rfl rfl rfl rfl rfl rfl rfl qA18 ?_ | refine AL.gskip rfl rfl rfl rfl rfl rfl rfl ?_ | refine AL.gnone rfl rfl rfl rfl rfl ?_ | refine AL.gmay rfl rfl rfl rfl rfl rfl qP9 ?_ | refine AL.gmay2 rfl rfl rfl rfl rfl rfl qP10 ?_
    first | refine AL.gstep rfl rfl rfl rfl rfl rfl rfl qF10 ?_ | refine AL.gskip rfl rfl rfl rfl rfl rfl rfl ?_ | refine AL.gnone rfl rfl rfl rfl rfl ?_ | refine AL.gmay rfl rfl rfl rfl rfl rfl qP11 ?_ | refine AL.gmay2 rfl rfl rfl rfl rfl rfl qP12 ?_
    first | refine AL.gstep rfl rfl rfl rfl rfl rfl rfl qB2 ?_ | refine AL.gskip rfl rfl rfl rfl rfl rfl rfl ?_ | refine AL.gnone rfl rfl rfl rfl rfl ?_ | refine AL.gmay rfl rfl rfl rfl rfl rfl qP13 ?_ | refine AL.gmay2 rfl rfl rfl rfl rfl rfl qP14 ?_
    first | refine AL.gstep rfl rfl rfl rfl rfl rfl rfl (by exact AStepD.sub rfl rfl rfl (by first | exact IntWalk.i64_in _ (by omega) | exact IntWalk.i64_in _ (by simp only [Bool.or_eq_true, Bool.and_eq_true, Bool.or_eq_false_iff, Bool.and_eq_false_iff, Bool.not_eq_true', Bool.not_eq_false', decide_eq_true_eq, decide_eq_false_iff_not, Int.not_lt, Int.not_le, beq_iff_eq] at *; omega) | exact rfl)) ?_ | refine AL.gskip rfl rfl rfl rfl rfl rfl rfl ?_ | refine AL.gnone rfl rfl rfl rfl rfl ?_ | refine AL.gmay rfl rfl rfl rfl rfl rfl (fun hb => by (try (apply AStepD.uncond 39 rfl (gpf hb))); exact (by exact AStepD.sub rfl rfl rfl (by first | exact IntWalk.i64_in _ (by omega) | exact IntWalk.i64_in _ (by simp only [Bool.or_eq_true, Bool.and_eq_true, Bool.or_eq_false_iff, Bool.and_eq_false_iff, Bool.not_eq_true', Bool.not_eq_false', decide_eq_true_eq, decide_eq_false_iff_not, Int.not_lt, Int.not_le, beq_iff_eq] at *; omega) | exact rfl))) ?_ | refine AL.gmay2 rfl rfl rfl rfl rfl rfl (fun _ hb => by (try (apply AStepD.uncond 39 rfl (gpf hb))); exact (by exact AStepD.sub rfl rfl rfl (by first | exact IntWalk.i64_in _ (by omega) | exact IntWalk.i64_in _ (by simp only [Bool.or_eq_true, Bool.and_eq_true, Bool.or_eq_false_iff, Bool.and_eq_false_iff, Bool.not_eq_true', Bool.not_eq_false', decide_eq_true_eq, decide_eq_false_iff_not, Int.not_lt, Int.not_le, beq_iff_eq] at *; omega) | exact rfl))) ?_
    first | refine AL.gstep rfl rfl rfl rfl rfl rfl rfl qF3 ?_ | refine AL.gskip rfl rfl rfl rfl rfl rfl rfl ?_ | refine AL.gnone rfl rfl rfl rfl rfl ?_ | refine AL.gmay rfl rfl rfl rfl rfl rfl qP15 ?_ | refine AL.gmay2 rfl rfl rfl rfl rfl rfl qP16 ?_
    refine AL.step rfl rfl rfl qF9 ?_
    refine AL.nil_then (hK _ _ ?_); clear hK K
    refine AW.cond_true rfl rfl ?_
    refine AW.seq_region (fun K hK => ?_)
    refine AL.step rfl rfl rfl qA13 ?_
    refine AL.nil_then (hK _ _ ?_); clear hK K
    exact AW.ret (RetQ.mk (.inr rfl) (retA_tmp rfl qA1 retA_nil) rfl)
  obtain ⟨k, rfl⟩ := Int.eq_ofNat_of_zero_le (show 0 ≤ w by omega)
  have hk : k < l.length := by omega
  clear hw0 hw1
  have hok := right_ok hr _ (List.getElem_mem hk)
  simp only [okR, Bool.and_eq_true, decide_eq_true_eq] at hok
  generalize ho : l[k].off = o at hok
  have hload : (flat l)[k * 2 + 1]? = some (.v (.int .i64 o)) := by rw [← ho]; exact flat_getc l k 1 hk (by decide)
  have hload0 : (List.drop 1 (List.drop (k * 2) (flat l)))[0]? = some (.v (.int .i64 o)) := by rw [List.getElem?_drop, List.getElem?_drop]; exact hload
  refine AW.seq_region (fun K hK => ?_)
  refine AL.step rfl rfl rfl qA16 ?_
  refine AL.step rfl rfl rfl (by exact AStepD.val (AStepD.callf rfl en12 rfl (lright_all _ l)) (y := .v (.bool true)) (by rw [hr])) ?_
  refine AL.step rfl rfl rfl (by first | exact AStepD.not rfl rfl | exact AStepD.neg rfl rfl (by first | exact IntWalk.i64_in _ (by omega) | exact IntWalk.i64_in _ (by simp only [Bool.or_eq_true, Bool.and_eq_true, Bool.or_eq_false_iff, Bool.and_eq_false_iff, Bool.not_eq_true', Bool.not_eq_false', decide_eq_true_eq, decide_eq_false_iff_not, Int.not_lt, Int.not_le, beq_iff_eq] at *; omega) | exact rfl)) ?_
  refine AL.step rfl rfl rfl qA16 ?_
  first | refine AL.gstep rfl rfl rfl rfl rfl rfl rfl qA16 ?_ | refine AL.gskip rfl rfl rfl rfl rfl rfl rfl ?_ | refine AL.gnone rfl rfl rfl rfl rfl ?_ | refine AL.gmay rfl rfl rfl rfl rfl rfl qG4 ?_ | refine AL.gmay2 rfl rfl rfl rfl rfl rfl qG5 ?_
  first | refine AL.gstep rfl rfl rfl rfl rfl rfl rfl (by exact AStepD.bool (AStepD.lss rfl rfl rfl) (c := false) (by simp)) ?_ | refine AL.gskip rfl rfl rfl rfl rfl rfl rfl ?_ | refine AL.gnone rfl rfl rfl rfl rfl ?_ | refine AL.gmay rfl rfl rfl rfl rfl rfl (fun hb => by (try (apply AStepD.uncond 20 rfl (gpf hb))); exact (by exact AStepD.bool (AStepD.lss rfl rfl rfl) (c := false) (by simp))) ?_ | refine AL.gmay2 rfl rfl rfl rfl rfl rfl (fun _ hb => by (try (apply AStepD.uncond 20 rfl (gpf hb))); exact (by exact AStepD.bool (AStepD.lss rfl rfl rfl) (c := false) (by simp))) ?_
  refine AL.step rfl rfl rfl qF9 ?_
  refine AL.step rfl rfl rfl qA16 ?_
  first | refine AL.gstep rfl rfl rfl rfl rfl rfl rfl qA16 ?_ | refine AL.gskip rfl rfl rfl rfl rfl rfl rfl ?_ | refine AL.gnone rfl rfl rfl rfl rfl ?_ | refine AL.gmay rfl rfl rfl rfl rfl rfl qG4 ?_ | refine AL.gmay2 rfl rfl rfl rfl rfl rfl qG5 ?_
  first | refine AL.gstep rfl rfl rfl rfl rfl rfl rfl qA16 ?_ | refine AL.gskip rfl rfl rfl rfl rfl rfl rfl ?_ | refine AL.gnone rfl rfl rfl rfl rfl ?_ | refine AL.gmay rfl rfl rfl rfl rfl rfl qG1 ?_ | refine AL.gmay2 rfl rfl rfl rfl rfl rfl qG2 ?_
  first | refine AL.gstep rfl rfl rfl rfl rfl rfl rfl qF8 ?_ | refine AL.gskip rfl rfl rfl rfl rfl rfl rfl ?_ | refine AL.gnone rfl rfl rfl rfl rfl ?_ | refine AL.gmay rfl rfl rfl rfl rfl rfl qP1 ?_ | refine AL.gmay2 rfl rfl rfl rfl rfl rfl qP2 ?_
  first | refine AL.gstep rfl rfl rfl rfl rfl rfl rfl (by exact AStepD.bool (AStepD.geq rfl rfl rfl) (c := false) (by simpa using hk)) ?_ | refine AL.gskip rfl rfl rfl rfl rfl rfl rfl ?_ | refine AL.gnone rfl rfl rfl rfl rfl ?_ | refine AL.gmay rfl rfl rfl rfl rfl rfl (fun hb => by (try (apply AStepD.uncond 24 rfl (gpf hb))); (try (apply AStepD.uncond 26 rfl (gpf hb))); exact (by exact AStepD.bool (AStepD.geq rfl rfl rfl) (c := false) (by simpa using hk))) ?_ | refine AL.gmay2 rfl rfl rfl rfl rfl rfl (fun _ hb => by (try (apply AStepD.uncond 24 rfl (gpf hb))); (try (apply AStepD.uncond 26 rfl (gpf hb))); exact (by exact AStepD.bool (AStepD.geq rfl rfl rfl) (c := false) (by simpa using hk))) ?_
  refine AL.step rfl rfl rfl qF9 ?_
  refine AL.step rfl rfl rfl qA16 ?_
  first | refine AL.gstep rfl rfl rfl rfl rfl rfl rfl qA16 ?_ | refine AL.gskip rfl rfl rfl rfl rfl rfl rfl ?_ | refine AL.gnone rfl rfl rfl rfl rfl ?_ | refine AL.gmay rfl rfl rfl rfl rfl rfl qP5 ?_ | refine AL.gmay2 rfl rfl rfl rfl rfl rfl qP6 ?_
  first | refine AL.gstep rfl rfl rfl rfl rfl rfl rfl qF2 ?_ | refine AL.gskip rfl rfl rfl rfl rfl rfl rfl ?_ | refine AL.gnone rfl rfl rfl rfl rfl ?_ | refine AL.gmay rfl rfl rfl rfl rfl rfl qP7 ?_ | refine AL.gmay2 rfl rfl rfl rfl rfl rfl qP8 ?_
  refine AL.step rfl rfl rfl qF9 ?_
  refine AL.step rfl rfl rfl qA16 ?_
  first | refine AL.gstep rfl rfl rfl rfl rfl rfl rfl qA16 ?_ | refine AL.gskip rfl rfl rfl rfl rfl rfl rfl ?_ | refine AL.gnone rfl rfl rfl rfl rfl ?_ | refine AL.gmay rfl rfl rfl rfl rfl rfl qP5 ?_ | refine AL.gmay2 rfl rfl rfl rfl rfl rfl qP6 ?_
  first | refine AL.gstep rfl rfl rfl rfl rfl rfl rfl qA16 ?_ | refine AL.gskip rfl rfl rfl rfl rfl rfl rfl ?_ | refine AL.gnone rfl rfl rfl rfl rfl ?_ | refine AL.gmay rfl rfl rfl rfl rfl rfl qG1 ?_ | refine AL.gmay2 rfl rfl rfl rfl rfl rfl qG2 ?_
  first | refine AL.gstep rfl rfl rfl rfl rfl rfl rfl qA16 ?_ | refine AL.gskip rfl rfl rfl rfl rfl rfl rfl ?_ | refine AL.gnone rfl rfl rfl rfl rfl ?_ | refine AL.gmay rfl rfl rfl rfl rfl rfl qG4 ?_ | refine AL.gmay2 rfl rfl rfl rfl rfl rfl qG5 ?_
  first | refine AL.gstep rfl rfl rfl rfl rfl rfl rfl qA18 ?_ | refine AL.gskip rfl rfl rfl rfl rfl rfl rfl ?_ | refine AL.gnone rfl rfl rfl rfl rfl ?_ | refine AL.gmay rfl rfl rfl rfl rfl rfl qP9 ?_ | refine AL.gmay2 rfl rfl rfl rfl rfl rfl qP10 ?_
  first | refine AL.gstep rfl rfl rfl rfl rfl rfl rfl qF10 ?_ | refine AL.gskip rfl rfl rfl rfl rfl rfl rfl ?_ | refine AL.gnone rfl rfl rfl rfl rfl ?_ | refine AL.gmay rfl rfl rfl rfl rfl rfl qP11 ?_ | refine AL.gmay2 rfl rfl rfl rfl rfl rfl qP12 ?_
  first | refine AL.gstep rfl rfl rfl rfl rfl rfl rfl (by exact AStepD.load_one_ip tok rfl rfl rfl rfl rfl hload0) ?_ | refine AL.gskip rfl rfl rfl rfl rfl rfl rfl ?_ | refine AL.gnone rfl rfl rfl rfl rfl ?_ | refine AL.gmay rfl rfl rfl rfl rfl rfl (fun hb => by (try (apply AStepD.uncond 38 rfl (gpf hb))); exact (by exact AStepD.load_one_ip tok rfl rfl rfl rfl rfl hload0)) ?_ | refine AL.gmay2 rfl rfl rfl rfl rfl rfl (fun _ hb => by (try (apply AStepD.uncond 38 rfl (gpf hb))); exact (by exact AStepD.load_one_ip tok rfl rfl rfl rfl rfl hload0)) ?_
  first | refine AL.gstep rfl rfl rfl rfl rfl rfl rfl (by exact AStepD.sub rfl rfl rfl (by first | exact IntWalk.i64_in _ (by omega) | exact IntWalk.i64_in _ (by simp only [Bool.or_eq_true, Bool.and_eq_true, Bool.or_eq_false_iff, Bool.and_eq_false_iff, Bool.not_eq_true', Bool.not_eq_false', decide_eq_true_eq, decide_eq_false_iff_not, Int.not_lt, Int.not_le, beq_iff_eq] at *; omega) | exact rfl)) ?_ | refine AL.gskip rfl rfl rfl rfl rfl rfl rfl ?_ | refine AL.gnone rfl rfl rfl rfl rfl ?_ | refine AL.gmay rfl rfl rfl rfl rfl rfl (fun hb => by (try (apply AStepD.uncond 39 rfl (gpf hb))); exact (by exact AStepD.sub rfl rfl rfl (by first | exact IntWalk.i64_in _ (by omega) | exact IntWalk.i64_in _ (by simp only [Bool.or_eq_true, Bool.and_eq_true, Bool.or_eq_false_iff, Bool.and_eq_false_iff, Bool.not_eq_true', Bool.not_eq_false', decide_eq_true_eq, decide_eq_false_iff_not, Int.not_lt, Int.not_le, beq_iff_eq] at *; omega) | exact rfl))) ?_ | refine AL.gmay2 rfl rfl rfl rfl rfl rfl (fun _ hb => by (try (apply AStepD.uncond 39 rfl (gpf hb))); exact (by exact AStepD.sub rfl rfl rfl (by first | exact IntWalk.i64_in _ (by omega) | exact IntWalk.i64_in _ (by simp only [Bool.or_eq_true, Bool.and_eq_true, Bool.or_eq_false_iff, Bool.and_eq_false_iff, Bool.not_eq_true', Bool.not_eq_false', decide_eq_true_eq, decide_eq_false_iff_not, Int.not_lt, Int.not_le, beq_iff_eq] at *; omega) | exact rfl))) ?_
  first | refine AL.gstep rfl rfl rfl rfl rfl rfl rfl qF3 ?_ | refine AL.gskip rfl rfl rfl rfl rfl rfl rfl ?_ | refine AL.gnone rfl rfl rfl rfl rfl ?_ | refine AL.gmay rfl rfl rfl rfl rfl rfl qP15 ?_ | refine AL.gmay2 rfl rfl rfl rfl rfl rfl qP16 ?_
  refine AL.step rfl rfl rfl qF9 ?_
  refine AL.nil_then (hK _ _ ?_); clear hK K
  refine AW.cond _ rfl (fun hc => ?_) (fun hc => ?_)
  · refine AW.seq_region (fun K hK => ?_)
    refine AL.step rfl rfl rfl qA13 ?_
    refine AL.nil_then (hK _ _ ?_); clear hK K
    exact AW.ret (RetQ.mk (.inr rfl) (retA_tmp rfl qA1 retA_nil) rfl)
  (try simp only [Bool.or_eq_true, Bool.and_eq_true, Bool.or_eq_false_iff, Bool.and_eq_false_iff, Bool.not_eq_true', Bool.not_eq_false', decide_eq_true_eq, decide_eq_false_iff_not, Int.not_lt, Int.not_le] at hc)
  have hm0 : 0 ≤ more := by omega
  have hm1 : o + more ≤ 281474976710656 := by omega
  clear hc
  refine AW.skip ?_
  refine hK2 _ _ ?_; try clear hK2 K2
  refine AW.seq_region (fun K hK => ?_)
  refine AL.step rfl rfl rfl qN2 ?_
  refine AL.step rfl rfl rfl qA16 ?_
  refine AL.step rfl rfl rfl (by exact AStepD.app_flat (bk := 64) (xs := []) (ys := l) tok rfl rfl rfl rfl rfl rfl rfl rfl (show _ = 2 from rfl) rfl rfl qA14 rfl qA7 qA7) ?_
  refine AL.step rfl rfl rfl qA13 ?_
  refine AL.nil_then (hK _ _ ?_); clear hK K
  rw [List.nil_append]
  have hover : over (flat l) (k * 2 + 1) [.v (.int .i64 (o + more))] = flat (riseL l k more) := by
    rw [rise_set l k more hk, ← ho]
    exact over_flat l k 1 hk _ _ (by simp only [List.length_cons, List.length_nil]; decide) rfl
  have hln : (flat l).length = l.length * 2 := flat_length l
  have hov : k * 2 + 1 + 1 ≤ (flat l).length := by omega
  refine AW.seq_region (fun K hK => ?_)
  refine AL.step rfl rfl rfl qA16 ?_
  refine AL.step rfl rfl rfl qA16 ?_
  refine AL.step rfl rfl rfl qA18 ?_
  refine AL.step rfl rfl rfl qF10 ?_
  refine AL.step rfl rfl rfl qB2 ?_
  refine AL.step rfl rfl rfl qA16 ?_
  refine AL.step rfl rfl rfl (by first | exact AStepD.add rfl rfl rfl (by first | exact IntWalk.i64_in _ (by omega) | exact IntWalk.i64_in _ (by simp only [Bool.or_eq_true, Bool.and_eq_true, Bool.or_eq_false_iff, Bool.and_eq_false_iff, Bool.not_eq_true', Bool.not_eq_false', decide_eq_true_eq, decide_eq_false_iff_not, Int.not_lt, Int.not_le, beq_iff_eq] at *; omega) | exact rfl) | exact AStepD.str_add rfl rfl rfl (by omega)) ?_
  refine AL.step rfl rfl rfl qA18 ?_
  refine AL.step rfl rfl rfl qF10 ?_
  refine AL.step0 rfl rfl qB6 ?_
  refine AL.nil_then (hK _ _ ?_); clear hK K
  refine AW.vecL (s := 7) (Lst.mk (b := 0) (t := 29) (cs := List.take (k * 2 + 1) (flat l) ++ [.v (.int .i64 (o + more))] ++ List.drop (k * 2 + 1 + 1) (flat l)) (Nat.zero_le _) qA12 qA14 hover (rise_length l k more).symm rfl) rfl ?_
  have hr2 : rightB (riseL l k more) = true := rise_right hr hk hm0 (by rw [ho]; exact hm1)
  have hlm : (riseL l k more).length ≤ 8000000 := by rw [rise_length]; exact hll
  have hrk := fun i (hi : i < l.length) => rise_rank hm0 hr2 hi
  generalize riseL l k more = m at hr2 hlm hrk ⊢
  clear hover hload hload0 hov hok ho hm1
  refine AW.seq_k (fun K3 hK3 => ?_)
  refine AW.seq_region (fun K hK => ?_)
  refine AL.step rfl rfl rfl qA16 ?_
  refine AL.step rfl rfl rfl qF8 ?_
  refine AL.step rfl rfl rfl qA16 ?_
  refine AL.nil_then (hK _ _ ?_); clear hK K
  refine AW.block ?_
  refine AW.loop_at (ι := Nat) (fun i => [(57, .v (.int .i64 (i : Nat))), (56, .v (.int .i64 (l.length : Nat))), (55, vecA l), (7, vecA m), (1, .v (.int .i64 (k : Nat))), (0, vecA l)])
    (fun i H' => i ≤ l.length) (fun i => l.length - i) 0 qA17 (Nat.zero_le _) ?_
  rintro i H2 hi
  refine AW.seq_region (fun K hK => ?_)
  refine AL.step rfl rfl rfl qF2 ?_
  refine AL.nil_then (hK _ _ ?_); clear hK K
  refine AW.seq_k (fun K4 hK4 => ?_)
  refine AW.cond _ rfl (fun hc => ?_) (fun hc => ?_)
  · (try simp only [Bool.or_eq_true, Bool.and_eq_true, Bool.or_eq_false_iff, Bool.and_eq_false_iff, Bool.not_eq_true', Bool.not_eq_false', decide_eq_true_eq, decide_eq_false_iff_not, Int.not_lt, Int.not_le] at hc)
    have hil : i < l.length := by omega
    obtain ⟨b, e3, e4, h5, h6⟩ := hrk i hil
    obtain ⟨e1, e2⟩ := rank_in hr (List.getElem_mem hil)
    have hcp : l.countP (fun x => ahead x l[i]) ≤ l.length := List.countP_le_length
    clear hc hrk
    refine AW.skip ?_
    refine hK4 _ _ ?_; try clear hK4 K4
    refine AW.seq_k (fun K5 hK5 => ?_)
    refine AW.block ?_
    refine AW.seq_region (fun K hK => ?_)
    refine AL.step rfl rfl rfl qA16 ?_
    refine AL.step rfl rfl rfl qA18 ?_
    refine AL.step rfl rfl rfl qA20 ?_
    refine AL.step rfl rfl rfl qH1 ?_
    refine AL.step rfl rfl rfl qA13 ?_
    refine AL.step0 rfl rfl qB6 ?_
    refine AL.nil_then (hK _ _ ?_); clear hK K
    refine AW.seq_region (fun K hK => ?_)
    refine AL.step rfl rfl rfl qA16 ?_
    refine AL.step rfl rfl rfl qE7 ?_
    refine AL.step rfl rfl rfl qB2 ?_
    refine AL.step rfl rfl rfl (by exact AStepD.callf rfl en16 rfl (rank_calls _ l l[i].id hll)) ?_
    refine AL.step rfl rfl rfl qA16 ?_
    refine AL.step rfl rfl rfl qG7 ?_
    refine AL.step rfl rfl rfl qG7 ?_
    refine AL.step rfl rfl rfl qA13 ?_
    refine AL.step rfl rfl rfl qA13 ?_
    refine AL.nil_then (hK _ _ ?_); clear hK K
    refine AW.seq_region (fun K hK => ?_)
    refine AL.step rfl rfl rfl qA16 ?_
    refine AL.step rfl rfl rfl qE7 ?_
    refine AL.step rfl rfl rfl qB2 ?_
    refine AL.step rfl rfl rfl (by exact AStepD.callf rfl en16 rfl (rank_calls _ m l[i].id hlm)) ?_
    refine AL.step rfl rfl rfl qA16 ?_
    refine AL.step rfl rfl rfl qG7 ?_
    refine AL.step rfl rfl rfl qG7 ?_
    refine AL.step rfl rfl rfl qA13 ?_
    refine AL.step rfl rfl rfl qA13 ?_
    refine AL.nil_then (hK _ _ ?_); clear hK K
    rw [e1, e2, e3, e4]
    clear e1 e2 e3 e4
    generalize l.countP (fun x => ahead x l[i]) = a at hcp h5 h6 ⊢
    refine AW.seq_region (fun K hK => ?_)
    refine AL.step rfl rfl rfl qA16 ?_
    refine AL.step rfl rfl rfl qG8 ?_
    refine AL.step rfl rfl rfl qA16 ?_
    first | refine AL.gstep rfl rfl rfl rfl rfl rfl rfl qA16 ?_ | refine AL.gskip rfl rfl rfl rfl rfl rfl rfl ?_ | refine AL.gnone rfl rfl rfl rfl rfl ?_ | refine AL.gmay rfl rfl rfl rfl rfl rfl qO1 ?_ | refine AL.gmay2 rfl rfl rfl rfl rfl rfl qO2 ?_
    first | refine AL.gstep rfl rfl rfl rfl rfl rfl rfl qG8 ?_ | refine AL.gskip rfl rfl rfl rfl rfl rfl rfl ?_ | refine AL.gnone rfl rfl rfl rfl rfl ?_ | refine AL.gmay rfl rfl rfl rfl rfl rfl (fun hb => by (try (apply AStepD.uncond 79 rfl (gpf hb))); exact qG8) ?_ | refine AL.gmay2 rfl rfl rfl rfl rfl rfl (fun _ hb => by (try (apply AStepD.uncond 79 rfl (gpf hb))); exact qG8) ?_
    refine AL.step rfl rfl rfl qF9 ?_
    refine AL.step rfl rfl rfl qA16 ?_
    first | refine AL.gstep rfl rfl rfl rfl rfl rfl rfl qA16 ?_ | refine AL.gskip rfl rfl rfl rfl rfl rfl rfl ?_ | refine AL.gnone rfl rfl rfl rfl rfl ?_ | refine AL.gmay rfl rfl rfl rfl rfl rfl qP17 ?_ | refine AL.gmay2 rfl rfl rfl rfl rfl rfl qP18 ?_
    first | refine AL.gstep rfl rfl rfl rfl rfl rfl rfl qA16 ?_ | refine AL.gskip rfl rfl rfl rfl rfl rfl rfl ?_ | refine AL.gnone rfl rfl rfl rfl rfl ?_ | refine AL.gmay rfl rfl rfl rfl rfl rfl qG4 ?_ | refine AL.gmay2 rfl rfl rfl rfl rfl rfl qG5 ?_
    first | refine AL.gstep rfl rfl rfl rfl rfl rfl rfl qE3 ?_ | refine AL.gskip rfl rfl rfl rfl rfl rfl rfl ?_ | refine AL.gnone rfl rfl rfl rfl rfl ?_ | refine AL.gmay rfl rfl rfl rfl rfl rfl (fun hb => by (try (apply AStepD.uncond 83 rfl (gpf hb))); (try (apply AStepD.uncond 84 rfl (gpf hb))); exact qE3) ?_ | refine AL.gmay2 rfl rfl rfl rfl rfl rfl (fun _ hb => by (try (apply AStepD.uncond 83 rfl (gpf hb))); (try (apply AStepD.uncond 84 rfl (gpf hb))); exact qE3) ?_
    first | refine AL.gstep rfl rfl rfl rfl rfl rfl rfl qA16 ?_ | refine AL.gskip rfl rfl rfl rfl rfl rfl rfl ?_ | refine AL.gnone rfl rfl rfl rfl rfl ?_ | refine AL.gmay rfl rfl rfl rfl rfl rfl (fun hb => by (try (apply AStepD.uncond 85 rfl (gpf hb))); exact qA16) ?_ | refine AL.gmay2 rfl rfl rfl rfl rfl rfl (fun _ hb => by (try (apply AStepD.uncond 85 rfl (gpf hb))); exact qA16) ?_
    first | refine AL.gstep rfl rfl rfl rfl rfl rfl rfl qA16 ?_ | refine AL.gskip rfl rfl rfl rfl rfl rfl rfl ?_ | refine AL.gnone rfl rfl rfl rfl rfl ?_ | refine AL.gmay rfl rfl rfl rfl rfl rfl qP19 ?_ | refine AL.gmay2 rfl rfl rfl rfl rfl rfl qP20 ?_
    first | refine AL.gstep rfl rfl rfl rfl rfl rfl rfl qA16 ?_ | refine AL.gskip rfl rfl rfl rfl rfl rfl rfl ?_ | refine AL.gnone rfl rfl rfl rfl rfl ?_ | refine AL.gmay rfl rfl rfl rfl rfl rfl qP21 ?_ | refine AL.gmay2 rfl rfl rfl rfl rfl rfl qP22 ?_
    first | refine AL.gstep rfl rfl rfl rfl rfl rfl rfl qF3 ?_ | refine AL.gskip rfl rfl rfl rfl rfl rfl rfl ?_ | refine AL.gnone rfl rfl rfl rfl rfl ?_ | refine AL.gmay rfl rfl rfl rfl rfl rfl (fun hb => by (try (apply AStepD.uncond 87 rfl (gpf hb))); (try (apply AStepD.uncond 88 rfl (gpf hb))); exact qF3) ?_ | refine AL.gmay2 rfl rfl rfl rfl rfl rfl (fun _ hb => by (try (apply AStepD.uncond 87 rfl (gpf hb))); (try (apply AStepD.uncond 88 rfl (gpf hb))); exact qF3) ?_
    first | refine AL.gstep rfl rfl rfl rfl rfl rfl rfl qF9 ?_ | refine AL.gskip rfl rfl rfl rfl rfl rfl rfl ?_ | refine AL.gnone rfl rfl rfl rfl rfl ?_ | refine AL.gmay rfl rfl rfl rfl rfl rfl (fun hb => by (try (apply AStepD.uncond 86 rfl (gpf hb))); (try (apply AStepD.uncond 89 rfl (gpf hb))); exact qF9) ?_ | refine AL.gmay2 rfl rfl rfl rfl rfl rfl (fun _ hb => by (try (apply AStepD.uncond 86 rfl (gpf hb))); (try (apply AStepD.uncond 89 rfl (gpf hb))); exact qF9) ?_
    refine AL.step rfl rfl rfl qF9 ?_
    refine AL.step rfl rfl rfl qA16 ?_
    first | refine AL.gstep rfl rfl rfl rfl rfl rfl rfl qA16 ?_ | refine AL.gskip rfl rfl rfl rfl rfl rfl rfl ?_ | refine AL.gnone rfl rfl rfl rfl rfl ?_ | refine AL.gmay rfl rfl rfl rfl rfl rfl qP17 ?_ | refine AL.gmay2 rfl rfl rfl rfl rfl rfl qP18 ?_
    first | refine AL.gstep rfl rfl rfl rfl rfl rfl rfl qA16 ?_ | refine AL.gskip rfl rfl rfl rfl rfl rfl rfl ?_ | refine AL.gnone rfl rfl rfl rfl rfl ?_ | refine AL.gmay rfl rfl rfl rfl rfl rfl qG4 ?_ | refine AL.gmay2 rfl rfl rfl rfl rfl rfl qG5 ?_
    first | refine AL.gstep rfl rfl rfl rfl rfl rfl rfl qG8 ?_ | refine AL.gskip rfl rfl rfl rfl rfl rfl rfl ?_ | refine AL.gnone rfl rfl rfl rfl rfl ?_ | refine AL.gmay rfl rfl rfl rfl rfl rfl (fun hb => by (try (apply AStepD.uncond 93 rfl (gpf hb))); (try (apply AStepD.uncond 94 rfl (gpf hb))); exact qG8) ?_ | refine AL.gmay2 rfl rfl rfl rfl rfl rfl (fun _ hb => by (try (apply AStepD.uncond 93 rfl (gpf hb))); (try (apply AStepD.uncond 94 rfl (gpf hb))); exact qG8) ?_
    first | refine AL.gstep rfl rfl rfl rfl rfl rfl rfl qA16 ?_ | refine AL.gskip rfl rfl rfl rfl rfl rfl rfl ?_ | refine AL.gnone rfl rfl rfl rfl rfl ?_ | refine AL.gmay rfl rfl rfl rfl rfl rfl (fun hb => by (try (apply AStepD.uncond 95 rfl (gpf hb))); exact qA16) ?_ | refine AL.gmay2 rfl rfl rfl rfl rfl rfl (fun _ hb => by (try (apply AStepD.uncond 95 rfl (gpf hb))); exact qA16) ?_
    first | refine AL.gstep rfl rfl rfl rfl rfl rfl rfl qA16 ?_ | refine AL.gskip rfl rfl rfl rfl rfl rfl rfl ?_ | refine AL.gnone rfl rfl rfl rfl rfl ?_ | refine AL.gmay rfl rfl rfl rfl rfl rfl qP19 ?_ | refine AL.gmay2 rfl rfl rfl rfl rfl rfl qP20 ?_
    first | refine AL.gstep rfl rfl rfl rfl rfl rfl rfl qA16 ?_ | refine AL.gskip rfl rfl rfl rfl rfl rfl rfl ?_ | refine AL.gnone rfl rfl rfl rfl rfl ?_ | refine AL.gmay rfl rfl rfl rfl rfl rfl qP21 ?_ | refine AL.gmay2 rfl rfl rfl rfl rfl rfl qP22 ?_
    first | refine AL.gstep rfl rfl rfl rfl rfl rfl rfl qF2 ?_ | refine AL.gskip rfl rfl rfl rfl rfl rfl rfl ?_ | refine AL.gnone rfl rfl rfl rfl rfl ?_ | refine AL.gmay rfl rfl rfl rfl rfl rfl (fun hb => by (try (apply AStepD.uncond 97 rfl (gpf hb))); (try (apply AStepD.uncond 98 rfl (gpf hb))); exact qF2) ?_ | refine AL.gmay2 rfl rfl rfl rfl rfl rfl (fun _ hb => by (try (apply AStepD.uncond 97 rfl (gpf hb))); (try (apply AStepD.uncond 98 rfl (gpf hb))); exact qF2) ?_
    first | refine AL.gstep rfl rfl rfl rfl rfl rfl rfl qF9 ?_ | refine AL.gskip rfl rfl rfl rfl rfl rfl rfl ?_ | refine AL.gnone rfl rfl rfl rfl rfl ?_ | refine AL.gmay rfl rfl rfl rfl rfl rfl (fun hb => by (try (apply AStepD.uncond 96 rfl (gpf hb))); (try (apply AStepD.uncond 99 rfl (gpf hb))); exact qF9) ?_ | refine AL.gmay2 rfl rfl rfl rfl rfl rfl (fun _ hb => by (try (apply AStepD.uncond 96 rfl (gpf hb))); (try (apply AStepD.uncond 99 rfl (gpf hb))); exact qF9) ?_
    refine AL.step rfl rfl rfl qF9 ?_
    refine AL.nil_then (hK _ _ ?_); clear hK K
    refine AW.cond _ rfl (fun hc => ?_) (fun hc => ?_)
    · exfalso
      (try simp only [Bool.or_eq_true, Bool.and_eq_true, Bool.or_eq_false_iff, Bool.and_eq_false_iff, Bool.not_eq_true', Bool.not_eq_false', decide_eq_true_eq, decide_eq_false_iff_not, Int.not_lt, Int.not_le] at hc)
      simp at hc
      omega
    clear hc
    refine AW.skip ?_
    refine hK5 _ _ ?_; try clear hK5 K5
    refine AW.region ?_
    refine AL.step rfl rfl rfl (by first | exact AStepD.add rfl rfl rfl (by first | exact IntWalk.i64_in _ (by omega) | exact IntWalk.i64_in _ (by simp only [Bool.or_eq_true, Bool.and_eq_true, Bool.or_eq_false_iff, Bool.and_eq_false_iff, Bool.not_eq_true', Bool.not_eq_false', decide_eq_true_eq, decide_eq_false_iff_not, Int.not_lt, Int.not_le, beq_iff_eq] at *; omega) | exact rfl) | exact AStepD.str_add rfl rfl rfl (by omega)) ?_
    refine AL.step rfl rfl rfl qA16 ?_
    refine AL.nil ?_
    exact ⟨i + 1, by omega, qA17, hil⟩
  · refine AW.exit ?_
    refine hK3 _ _ ?_; try clear hK3 K3
    refine AW.seq_region (fun K hK => ?_)
    refine AL.step rfl rfl rfl qA13 ?_
    refine AL.nil_then (hK _ _ ?_); clear hK K
    exact AW.ret (RetQ.mk (.inr rfl) (retA_tmp rfl qA1 retA_nil) rfl)
end Go.Proofs.Ytmjookofajlcoaa
