/- The walks of the reference's Add, Forget, Set and Next. -/
import Derived.Test.YtjiifddmcmbbnaaQA
namespace Go.Proofs.Ytjiifddmcmbbnaa
open Go.Ax
theorem qQB1 {p : Prop} (h : p := by first | exact AStepD.load_agg tok rfl rfl rfl qRA6 rfl (show _ = 4 from rfl) qRA12 qRA15 | exact AStepD.load_agg_ip tok rfl rfl rfl rfl (show _ = 4 from rfl) qRA12 qRA15) : p := h
theorem qQB2 {p : Prop} (h : p := by first | exact retA_agg rfl rfl rfl qRA6 rfl (show _ = 4 from rfl) qRA12 qRA15 (retA_tmp rfl qRA1 retA_nil) | exact retA_one rfl rfl rfl rfl qRA6 rfl qRA7 (retA_tmp rfl qRA1 retA_nil)) : p := h
theorem qQB3 {p : Prop} (h : p := by exact (fun hb => by (try (apply AStepD.uncond 3 rfl (gpf hb))); exact qRD9)) : p := h
theorem qQB4 {p : Prop} (h : p := by exact (fun _ hb => by (try (apply AStepD.uncond 3 rfl (gpf hb))); exact qRD9)) : p := h
theorem qQB5 {p : Prop} (h : p := by exact (fun hb => by (try (apply AStepD.uncond 49 rfl (gpf hb))); exact qRB5)) : p := h
theorem qQB6 {p : Prop} (h : p := by exact (fun _ hb => by (try (apply AStepD.uncond 49 rfl (gpf hb))); exact qRB5)) : p := h
theorem qQB7 {p : Prop} (h : p := by exact (fun hb => by (try (apply AStepD.uncond 50 rfl (gpf hb))); (try (apply AStepD.uncond 51 rfl (gpf hb))); exact qRA24)) : p := h
theorem qQB8 {p : Prop} (h : p := by exact (fun _ hb => by (try (apply AStepD.uncond 50 rfl (gpf hb))); (try (apply AStepD.uncond 51 rfl (gpf hb))); exact qRA24)) : p := h
theorem qQB9 {p : Prop} (h : p := by exact (fun hb => by (try (apply AStepD.uncond 52 rfl (gpf hb))); exact qRB18)) : p := h
theorem qQB10 {p : Prop} (h : p := by exact (fun _ hb => by (try (apply AStepD.uncond 52 rfl (gpf hb))); exact qRB18)) : p := h
theorem qQB11 {p : Prop} (h : p := by exact (fun hb => by (try (apply AStepD.uncond 53 rfl (gpf hb))); exact qRB5)) : p := h
theorem qQB12 {p : Prop} (h : p := by exact (fun _ hb => by (try (apply AStepD.uncond 53 rfl (gpf hb))); exact qRB5)) : p := h
theorem qQB13 {p : Prop} (h : p := by exact (fun hb => by (try (apply AStepD.uncond 54 rfl (gpf hb))); (try (apply AStepD.uncond 55 rfl (gpf hb))); exact qRA3)) : p := h
theorem qQB14 {p : Prop} (h : p := by exact (fun _ hb => by (try (apply AStepD.uncond 54 rfl (gpf hb))); (try (apply AStepD.uncond 55 rfl (gpf hb))); exact qRA3)) : p := h
set_option linter.unusedSimpArgs false
set_option linter.unusedVariables false

def raddE (r : Ros) (w t : Int) : Int := if asked r.self w t ≠ 0 then asked r.self w t else if has r.ms w then 32 else if refB r.bs w t then 34 else if r.ms.length = 15 then 31 else 0
def raddR (r : Ros) (w : Int) : Ros := ⟨r.self, r.ms.take (pos r.ms w) ++ fresh w :: r.ms.drop (pos r.ms w), noB r.bs w, r.cur⟩
theorem asked_cases (s w t : Int) : asked s w t = if !idB w || !timeB t then 10 else if w = s then 33 else 0 := rfl

theorem radd_calls (H : AHeap) (r : Ros) (w t : Int) (hI : Inv r) (hl : r.bs.length ≤ 1000000) :
    ACalls Try.prog 20 [.agg (refC r), .v (.int .i64 w), .v (.int .i64 t)] H (fun v H' => v = .tup [.agg (refC (if raddE r w t = 0 then raddR r w else r)), .v (.int .i64 (raddE r w t))] ∧ H' = H) := by
  refine ACalls.quiet_keep ?_ (.tup (by simp only [List.forall_mem_cons]; exact ⟨.agg (refC_plain _), .v _, fun _ h => absurd h List.not_mem_nil⟩))
  refine ACalls.lts fun hlt => ?_
  have hone := refC_one r
  have h15 := hI.2
  have hfl := flat_length r.ms
  have hno : ∀ e : Int, raddE r w t = e → e ≠ 0 → AV.tup [.agg (refC r), .v (.int .i64 e)] = .tup [.agg (refC (if raddE r w t = 0 then raddR r w else r)), .v (.int .i64 (raddE r w t))] := by
    intro e he h0
    subst he
    rw [if_neg h0]
  refine ACalls.of_body tok Try.func20 rfl Try.ntmps20 (Nat.le_of_ble_eq_true rfl) ?_
  refine AW.seq_region (fun K hK => ?_)
  refine AL.step rfl rfl rfl qRM1 ?_
  refine AL.step rfl rfl rfl qRJ1 ?_
  refine AL.step rfl rfl rfl qRA18 ?_
  refine AL.nil_then (hK _ _ ?_); clear hK K
  refine AW.seq_k (fun K hK => ?_)
  refine AW.seq_region (fun K hK => ?_)
  refine AL.step rfl rfl rfl qRA19 ?_
  refine AL.step rfl rfl rfl (by exact AStepD.callf rfl en19 rfl (rid_calls _ w)) ?_
  refine AL.step rfl rfl rfl qRB9 ?_
  refine AL.step rfl rfl rfl qRA19 ?_
  first | refine AL.gstep rfl rfl rfl rfl rfl rfl rfl qRA19 ?_ | refine AL.gskip rfl rfl rfl rfl rfl rfl rfl ?_ | refine AL.gnone rfl rfl rfl rfl rfl ?_ | refine AL.gmay rfl rfl rfl rfl rfl rfl qRA30 ?_ | refine AL.gmay2 rfl rfl rfl rfl rfl rfl qRA31 ?_
  first | refine AL.gstep rfl rfl rfl rfl rfl rfl rfl (by exact AStepD.callf rfl en34 rfl (rtime_calls _ t)) ?_ | refine AL.gskip rfl rfl rfl rfl rfl rfl rfl ?_ | refine AL.gnone rfl rfl rfl rfl rfl ?_ | refine AL.gmay rfl rfl rfl rfl rfl rfl (fun hb => by (try (apply AStepD.uncond 14 rfl (gpf hb))); exact (by exact AStepD.callf rfl en34 rfl (rtime_calls _ t))) ?_ | refine AL.gmay2 rfl rfl rfl rfl rfl rfl (fun _ hb => by (try (apply AStepD.uncond 14 rfl (gpf hb))); exact (by exact AStepD.callf rfl en34 rfl (rtime_calls _ t))) ?_
  first | refine AL.gstep rfl rfl rfl rfl rfl rfl rfl qRB9 ?_ | refine AL.gskip rfl rfl rfl rfl rfl rfl rfl ?_ | refine AL.gnone rfl rfl rfl rfl rfl ?_ | refine AL.gmay rfl rfl rfl rfl rfl rfl (fun hb => by (try (apply AStepD.uncond 15 rfl (gpf hb))); exact qRB9) ?_ | refine AL.gmay2 rfl rfl rfl rfl rfl rfl (fun _ hb => by (try (apply AStepD.uncond 15 rfl (gpf hb))); exact qRB9) ?_
  refine AL.step rfl rfl rfl qRA28 ?_
  refine AL.nil_then (hK _ _ ?_); clear hK K
  refine AW.cond _ rfl (fun hc => ?_) (fun hc => ?_)
  · refine AW.seq_region (fun K hK => ?_)
    refine AL.step rfl rfl rfl qQB1 ?_
    refine AL.step0 rfl rfl qRE5 ?_
    refine AL.step rfl rfl rfl qRA18 ?_
    refine AL.nil_then (hK _ _ ?_); clear hK K
    have ha : asked r.self w t = 10 := by rw [asked, if_pos hc]
    refine AW.ret (RetQ.mk (.inr rfl) qQB2 ⟨?_, qRA8⟩)
    exact hno 10 (by rw [raddE, ha]; rfl) (by decide)
  refine AW.skip (hK _ _ ?_); clear hK K
  refine AW.seq_k (fun K hK => ?_)
  refine AW.seq_region (fun K hK => ?_)
  refine AL.step rfl rfl rfl qRA19 ?_
  refine AL.step rfl rfl rfl qRB18 ?_
  refine AL.step rfl rfl rfl qRB5 ?_
  refine AL.step rfl rfl rfl qRA16 ?_
  refine AL.nil_then (hK _ _ ?_); clear hK K
  refine AW.cond _ rfl (fun hc2 => ?_) (fun hc2 => ?_)
  · have hc2 := of_decide_eq_true hc2
    refine AW.seq_region (fun K hK => ?_)
    refine AL.step rfl rfl rfl qQB1 ?_
    refine AL.step0 rfl rfl qRE5 ?_
    refine AL.step rfl rfl rfl qRA18 ?_
    refine AL.nil_then (hK _ _ ?_); clear hK K
    have ha : asked r.self w t = 33 := by rw [asked, if_neg (by rw [hc]; decide), if_pos hc2]
    refine AW.ret (RetQ.mk (.inr rfl) qQB2 ⟨?_, qRA8⟩)
    exact hno 33 (by rw [raddE, ha]; rfl) (by decide)
  have hc2 := of_decide_eq_false hc2
  refine AW.skip (hK _ _ ?_); clear hK K
  have ha : asked r.self w t = 0 := by rw [asked, if_neg (by rw [hc]; decide), if_neg hc2]
  refine AW.seq_k (fun K hK => ?_)
  refine AW.seq_region (fun K hK => ?_)
  refine AL.step rfl rfl rfl qQB1 ?_
  refine AL.step rfl rfl rfl qRA19 ?_
  refine AL.step rfl rfl rfl (by exact AStepD.callf rfl en35 rfl (rfind_calls _ r w hI)) ?_
  refine AL.step rfl rfl rfl qRB1 ?_
  refine AL.nil_then (hK _ _ ?_); clear hK K
  refine AW.cond _ rfl (fun hc3 => ?_) (fun hc3 => ?_)
  · have hh : has r.ms w = true := by
      have hc3 := of_decide_eq_true hc3
      unfold findZ at hc3
      split at hc3
      · assumption
      · omega
    clear hc3
    refine AW.seq_region (fun K hK => ?_)
    refine AL.step rfl rfl rfl qQB1 ?_
    refine AL.step0 rfl rfl qRE5 ?_
    refine AL.step rfl rfl rfl qRA18 ?_
    refine AL.nil_then (hK _ _ ?_); clear hK K
    refine AW.ret (RetQ.mk (.inr rfl) qQB2 ⟨?_, qRA8⟩)
    exact hno 32 (by rw [raddE, if_neg (by omega), if_pos hh]) (by decide)
  have hh : has r.ms w = false := by
    have hc3 := of_decide_eq_false hc3
    unfold findZ at hc3
    split at hc3
    · omega
    · rename_i h; simpa using h
  clear hc3
  refine AW.skip (hK _ _ ?_); clear hK K
  refine AW.seq_k (fun K hK => ?_)
  refine AW.seq_region (fun K hK => ?_)
  refine AL.step rfl rfl rfl qQB1 ?_
  refine AL.step rfl rfl rfl qRA19 ?_
  refine AL.step rfl rfl rfl qRA19 ?_
  refine AL.step rfl rfl rfl (by exact AStepD.callf rfl en36 rfl (rbanned_calls _ r w t hl)) ?_
  refine AL.nil_then (hK _ _ ?_); clear hK K
  refine AW.cond _ rfl (fun hc4 => ?_) (fun hc4 => ?_)
  · refine AW.seq_region (fun K hK => ?_)
    refine AL.step rfl rfl rfl qQB1 ?_
    refine AL.step0 rfl rfl qRE5 ?_
    refine AL.step rfl rfl rfl qRA18 ?_
    refine AL.nil_then (hK _ _ ?_); clear hK K
    refine AW.ret (RetQ.mk (.inr rfl) qQB2 ⟨?_, qRA8⟩)
    exact hno 34 (by rw [raddE, if_neg (by omega), if_neg (by rw [hh]; decide), if_pos hc4]) (by decide)
  refine AW.skip (hK _ _ ?_); clear hK K
  refine AW.seq_k (fun K hK => ?_)
  refine AW.seq_region (fun K hK => ?_)
  refine AL.step rfl rfl rfl qRD9 ?_
  refine AL.step rfl rfl rfl qRB5 ?_
  refine AL.step rfl rfl rfl qRC9 ?_
  refine AL.step rfl rfl rfl qRA16 ?_
  refine AL.nil_then (hK _ _ ?_); clear hK K
  refine AW.cond _ rfl (fun hc5 => ?_) (fun hc5 => ?_)
  · have hc5 := of_decide_eq_true hc5
    refine AW.seq_region (fun K hK => ?_)
    refine AL.step rfl rfl rfl qQB1 ?_
    refine AL.step0 rfl rfl qRE5 ?_
    refine AL.step rfl rfl rfl qRA18 ?_
    refine AL.nil_then (hK _ _ ?_); clear hK K
    refine AW.ret (RetQ.mk (.inr rfl) qQB2 ⟨?_, qRA8⟩)
    exact hno 31 (by rw [raddE, if_neg (by omega), if_neg (by rw [hh]; decide), if_neg (by rw [hc4]; decide), if_pos (by omega)]) (by decide)
  have hc5 := of_decide_eq_false hc5
  refine AW.skip (hK _ _ ?_); clear hK K
  have he : raddE r w t = 0 := by rw [raddE, if_neg (by omega), if_neg (by rw [hh]; decide), if_neg (by rw [hc4]; decide), if_neg (by omega)]
  refine AW.seq_region (fun K hK => ?_)
  refine AL.step rfl rfl rfl qQB1 ?_
  refine AL.step rfl rfl rfl qRA19 ?_
  refine AL.step rfl rfl rfl (by exact AStepD.callf rfl en37 rfl (runban_calls _ r w hl)) ?_
  refine AL.step rfl rfl rfl qRB17 ?_
  refine AL.step0 rfl rfl qRE5 ?_
  refine AL.nil_then (hK _ _ ?_); clear hK K
  refine AW.seq_region (fun K hK => ?_)
  refine AL.step rfl rfl rfl qRA18 ?_
  refine AL.nil_then (hK _ _ ?_); clear hK K
  refine AW.seq_k (fun K hK => ?_)
  refine AW.block ?_
  refine AW.abs (fun T' H' => ∃ X Y : Nat, SubT T' [(8, .v (.int .i64 (0 : Nat))), (3, .ptr X 0), (6, .ptr Y 0), (1, .v (.int .i64 w))] ∧ H'.get X = some (.cells 47 [.v (.int .i64 r.self), .vec r.ms.length (flat r.ms), .vec (noB r.bs w).length (flatB (noB r.bs w)), .v (.int .i64 (r.cur : Nat))]) ∧ H'.get Y = some (.cells 47 (AV.ofV (tt 47).zero)) ∧ Keep H H' ∧ H.next ≤ X ∧ H.next ≤ Y ∧ X ≠ Y) ⟨H.next, H.next + 1, qRA21, qRA6, qRA6, qRA8, Nat.le_refl _, by omega, by omega⟩ ?_
  rintro T2 H2 ⟨X, Y, hs2, hX, hY, hk2, hXn, hYn, hXY⟩
  refine AW.sub hs2 ?_
  clear hs2
  refine AW.loop_at (ι := Nat) (fun x => [(8, .v (.int .i64 x)), (3, .ptr X 0), (6, .ptr Y 0), (1, .v (.int .i64 w))])
    (fun x H' => x ≤ r.ms.length ∧ H' = H2 ∧ ∀ (j : Nat) (h : j < r.ms.length), j < x → r.ms[j].i < w) (fun x => r.ms.length - x) 0 qRA21 ⟨Nat.zero_le _, rfl, fun j _ h => by omega⟩ ?_
  rintro k H3 ⟨hk, rfl, hlo⟩
  have hex : (∀ h : k < r.ms.length, w ≤ r.ms[k].i) → pos r.ms w = k := fun h => pos_eq _ _ _ hk hlo h
  have htail : ∀ T', SubT T' [(8, .v (.int .i64 k)), (3, .ptr X 0), (6, .ptr Y 0), (1, .v (.int .i64 w))] → pos r.ms w = k → K T' H3 := by
    intro T' hs hp
    refine hK _ _ ?_
    refine AW.sub hs ?_
    clear hs hK hex hlo
    refine AW.lts fun hlt3 => ?_
    have hXl := hlt3 _ _ hX
    have hYl := hlt3 _ _ hY
    have hms1 := flat_ones (r.ms.take k)
    have hms2 := flat_ones (r.ms.drop k)
    have hfo := (fresh w).one
    have hk2n := hk2.1
    have hl1 : (flat (r.ms.take k)).length = k * 5 := by rw [flat_length, List.length_take]; congr 1; omega
    have hl2 : (flat (r.ms.drop k)).length = (r.ms.length - k) * 5 := by rw [flat_length, List.length_drop]
    have hl3 : (flat (r.ms.take k) ++ (fresh w).cells).length = (k + 1) * 5 := by rw [List.length_append, hl1]; show _ + 5 = _; omega
    have hfin : flat (r.ms.take k) ++ (fresh w).cells ++ flat (r.ms.drop k) = flat (r.ms.take k ++ fresh w :: r.ms.drop k) := flat_mid _ _ _
    refine AW.seq_region (fun K hK => ?_)
    refine AL.step rfl rfl rfl qRD8 ?_
    refine AL.step rfl rfl rfl qRD9 ?_
    refine AL.step rfl rfl rfl qRB5 ?_
    refine AL.step rfl rfl rfl qRA19 ?_
    refine AL.step rfl rfl rfl (by exact AStepD.val (AStepD.slice_vec' (l := 0) (h := k) tok rfl rfl rfl rfl rfl (show _ = 5 from rfl) rfl rfl rfl rfl (Nat.zero_le _) hk rfl rfl) (show _ = AV.vec k (flat (r.ms.take k)) by rw [Nat.zero_mul, List.drop_zero, Nat.sub_zero, flat_take])) ?_
    refine AL.step rfl rfl rfl (by exact AStepD.append' (bk := 64) (n := k) (ys := flat (r.ms.take k)) tok rfl rfl rfl rfl rfl rfl rfl rfl (show _ = 5 from rfl) rfl qRA6 rfl qRA11 Src.vec hl1 hms1 (by omega) (by omega) (Nat.zero_add _) (List.nil_append _)) ?_
    refine AL.step rfl rfl rfl qRA18 ?_
    refine AL.nil_then (hK _ _ ?_); clear hK K
    refine AW.seq_region (fun K hK => ?_)
    refine AL.step rfl rfl rfl qRA19 ?_
    refine AL.step rfl rfl rfl qRA19 ?_
    refine AL.step rfl rfl rfl (by exact AStepD.val (AStepD.build tok rfl rfl rfl (by decide) rfl (show ∀ p ∈ [((0 : Nat), AV.v (.int .i64 w)), (4, AV.v (.int .i64 (-1)))], ∀ x ∈ p.2.cells, x.one = true from by simp [AV.cells, AV.one, Value.oneCell'])) (show _ = AV.agg (fresh w).cells from rfl)) ?_
    refine AL.step rfl rfl rfl (by exact AStepD.buildSlice1 tok rfl rfl rfl rfl (show _ = 5 from rfl) rfl (show _ = (fresh w).cells from rfl) rfl (by decide) hfo) ?_
    refine AL.step rfl rfl rfl (by exact AStepD.append' (bk := 64) (n := 1) (ys := (fresh w).cells) tok rfl rfl rfl rfl rfl rfl rfl rfl (show _ = 5 from rfl) rfl qRA6 rfl hl1 (Src.all qRA6 rfl) rfl hfo (by omega) (by omega) rfl rfl) ?_
    refine AL.step rfl rfl rfl qRA18 ?_
    refine AL.nil_then (hK _ _ ?_); clear hK K
    refine AW.seq_region (fun K hK => ?_)
    refine AL.step rfl rfl rfl qRA19 ?_
    refine AL.step rfl rfl rfl qRD9 ?_
    refine AL.step rfl rfl rfl qRB5 ?_
    refine AL.step rfl rfl rfl qRA19 ?_
    refine AL.step rfl rfl rfl (by exact AStepD.val (AStepD.slice_vec' (l := k) (h := r.ms.length) tok rfl rfl rfl rfl rfl (show _ = 5 from rfl) rfl rfl rfl rfl hk (Nat.le_refl _) rfl rfl) (show _ = AV.vec (r.ms.length - k) (flat (r.ms.drop k)) by rw [flat_drop, List.take_of_length_le (Nat.le_of_eq hl2)])) ?_
    refine AL.step rfl rfl rfl (by exact AStepD.append_vec (bk := 64) (n := r.ms.length - k) (ys := flat (r.ms.drop k)) (m := (r.ms.take k ++ fresh w :: r.ms.drop k).length) tok rfl rfl rfl rfl rfl rfl rfl rfl (show _ = 5 from rfl) rfl qRA6 rfl hl3 Src.vec hl2 hms2 (by omega) (by omega) (by simp; omega) hfin (flat_plain _)) ?_
    refine AL.step rfl rfl rfl qRD9 ?_
    refine AL.step0 rfl rfl qRE5 ?_
    refine AL.nil_then (hK _ _ ?_); clear hK K
    refine AW.seq_region (fun K hK => ?_)
    refine AL.step rfl rfl rfl qQB1 ?_
    refine AL.step0 rfl rfl qRE5 ?_
    refine AL.step rfl rfl rfl qRA18 ?_
    refine AL.nil_then (hK _ _ ?_); clear hK K
    refine AW.ret (RetQ.mk (.inr rfl) qQB2 ⟨?_, ?_⟩)
    · rw [if_pos he, he]
      simp only [raddR, hp]
      rfl
    · exact (by repeat' (first | exact Keep.refl _ | with_reducible assumption | apply Keep.new | apply Keep.set | apply Keep.del | (first | omega | (simp only [za, zb, zc]; omega))))
  refine AW.seq_k (fun K1 hK1 => ?_)
  by_cases hkN : k < r.ms.length
  · have hg : decide ((k : Int) < r.ms.length) = true := by simp; omega
    have hfi := flat_id r.ms k hkN
    refine AW.seq_region (fun K hK => ?_)
    refine AL.step rfl rfl rfl qRA19 ?_
    refine AL.step rfl rfl rfl qRD9 ?_
    refine AL.step rfl rfl rfl qRB5 ?_
    refine AL.step rfl rfl rfl qRC9 ?_
    refine AL.step rfl rfl rfl (by exact AStepD.bool (AStepD.lss rfl rfl rfl) hg) ?_
    refine AL.step rfl rfl rfl qRA19 ?_
    first | refine AL.gstep rfl rfl rfl rfl rfl rfl rfl qRD9 ?_ | refine AL.gskip rfl rfl rfl rfl rfl rfl rfl ?_ | refine AL.gnone rfl rfl rfl rfl rfl ?_ | refine AL.gmay rfl rfl rfl rfl rfl rfl qQB3 ?_ | refine AL.gmay2 rfl rfl rfl rfl rfl rfl qQB4 ?_
    first | refine AL.gstep rfl rfl rfl rfl rfl rfl rfl qRB5 ?_ | refine AL.gskip rfl rfl rfl rfl rfl rfl rfl ?_ | refine AL.gnone rfl rfl rfl rfl rfl ?_ | refine AL.gmay rfl rfl rfl rfl rfl rfl qQB5 ?_ | refine AL.gmay2 rfl rfl rfl rfl rfl rfl qQB6 ?_
    first | refine AL.gstep rfl rfl rfl rfl rfl rfl rfl qRA19 ?_ | refine AL.gskip rfl rfl rfl rfl rfl rfl rfl ?_ | refine AL.gnone rfl rfl rfl rfl rfl ?_ | refine AL.gmay rfl rfl rfl rfl rfl rfl qRL8 ?_ | refine AL.gmay2 rfl rfl rfl rfl rfl rfl qRL9 ?_
    first | refine AL.gstep rfl rfl rfl rfl rfl rfl rfl qRA24 ?_ | refine AL.gskip rfl rfl rfl rfl rfl rfl rfl ?_ | refine AL.gnone rfl rfl rfl rfl rfl ?_ | refine AL.gmay rfl rfl rfl rfl rfl rfl qQB7 ?_ | refine AL.gmay2 rfl rfl rfl rfl rfl rfl qQB8 ?_
    first | refine AL.gstep rfl rfl rfl rfl rfl rfl rfl qRB18 ?_ | refine AL.gskip rfl rfl rfl rfl rfl rfl rfl ?_ | refine AL.gnone rfl rfl rfl rfl rfl ?_ | refine AL.gmay rfl rfl rfl rfl rfl rfl qQB9 ?_ | refine AL.gmay2 rfl rfl rfl rfl rfl rfl qQB10 ?_
    first | refine AL.gstep rfl rfl rfl rfl rfl rfl rfl qRB5 ?_ | refine AL.gskip rfl rfl rfl rfl rfl rfl rfl ?_ | refine AL.gnone rfl rfl rfl rfl rfl ?_ | refine AL.gmay rfl rfl rfl rfl rfl rfl qQB11 ?_ | refine AL.gmay2 rfl rfl rfl rfl rfl rfl qQB12 ?_
    first | refine AL.gstep rfl rfl rfl rfl rfl rfl rfl qRA19 ?_ | refine AL.gskip rfl rfl rfl rfl rfl rfl rfl ?_ | refine AL.gnone rfl rfl rfl rfl rfl ?_ | refine AL.gmay rfl rfl rfl rfl rfl rfl qRA40 ?_ | refine AL.gmay2 rfl rfl rfl rfl rfl rfl qRA41 ?_
    first | refine AL.gstep rfl rfl rfl rfl rfl rfl rfl qRA3 ?_ | refine AL.gskip rfl rfl rfl rfl rfl rfl rfl ?_ | refine AL.gnone rfl rfl rfl rfl rfl ?_ | refine AL.gmay rfl rfl rfl rfl rfl rfl qQB13 ?_ | refine AL.gmay2 rfl rfl rfl rfl rfl rfl qQB14 ?_
    refine AL.step rfl rfl rfl qRA28 ?_
    refine AL.nil_then (hK _ _ ?_); clear hK K
    refine AW.cond _ rfl (fun hd => ?_) (fun hd => ?_)
    · have hd : r.ms[k].i < w := by simpa using hd
      refine AW.skip (hK1 _ _ ?_); clear hK1 K1
      refine AW.block ?_
      refine AW.region ?_
      refine AL.step rfl rfl rfl qRA19 ?_
      refine AL.step rfl rfl rfl qRA22 ?_
      refine AL.step rfl rfl rfl qRA18 ?_
      refine AL.nil ?_
      refine ⟨k + 1, ?_, qRA21, hkN, rfl, fun j hj hjk => ?_⟩
      · show r.ms.length - (k + 1) < r.ms.length - k
        omega
      · by_cases e : j = k
        · subst e; exact hd
        · exact hlo j hj (by omega)
    · have hd : ¬ r.ms[k].i < w := by simpa using hd
      refine AW.exit ?_
      exact htail _ qRA21 (hex fun _ => by omega)
  · have hg : decide ((k : Int) < r.ms.length) = false := by simp; omega
    refine AW.seq_region (fun K hK => ?_)
    refine AL.step rfl rfl rfl qRA19 ?_
    refine AL.step rfl rfl rfl qRD9 ?_
    refine AL.step rfl rfl rfl qRB5 ?_
    refine AL.step rfl rfl rfl qRC9 ?_
    refine AL.step rfl rfl rfl (by exact AStepD.bool (AStepD.lss rfl rfl rfl) hg) ?_
    refine AL.step rfl rfl rfl qRA19 ?_
    first | refine AL.gstep rfl rfl rfl rfl rfl rfl rfl qRD9 ?_ | refine AL.gskip rfl rfl rfl rfl rfl rfl rfl ?_ | refine AL.gnone rfl rfl rfl rfl rfl ?_ | refine AL.gmay rfl rfl rfl rfl rfl rfl qQB3 ?_ | refine AL.gmay2 rfl rfl rfl rfl rfl rfl qQB4 ?_
    first | refine AL.gstep rfl rfl rfl rfl rfl rfl rfl qRB5 ?_ | refine AL.gskip rfl rfl rfl rfl rfl rfl rfl ?_ | refine AL.gnone rfl rfl rfl rfl rfl ?_ | refine AL.gmay rfl rfl rfl rfl rfl rfl qQB5 ?_ | refine AL.gmay2 rfl rfl rfl rfl rfl rfl qQB6 ?_
    first | refine AL.gstep rfl rfl rfl rfl rfl rfl rfl qRA19 ?_ | refine AL.gskip rfl rfl rfl rfl rfl rfl rfl ?_ | refine AL.gnone rfl rfl rfl rfl rfl ?_ | refine AL.gmay rfl rfl rfl rfl rfl rfl qRL8 ?_ | refine AL.gmay2 rfl rfl rfl rfl rfl rfl qRL9 ?_
    first | refine AL.gstep rfl rfl rfl rfl rfl rfl rfl qRA24 ?_ | refine AL.gskip rfl rfl rfl rfl rfl rfl rfl ?_ | refine AL.gnone rfl rfl rfl rfl rfl ?_ | refine AL.gmay rfl rfl rfl rfl rfl rfl qQB7 ?_ | refine AL.gmay2 rfl rfl rfl rfl rfl rfl qQB8 ?_
    first | refine AL.gstep rfl rfl rfl rfl rfl rfl rfl qRB18 ?_ | refine AL.gskip rfl rfl rfl rfl rfl rfl rfl ?_ | refine AL.gnone rfl rfl rfl rfl rfl ?_ | refine AL.gmay rfl rfl rfl rfl rfl rfl qQB9 ?_ | refine AL.gmay2 rfl rfl rfl rfl rfl rfl qQB10 ?_
    first | refine AL.gstep rfl rfl rfl rfl rfl rfl rfl qRB5 ?_ | refine AL.gskip rfl rfl rfl rfl rfl rfl rfl ?_ | refine AL.gnone rfl rfl rfl rfl rfl ?_ | refine AL.gmay rfl rfl rfl rfl rfl rfl qQB11 ?_ | refine AL.gmay2 rfl rfl rfl rfl rfl rfl qQB12 ?_
    first | refine AL.gstep rfl rfl rfl rfl rfl rfl rfl qRA19 ?_ | refine AL.gskip rfl rfl rfl rfl rfl rfl rfl ?_ | refine AL.gnone rfl rfl rfl rfl rfl ?_ | refine AL.gmay rfl rfl rfl rfl rfl rfl qRA40 ?_ | refine AL.gmay2 rfl rfl rfl rfl rfl rfl qRA41 ?_
    first | refine AL.gstep rfl rfl rfl rfl rfl rfl rfl qRA3 ?_ | refine AL.gskip rfl rfl rfl rfl rfl rfl rfl ?_ | refine AL.gnone rfl rfl rfl rfl rfl ?_ | refine AL.gmay rfl rfl rfl rfl rfl rfl qQB13 ?_ | refine AL.gmay2 rfl rfl rfl rfl rfl rfl qQB14 ?_
    refine AL.step rfl rfl rfl qRA28 ?_
    refine AL.nil_then (hK _ _ ?_); clear hK K
    refine AW.cond_false rfl rfl (AW.exit ?_)
    exact htail _ qRA21 (hex fun h => (hkN h).elim)
end Go.Proofs.Ytjiifddmcmbbnaa
