/- The walk of the reference's Forget. -/
import Derived.Test.YtjiifddmcmbbnaaQB
namespace Go.Proofs.Ytjiifddmcmbbnaa
open Go.Ax
theorem qQC1 {p : Prop} (h : p := by repeat' (first | exact Keep.refl _ | with_reducible assumption | apply Keep.new | apply Keep.set | apply Keep.del | (first | omega | (simp only [za, zb, zc]; omega)))) : p := h
set_option linter.unusedSimpArgs false
set_option linter.unusedVariables false

theorem runban_own (H : AHeap) (r : Ros) (w : Int) (hl : r.bs.length ≤ 1000000) : ACalls Try.prog 37 [.agg (refC r), .v (.int .i64 w)] H (fun v H' => OwnB H H' v (noB r.bs w) ∧ Keep H H') := by
  refine ACalls.lts fun hlt => ?_
  have hone := refC_one r
  have hfl := flatB_length r.bs
  refine ACalls.of_body tok Try.func37 rfl Try.ntmps37 (Nat.le_of_ble_eq_true rfl) ?_
  refine AW.seq_region (fun K hK => ?_)
  refine AL.step rfl rfl rfl qRM1 ?_
  refine AL.step rfl rfl rfl qRA18 ?_
  refine AL.nil_then (hK _ _ ?_); clear hK K
  refine AW.seq_region (fun K hK => ?_)
  refine AL.step rfl rfl rfl qRA18 ?_
  refine AL.nil_then (hK _ _ ?_); clear hK K
  refine AW.seq_k (fun K hK => ?_)
  refine AW.seq_region (fun K hK => ?_)
  refine AL.step rfl rfl rfl qRA18 ?_
  refine AL.nil_then (hK _ _ ?_); clear hK K
  refine AW.block ?_
  refine AW.loop_at (ι := Nat × AV) (fun x => [(6, .v (.int .i64 x.1)), (5, x.2), (2, .ptr H.next 0), (1, .v (.int .i64 w))])
    (fun x H' => x.1 ≤ r.bs.length ∧ Keep H H' ∧ H.next < H'.next ∧ H'.get H.next = some (.cells 47 (refC r)) ∧ OwnB H H' x.2 (noB (r.bs.take x.1) w)) (fun x => r.bs.length - x.1) (0, .v (.slice none 0 0)) qRA21 ⟨Nat.zero_le _, qRA8, qRC3, qRA6, .nil⟩ ?_
  rintro ⟨i, y⟩ H1 ⟨hi, hk1, hn1, hX, hy⟩
  dsimp only at hi hk1 hX hy ⊢
  refine AW.seq_k (fun K1 hK1 => ?_)
  refine AW.seq_region (fun K hK => ?_)
  refine AL.step rfl rfl rfl qRA19 ?_
  refine AL.step rfl rfl rfl qRB17 ?_
  refine AL.step rfl rfl rfl qRB5 ?_
  refine AL.step rfl rfl rfl qRC9 ?_
  refine AL.step rfl rfl rfl qRA3 ?_
  refine AL.nil_then (hK _ _ ?_); clear hK K
  refine AW.cond _ rfl (fun hc => ?_) (fun hc => ?_)
  · refine AW.skip (hK1 _ _ ?_); clear hK1 K1
    have hil : i < r.bs.length := by have := of_decide_eq_true hc; omega
    have hf0 := flatB_0 r.bs i hil
    have hfa := flatB_at r.bs i hil
    have htn := take_next r.bs i hil
    have hyl := noB_le (r.bs.take i) w
    have hyl2 : (r.bs.take i).length = i := by rw [List.length_take]; omega
    refine AW.lts fun hlt1 => ?_
    refine AW.seq_k (fun K1 hK1 => ?_)
    refine AW.block ?_
    refine AW.seq_region (fun K hK => ?_)
    refine AL.step rfl rfl rfl qRB17 ?_
    refine AL.step rfl rfl rfl qRB5 ?_
    refine AL.step rfl rfl rfl qRA19 ?_
    refine AL.step rfl rfl rfl qQA1 ?_
    refine AL.step rfl rfl rfl qRB18 ?_
    refine AL.step rfl rfl rfl qRB5 ?_
    refine AL.step rfl rfl rfl qRA19 ?_
    refine AL.step rfl rfl rfl qRA2 ?_
    refine AL.nil_then (hK _ _ ?_); clear hK K
    refine AW.cond _ rfl (fun hd => ?_) (fun hd => ?_)
    · have hd := of_decide_eq_true hd
      generalize hq : noB (r.bs.take i) w = q at hy hyl
      cases hy with
      | nil =>
        refine AW.region ?_
        refine AL.step rfl rfl rfl qRA19 ?_
        refine AL.step rfl rfl rfl qRB17 ?_
        refine AL.step rfl rfl rfl qRB5 ?_
        refine AL.step rfl rfl rfl qRA19 ?_
        refine AL.step rfl rfl rfl qQA1 ?_
        refine AL.step rfl rfl rfl qQA2 ?_
        refine AL.step rfl rfl rfl qQA3 ?_
        refine AL.step rfl rfl rfl (by first | exact AStepD.append' (bk := 64) tok rfl rfl rfl rfl rfl rfl rfl rfl (show _ = 2 from rfl) rfl qRA6 rfl qRA11 qRA23 qRA11 qRA4 qRA11 qRA11 qRA14 qRC2 | exact AStepD.append_nil' (bk := 64) tok rfl rfl rfl rfl rfl rfl rfl rfl (show _ = 2 from rfl) rfl qRA23 qRA11 qRA11 qRA11 qRA11) ?_
        refine AL.step rfl rfl rfl qRA18 ?_
        refine AL.nil ?_
        refine hK1 _ _ ?_; clear hK1 K1
        refine AW.region ?_
        refine AL.step rfl rfl rfl qRA19 ?_
        refine AL.step rfl rfl rfl qRA22 ?_
        refine AL.step rfl rfl rfl qRA18 ?_
        refine AL.nil ?_
        refine Exists.intro (i + 1, AV.sl ?paD 0 1 2) ⟨?pam, ?pas, hil, ?pak, ?pan, ?pax, ?pay⟩
        case pas => exact qRA21
        case pam => show r.bs.length - (i + 1) < r.bs.length - i; omega
        case pak => exact ⟨by (simp only [za, zb, zc]; omega), fun l hl => Eq.trans qRC4 (hk1.2 l hl)⟩
        case pan => exact qRC3
        case pax => exact qRA6
        case pay =>
          show OwnB H _ (AV.sl _ 0 1 2) (noB (r.bs.take (i + 1)) w)
          rw [htn, noB_snoc, if_pos hd, hq]
          refine OwnB.mk (cs := ?pac) ?paa ?pab ?pae ?paf
          case pab => exact qRA6
          case paa => (simp only [za, zb, zc]; omega)
          case pae => simp [flatB, rowB]
          case paf => simp
      | sl hD hyH =>
        have hyl' := hlt1 _ _ hyH
        have hio := flatB_ones q
        have hil' := flatB_length q
        refine AW.region ?_
        refine AL.step rfl rfl rfl qRA19 ?_
        refine AL.step rfl rfl rfl qRB17 ?_
        refine AL.step rfl rfl rfl qRB5 ?_
        refine AL.step rfl rfl rfl qRA19 ?_
        refine AL.step rfl rfl rfl qQA1 ?_
        refine AL.step rfl rfl rfl qQA2 ?_
        refine AL.step rfl rfl rfl qQA3 ?_
        refine AL.step rfl rfl rfl (by first | exact AStepD.append' (bk := 64) tok rfl rfl rfl rfl rfl rfl rfl rfl (show _ = 2 from rfl) rfl qRA6 rfl qRA11 qRA23 qRA11 qRA4 qRA11 qRA11 qRA14 qRC2 | exact AStepD.append_nil' (bk := 64) tok rfl rfl rfl rfl rfl rfl rfl rfl (show _ = 2 from rfl) rfl qRA23 qRA11 qRA11 qRA11 qRA11) ?_
        refine AL.step rfl rfl rfl qRA18 ?_
        refine AL.nil ?_
        refine hK1 _ _ ?_; clear hK1 K1
        refine AW.region ?_
        refine AL.step rfl rfl rfl qRA19 ?_
        refine AL.step rfl rfl rfl qRA22 ?_
        refine AL.step rfl rfl rfl qRA18 ?_
        refine AL.nil ?_
        refine Exists.intro (i + 1, AV.sl ?pbD 0 (q.length + 1) 2) ⟨?pbm, ?pbs, hil, ?pbk, ?pbn, ?pbx, ?pby⟩
        case pbs => exact qRA21
        case pbm => show r.bs.length - (i + 1) < r.bs.length - i; omega
        case pbk => exact ⟨by (simp only [za, zb, zc]; omega), fun l hl => Eq.trans qRC4 (hk1.2 l hl)⟩
        case pbn => exact qRC3
        case pbx => exact qRA6
        case pby =>
          show OwnB H _ (AV.sl _ 0 (q.length + 1) 2) (noB (r.bs.take (i + 1)) w)
          rw [htn, noB_snoc, if_pos hd, hq]
          refine OwnB.mk (cs := ?pbc) ?pba ?pbb ?pbe ?pbf
          case pbb => exact qRA6
          case pba => (simp only [za, zb, zc]; omega)
          case pbe => simp [flatB, rowB]
          case pbf => simp
    · have hd := of_decide_eq_false hd
      refine AW.skip ?_
      refine hK1 _ _ ?_; clear hK1 K1
      refine AW.region ?_
      refine AL.step rfl rfl rfl qRA19 ?_
      refine AL.step rfl rfl rfl qRA22 ?_
      refine AL.step rfl rfl rfl qRA18 ?_
      refine AL.nil ?_
      refine ⟨(i + 1, y), ?_, qRA21, hil, hk1, hn1, hX, ?_⟩
      · show r.bs.length - (i + 1) < r.bs.length - i
        omega
      · show OwnB H _ y (noB (r.bs.take (i + 1)) w)
        rw [htn, noB_snoc, if_neg hd]
        exact hy
  · refine AW.exit ?_
    refine hK _ _ ?_; clear hK1 K1 hK K
    refine AW.seq_region (fun K hK => ?_)
    refine AL.step rfl rfl rfl qRA19 ?_
    refine AL.step rfl rfl rfl qRA18 ?_
    refine AL.nil_then (hK _ _ ?_); clear hK K
    have hil : i = r.bs.length := by have := of_decide_eq_false hc; omega
    rw [hil, List.take_length] at hy
    exact AW.ret (RetQ.mk (.inr rfl) (retA_tmp rfl qRA1 retA_nil) ⟨hy, hk1⟩)

def rforE (r : Ros) (w t : Int) : Int := if asked r.self w t ≠ 0 then asked r.self w t else if has r.ms w then 0 else 30
def rforR (r : Ros) (w t : Int) : Ros := ⟨r.self, r.ms.take (pos r.ms w) ++ r.ms.drop (pos r.ms w + 1), noB r.bs w ++ [(w, t + 60000)], r.cur⟩

theorem rforget_calls (H : AHeap) (r : Ros) (w t : Int) (hI : Inv r) (hl : r.bs.length ≤ 1000000) :
    ACalls Try.prog 21 [.agg (refC r), .v (.int .i64 w), .v (.int .i64 t)] H (fun v H' => v = .tup [.agg (refC (if rforE r w t = 0 then rforR r w t else r)), .v (.int .i64 (rforE r w t))] ∧ H' = H) := by
  refine ACalls.quiet_keep ?_ (.tup (by simp only [List.forall_mem_cons]; exact ⟨.agg (refC_plain _), .v _, fun _ h => absurd h List.not_mem_nil⟩))
  refine ACalls.lts fun hlt => ?_
  have hone := refC_one r
  have h15 := hI.2
  have hfl := flat_length r.ms
  have hno : ∀ e : Int, rforE r w t = e → e ≠ 0 → AV.tup [.agg (refC r), .v (.int .i64 e)] = .tup [.agg (refC (if rforE r w t = 0 then rforR r w t else r)), .v (.int .i64 (rforE r w t))] := by
    intro e he h0
    subst he
    rw [if_neg h0]
  refine ACalls.of_body tok Try.func21 rfl Try.ntmps21 (Nat.le_of_ble_eq_true rfl) ?_
  refine AW.seq_region (fun K hK => ?_)
  refine AL.step rfl rfl rfl qRM1 ?_
  refine AL.step rfl rfl rfl qRJ1 ?_
  refine AL.step rfl rfl rfl qRA18 ?_
  refine AL.nil_then (hK _ _ ?_); clear hK K
  refine AW.seq_k (fun K hK => ?_)
  refine AW.seq_region (fun K hK => ?_)
  refine AL.step rfl rfl rfl qRA19 ?_
  refine AL.step rfl rfl rfl (by exact AStepD.callf rfl en19 rfl (rid_calls _ w)) ?_
  refine AL.step rfl rfl rfl qRB9 ?_
  refine AL.step rfl rfl rfl qRA19 ?_
  first | refine AL.gstep rfl rfl rfl rfl rfl rfl rfl qRA19 ?_ | refine AL.gskip rfl rfl rfl rfl rfl rfl rfl ?_ | refine AL.gnone rfl rfl rfl rfl rfl ?_ | refine AL.gmay rfl rfl rfl rfl rfl rfl qRA30 ?_ | refine AL.gmay2 rfl rfl rfl rfl rfl rfl qRA31 ?_
  first | refine AL.gstep rfl rfl rfl rfl rfl rfl rfl (by exact AStepD.callf rfl en34 rfl (rtime_calls _ t)) ?_ | refine AL.gskip rfl rfl rfl rfl rfl rfl rfl ?_ | refine AL.gnone rfl rfl rfl rfl rfl ?_ | refine AL.gmay rfl rfl rfl rfl rfl rfl (fun hb => by (try (apply AStepD.uncond 14 rfl (gpf hb))); exact (by exact AStepD.callf rfl en34 rfl (rtime_calls _ t))) ?_ | refine AL.gmay2 rfl rfl rfl rfl rfl rfl (fun _ hb => by (try (apply AStepD.uncond 14 rfl (gpf hb))); exact (by exact AStepD.callf rfl en34 rfl (rtime_calls _ t))) ?_
  first | refine AL.gstep rfl rfl rfl rfl rfl rfl rfl qRB9 ?_ | refine AL.gskip rfl rfl rfl rfl rfl rfl rfl ?_ | refine AL.gnone rfl rfl rfl rfl rfl ?_ | refine AL.gmay rfl rfl rfl rfl rfl rfl (fun hb => by (try (apply AStepD.uncond 15 rfl (gpf hb))); exact qRB9) ?_ | refine AL.gmay2 rfl rfl rfl rfl rfl rfl (fun _ hb => by (try (apply AStepD.uncond 15 rfl (gpf hb))); exact qRB9) ?_
  refine AL.step rfl rfl rfl qRA28 ?_
  refine AL.nil_then (hK _ _ ?_); clear hK K
  refine AW.cond _ rfl (fun hc => ?_) (fun hc => ?_)
  · refine AW.seq_region (fun K hK => ?_)
    refine AL.step rfl rfl rfl qQB1 ?_
    refine AL.step0 rfl rfl qRE5 ?_
    refine AL.step rfl rfl rfl qRA18 ?_
    refine AL.nil_then (hK _ _ ?_); clear hK K
    have ha : asked r.self w t = 10 := by rw [asked, if_pos hc]
    refine AW.ret (RetQ.mk (.inr rfl) qQB2 ⟨?_, qRA8⟩)
    exact hno 10 (by rw [rforE, ha]; rfl) (by decide)
  refine AW.skip (hK _ _ ?_); clear hK K
  refine AW.seq_k (fun K hK => ?_)
  refine AW.seq_region (fun K hK => ?_)
  refine AL.step rfl rfl rfl qRA19 ?_
  refine AL.step rfl rfl rfl qRB18 ?_
  refine AL.step rfl rfl rfl qRB5 ?_
  refine AL.step rfl rfl rfl qRA16 ?_
  refine AL.nil_then (hK _ _ ?_); clear hK K
  refine AW.cond _ rfl (fun hc2 => ?_) (fun hc2 => ?_)
  · have hc2 := of_decide_eq_true hc2
    refine AW.seq_region (fun K hK => ?_)
    refine AL.step rfl rfl rfl qQB1 ?_
    refine AL.step0 rfl rfl qRE5 ?_
    refine AL.step rfl rfl rfl qRA18 ?_
    refine AL.nil_then (hK _ _ ?_); clear hK K
    have ha : asked r.self w t = 33 := by rw [asked, if_neg (by rw [hc]; decide), if_pos hc2]
    refine AW.ret (RetQ.mk (.inr rfl) qQB2 ⟨?_, qRA8⟩)
    exact hno 33 (by rw [rforE, ha]; rfl) (by decide)
  have hc2 := of_decide_eq_false hc2
  refine AW.skip (hK _ _ ?_); clear hK K
  have ha : asked r.self w t = 0 := by rw [asked, if_neg (by rw [hc]; decide), if_neg hc2]
  refine AW.seq_region (fun K hK => ?_)
  refine AL.step rfl rfl rfl qQB1 ?_
  refine AL.step rfl rfl rfl qRA19 ?_
  refine AL.step rfl rfl rfl (by exact AStepD.callf rfl en35 rfl (rfind_calls _ r w hI)) ?_
  refine AL.step rfl rfl rfl qRA18 ?_
  refine AL.nil_then (hK _ _ ?_); clear hK K
  refine AW.seq_k (fun K hK => ?_)
  refine AW.seq_region (fun K hK => ?_)
  refine AL.step rfl rfl rfl qRA19 ?_
  refine AL.step rfl rfl rfl qRA3 ?_
  refine AL.nil_then (hK _ _ ?_); clear hK K
  refine AW.cond _ rfl (fun hc3 => ?_) (fun hc3 => ?_)
  · have hh : has r.ms w = false := by
      have hc3 := of_decide_eq_true hc3
      unfold findZ at hc3
      split at hc3
      · omega
      · rename_i h; simpa using h
    clear hc3
    refine AW.seq_region (fun K hK => ?_)
    refine AL.step rfl rfl rfl qQB1 ?_
    refine AL.step0 rfl rfl qRE5 ?_
    refine AL.step rfl rfl rfl qRA18 ?_
    refine AL.nil_then (hK _ _ ?_); clear hK K
    refine AW.ret (RetQ.mk (.inr rfl) qQB2 ⟨?_, qRA8⟩)
    exact hno 30 (by rw [rforE, if_neg (by omega), hh]; rfl) (by decide)
  have hh : has r.ms w = true := by
    have hc3 := of_decide_eq_false hc3
    unfold findZ at hc3
    split at hc3
    · assumption
    · omega
  clear hc3
  refine AW.skip (hK _ _ ?_); clear hK K
  have he : rforE r w t = 0 := by rw [rforE, if_neg (by omega), if_pos hh]
  obtain ⟨hp, -⟩ := (has_at hI.1 w).1 hh
  have hfz : findZ r w = (pos r.ms w : Int) := by rw [findZ, if_pos hh]
  have htm : 0 ≤ t ∧ t ≤ 1099511627776 := by simpa [timeB] using (asked_time ha).2.1
  generalize hpp : pos r.ms w = k at hp hfz
  refine AW.abs (fun T' H' => ∃ X Y : Nat, SubT T' [(8, .v (.int .i64 k)), (3, .ptr X 0), (6, .ptr Y 0), (1, .v (.int .i64 w)), (2, .v (.int .i64 t))] ∧ H'.get X = some (.cells 47 (refC r)) ∧ H'.get Y = some (.cells 47 (AV.ofV (tt 47).zero)) ∧ Keep H H' ∧ H.next ≤ X ∧ H.next ≤ Y ∧ X ≠ Y) ⟨H.next, H.next + 1, by rw [← hfz]; exact qRA21, qRA6, qRA6, qRA8, Nat.le_refl _, by omega, by omega⟩ ?_
  rintro T2 H3 ⟨X, Y, hs2, hX, hY, hk2, hXn, hYn, hXY⟩
  refine AW.sub hs2 ?_
  clear hs2 hfz hno
  refine AW.lts fun hlt3 => ?_
  have hXl := hlt3 _ _ hX
  have hYl := hlt3 _ _ hY
  have hms1 := flat_ones (r.ms.take k)
  have hms2 := flat_ones (r.ms.drop (k + 1))
  have hk2n := hk2.1
  have hl1 : (flat (r.ms.take k)).length = k * 5 := by rw [flat_length, List.length_take]; congr 1; omega
  have hl2 : (flat (r.ms.drop (k + 1))).length = (r.ms.length - (k + 1)) * 5 := by rw [flat_length, List.length_drop]
  have hfin : flat (r.ms.take k) ++ flat (r.ms.drop (k + 1)) = flat (r.ms.take k ++ r.ms.drop (k + 1)) := (flat_append _ _).symm
  refine AW.seq_region (fun K hK => ?_)
  refine AL.step rfl rfl rfl qRD8 ?_
  refine AL.step rfl rfl rfl qRD9 ?_
  refine AL.step rfl rfl rfl qRB5 ?_
  refine AL.step rfl rfl rfl qRA19 ?_
  refine AL.step rfl rfl rfl (by exact AStepD.val (AStepD.slice_vec' (l := 0) (h := k) tok rfl rfl rfl rfl rfl (show _ = 5 from rfl) rfl rfl rfl rfl (Nat.zero_le _) (by omega) rfl rfl) (show _ = AV.vec k (flat (r.ms.take k)) by rw [Nat.zero_mul, List.drop_zero, Nat.sub_zero, flat_take])) ?_
  refine AL.step rfl rfl rfl (by exact AStepD.append' (bk := 64) (n := k) (ys := flat (r.ms.take k)) tok rfl rfl rfl rfl rfl rfl rfl rfl (show _ = 5 from rfl) rfl qRA6 rfl qRA11 Src.vec hl1 hms1 (by omega) (by omega) (Nat.zero_add _) (List.nil_append _)) ?_
  refine AL.step rfl rfl rfl qRA18 ?_
  refine AL.nil_then (hK _ _ ?_); clear hK K
  refine AW.seq_region (fun K hK => ?_)
  refine AL.step rfl rfl rfl qRA19 ?_
  refine AL.step rfl rfl rfl qRD9 ?_
  refine AL.step rfl rfl rfl qRB5 ?_
  refine AL.step rfl rfl rfl qRA19 ?_
  refine AL.step rfl rfl rfl qRA22 ?_
  refine AL.step rfl rfl rfl (by exact AStepD.val (AStepD.slice_vec' (l := k + 1) (h := r.ms.length) tok rfl rfl rfl rfl rfl (show _ = 5 from rfl) rfl rfl rfl rfl (by omega) (Nat.le_refl _) rfl rfl) (show _ = AV.vec (r.ms.length - (k + 1)) (flat (r.ms.drop (k + 1))) by rw [flat_drop, List.take_of_length_le (Nat.le_of_eq hl2)])) ?_
  refine AL.step rfl rfl rfl (by exact AStepD.append_vec (bk := 64) (n := r.ms.length - (k + 1)) (ys := flat (r.ms.drop (k + 1))) (m := (r.ms.take k ++ r.ms.drop (k + 1)).length) tok rfl rfl rfl rfl rfl rfl rfl rfl (show _ = 5 from rfl) rfl qRA6 rfl hl1 Src.vec hl2 hms2 (by omega) (by omega) (by simp; omega) hfin (flat_plain _)) ?_
  refine AL.step rfl rfl rfl qRD9 ?_
  refine AL.step0 rfl rfl qRE5 ?_
  refine AL.nil_then (hK _ _ ?_); clear hK K
  refine AW.abs (fun T' H' => SubT T' [(3, .ptr X 0), (6, .ptr Y 0), (1, .v (.int .i64 w)), (2, .v (.int .i64 t))] ∧ H'.get X = some (.cells 47 (refC ⟨r.self, r.ms.take k ++ r.ms.drop (k + 1), r.bs, r.cur⟩)) ∧ H'.get Y = some (.cells 47 (AV.ofV (tt 47).zero)) ∧ Keep H H') ⟨qRA21, qRA6, qRA6, qQC1⟩ ?_
  rintro T4 H4 ⟨hs4, hX4, hY4, hk4⟩
  refine AW.sub hs4 ?_
  clear hs4 hX hY hk2 hk2n hXl hYl hlt3
  refine AW.lts fun hlt4 => ?_
  have hXl := hlt4 _ _ hX4
  have hYl := hlt4 _ _ hY4
  have hk4n := hk4.1
  have hro : ∀ z ∈ rowB (w, t + 60000), z.one = true := by simp [rowB, AV.one, Value.oneCell']
  have hnl := noB_le r.bs w
  have hcall := runban_own H4 ⟨r.self, r.ms.take k ++ r.ms.drop (k + 1), r.bs, r.cur⟩ w hl
  simp only at hcall
  generalize hnb : noB r.bs w = q at hcall hnl
  refine AW.seq_region (fun K2 hK2 => ?_)
  refine AL.step rfl rfl rfl qQB1 ?_
  refine AL.step rfl rfl rfl qRA19 ?_
  refine AL.call rfl rfl rfl (AStep.callf' rfl en37 rfl hcall) ?_
  rintro y H5 ⟨hy, hk5⟩
  have hX5 : H5.get X = some (.cells 47 [.v (.int .i64 r.self), .vec (r.ms.take k ++ r.ms.drop (k + 1)).length (flat (r.ms.take k ++ r.ms.drop (k + 1))), .vec r.bs.length (flatB r.bs), .v (.int .i64 (r.cur : Nat))]) := hk5.get hX4 hXl
  clear hX4
  have hY5 := hk5.get hY4 hYl
  have hk5n := hk5.1
  have hk6 := hk4.trans hk5
  refine AL.lts fun hlt5 => ?_
  have hqo := flatB_ones q
  have hql := flatB_length q
  have hqp := flatB_plain (q ++ [(w, t + 60000)])
  have hqf : flatB q ++ rowB (w, t + 60000) = flatB (q ++ [(w, t + 60000)]) := by rw [flatB_append]; simp [flatB]
  cases hy with
  | nil =>
    refine AL.step rfl rfl rfl qRA19 ?_
    refine AL.step rfl rfl rfl qRA19 ?_
    refine AL.step rfl rfl rfl qRA22 ?_
    refine AL.step rfl rfl rfl (by exact AStepD.val (AStepD.build tok rfl rfl rfl (by decide) rfl (show ∀ p ∈ [((0 : Nat), AV.v (.int .i64 w)), (1, AV.v (.int .i64 (t + 60000)))], ∀ x ∈ p.2.cells, x.one = true from by simp [AV.cells, AV.one, Value.oneCell'])) (show _ = AV.agg (rowB (w, t + 60000)) from rfl)) ?_
    refine AL.step rfl rfl rfl (by exact AStepD.buildSlice1 tok rfl rfl rfl rfl (show _ = 2 from rfl) rfl (show _ = rowB (w, t + 60000) from rfl) rfl (by decide) hro) ?_
    refine AL.step rfl rfl rfl (by exact AStepD.append_nil_vec (bk := 64) (n := 1) (ys := rowB (w, t + 60000)) tok rfl rfl rfl rfl rfl rfl rfl rfl (show _ = 2 from rfl) rfl (Src.all qRA6 rfl) rfl (by omega) (by omega) (by omega) (fun z hz => hqp z (by rw [← hqf]; exact hz))) ?_
    refine AL.step rfl rfl rfl qRB17 ?_
    refine AL.step0 rfl rfl qRE5 ?_
    refine AL.nil_then (hK2 _ _ ?_); clear hK2 K2
    refine AW.seq_region (fun K hK => ?_)
    refine AL.step rfl rfl rfl qQB1 ?_
    refine AL.step0 rfl rfl qRE5 ?_
    refine AL.step rfl rfl rfl qRA18 ?_
    refine AL.nil_then (hK _ _ ?_); clear hK K
    refine AW.ret (RetQ.mk (.inr rfl) qQB2 ⟨?_, ?_⟩)
    · rw [if_pos he, he]
      simp only [rforR, hpp, hnb]
      rfl
    · exact qQC1
  | @sl D _ hD hyH =>
    have hDl := hlt5 _ _ hyH
    refine AL.step rfl rfl rfl qRA19 ?_
    refine AL.step rfl rfl rfl qRA19 ?_
    refine AL.step rfl rfl rfl qRA22 ?_
    refine AL.step rfl rfl rfl (by exact AStepD.val (AStepD.build tok rfl rfl rfl (by decide) rfl (show ∀ p ∈ [((0 : Nat), AV.v (.int .i64 w)), (1, AV.v (.int .i64 (t + 60000)))], ∀ x ∈ p.2.cells, x.one = true from by simp [AV.cells, AV.one, Value.oneCell'])) (show _ = AV.agg (rowB (w, t + 60000)) from rfl)) ?_
    refine AL.step rfl rfl rfl (by exact AStepD.buildSlice1 tok rfl rfl rfl rfl (show _ = 2 from rfl) rfl (show _ = rowB (w, t + 60000) from rfl) rfl (by decide) hro) ?_
    refine AL.step rfl rfl rfl (by exact AStepD.append_vec (bk := 64) (n := 1) (ys := rowB (w, t + 60000)) (m := (q ++ [(w, t + 60000)]).length) tok rfl rfl rfl rfl rfl rfl rfl rfl (show _ = 2 from rfl) rfl qRA6 rfl hql (Src.all qRA6 rfl) rfl hro (by omega) (by omega) (by simp) hqf hqp) ?_
    refine AL.step rfl rfl rfl qRB17 ?_
    refine AL.step0 rfl rfl qRE5 ?_
    refine AL.nil_then (hK2 _ _ ?_); clear hK2 K2
    refine AW.seq_region (fun K hK => ?_)
    refine AL.step rfl rfl rfl qQB1 ?_
    refine AL.step0 rfl rfl qRE5 ?_
    refine AL.step rfl rfl rfl qRA18 ?_
    refine AL.nil_then (hK _ _ ?_); clear hK K
    refine AW.ret (RetQ.mk (.inr rfl) qQB2 ⟨?_, ?_⟩)
    · rw [if_pos he, he]
      simp only [rforR, hpp, hnb]
      rfl
    · exact qQC1
end Go.Proofs.Ytjiifddmcmbbnaa
