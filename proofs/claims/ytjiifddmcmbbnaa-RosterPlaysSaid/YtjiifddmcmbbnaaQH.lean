/- The walk of the statement on whole plays of a roster. -/
import Derived.Test.YtjiifddmcmbbnaaQG
import Derived.Test.YtjiifddmcmbbnaaRN
namespace Go.Proofs.Ytjiifddmcmbbnaa
open Go.Ax
theorem qQH1 {p : Prop} (h : p := by first | exact AStepD.indexAddr_vec' tok rfl rfl rfl rfl rfl rfl (show _ = 8 from rfl) qRA13 qRA11 | exact AStepD.indexAddr_sl' tok rfl rfl rfl rfl rfl rfl (show _ = 8 from rfl) qRA13 qRA11 qRA14 | exact AStepD.indexAddr_arr' tok rfl rfl rfl rfl rfl rfl (show _ = 8 from rfl) qRA13 qRA11 qRA14) : p := h
set_option linter.unusedSimpArgs false
set_option linter.unusedVariables false

structure Act where
  h : Int
  t : Int
  k : Int
  m : Mem
def Act.cells (a : Act) : List AV := [.v (.int .i64 a.h), .v (.int .i64 a.t), .v (.int .i64 a.k), .v (.int .i64 a.m.i), .v (.int .i64 a.m.ma), .v (.int .i64 a.m.co), .v (.int .i64 a.m.op), .v (.int .i64 a.m.fa)]
theorem Act.one (a : Act) : ∀ z ∈ a.cells, z.one = true := by simp [Act.cells, AV.one, Value.oneCell']
def flatC (l : List Act) : List AV := l.flatMap Act.cells
theorem flatC_cons (s : Act) (r : List Act) : flatC (s :: r) = s.cells ++ flatC r := by simp [flatC]
theorem flatC_length (l : List Act) : (flatC l).length = l.length * 8 := by
  induction l with
  | nil => rfl
  | cons s r ih => rw [flatC_cons, List.length_append, ih]; simp [Act.cells]; omega
theorem flatC_drop (l : List Act) (i : Nat) : (flatC l).drop (i * 8) = flatC (l.drop i) := by
  induction l generalizing i with
  | nil => simp [flatC]
  | cons s r ih =>
    cases i with
    | zero => simp
    | succ i => rw [flatC_cons, List.drop_succ_cons, ← ih, List.drop_append, List.drop_of_length_le (by simp [Act.cells]; omega), List.nil_append, show (i + 1) * 8 - s.cells.length = i * 8 by simp [Act.cells]; omega]
theorem flatC_at (l : List Act) (i : Nat) (h : i < l.length) : ((flatC l).drop (i * 8)).take 8 = l[i].cells := by
  rw [flatC_drop, List.drop_eq_getElem_cons h, flatC_cons, List.take_append_of_le_length (by simp [Act.cells]), List.take_of_length_le (by simp [Act.cells])]

theorem AW.retell {P : Program} {c : Code} {Q : APost} {T : Fr} {H : AHeap} {n X : Nat} {t : TypeId} {cs bs : List AV} (hX : H.get X = some (.cells t cs)) (hl : bs.length = cs.length) (hr : ∀ (i : Nat) a b, cs[i]? = some a → bs[i]? = some b → SubV a b) (h : AW P c Q T (H.set X (.cells t bs)) n) : AW P c Q T H n :=
  fun ρ I w a hc ht hn hd => wp_mono (h ρ I w a (hc.retell hX hl fun i a b u ha hb hu => hr i a b ha hb ρ I u hu) ht hn hd) fun _ _ _ f => f.of_ev (Ev.shrink hX)

theorem radd_ok (H : AHeap) (r : Ros) (cs : List (Int × Int)) (w t : Int) (hI : Inv r) (hr : Rel r.bs cs) (hl : cs.length ≤ 1000000) :
    ACalls Try.prog 20 [.agg (refC (beside r cs)), .v (.int .i64 w), .v (.int .i64 t)] H (fun v H' => v = .tup [.agg (refC (beside (if addE r w t = 0 then addR r w else r) (if addE r w t = 0 then noB cs w else cs))), .v (.int .i64 (addE r w t))] ∧ H' = H) := by
  have := radd_calls H (beside r cs) w t hI hl
  rw [radd_eq hr] at this
  refine this.mono ?_
  rintro v H' ⟨rfl, rfl⟩
  refine ⟨?_, rfl⟩
  by_cases e : addE r w t = 0
  · rw [if_pos e, if_pos e, if_pos e]; rfl
  · rw [if_neg e, if_neg e, if_neg e]
theorem rforget_ok (H : AHeap) (r : Ros) (cs : List (Int × Int)) (w t : Int) (hI : Inv r) (hl : cs.length ≤ 1000000) :
    ACalls Try.prog 21 [.agg (refC (beside r cs)), .v (.int .i64 w), .v (.int .i64 t)] H (fun v H' => v = .tup [.agg (refC (beside (if forE r w t = 0 then forR r w t else r) (if forE r w t = 0 then noB cs w ++ [(w, t + 60000)] else cs))), .v (.int .i64 (forE r w t))] ∧ H' = H) := by
  have := rforget_calls H (beside r cs) w t hI hl
  rw [show rforE (beside r cs) w t = forE r w t from rfl] at this
  refine this.mono ?_
  rintro v H' ⟨rfl, rfl⟩
  refine ⟨?_, rfl⟩
  by_cases e : forE r w t = 0
  · rw [if_pos e, if_pos e, if_pos e]; rfl
  · rw [if_neg e, if_neg e, if_neg e]
theorem rset_ok (H : AHeap) (r : Ros) (cs : List (Int × Int)) (m : Mem) (hI : Inv r) :
    ACalls Try.prog 22 [.agg (refC (beside r cs)), .agg m.cells] H (fun v H' => v = .tup [.agg (refC (beside (if setE r m = 0 then setR r m else r) cs)), .v (.int .i64 (setE r m))] ∧ H' = H) := by
  have := rset_calls H (beside r cs) m hI
  rw [show setE (beside r cs) m = setE r m from rfl] at this
  refine this.mono ?_
  rintro v H' ⟨rfl, rfl⟩
  refine ⟨?_, rfl⟩
  by_cases e : setE r m = 0
  · rw [if_pos e, if_pos e]; rfl
  · rw [if_neg e, if_neg e]
set_option maxHeartbeats 1000000 in
theorem plays_law (me : Int) (l : List Act) (a t : Int) : ACalls Try.prog 9 [.v (.int .i64 me), .vec l.length (flatC l), .v (.int .i64 a), .v (.int .i64 t)] AHeap.empty (fun v _ => v = .v (.bool true)) := by
  have hfl := flatC_length l
  refine ACalls.of_body tok Try.func9 rfl Try.ntmps9 (Nat.le_of_ble_eq_true rfl) ?_
  refine AW.seq_region (fun K hK => ?_)
  refine AL.step rfl rfl rfl qRA18 ?_
  refine AL.nil_then (hK _ _ ?_); clear hK K
  refine AW.seq_k (fun K hK => ?_)
  refine AW.seq_region (fun K hK => ?_)
  refine AL.step rfl rfl rfl (by exact AStepD.callf rfl en10 rfl (anchor_calls _)) ?_
  refine AL.step rfl rfl rfl qRB9 ?_
  refine AL.nil_then (hK _ _ ?_); clear hK K
  refine AW.cond_false rfl rfl (AW.skip (hK _ _ ?_)); clear hK K
  cases hid : idB me with
  | false =>
    refine AW.seq_region (fun K hK => ?_)
    refine AL.step rfl rfl rfl qRA19 ?_
    refine AL.step rfl rfl rfl (by exact AStepD.callf rfl en11 rfl (new_none _ me hid)) ?_
    refine AL.step rfl rfl rfl qRA19 ?_
    refine AL.step rfl rfl rfl qRB6 ?_
    refine AL.step rfl rfl rfl qRB6 ?_
    refine AL.step rfl rfl rfl qRA18 ?_
    refine AL.step rfl rfl rfl qRA18 ?_
    refine AL.nil_then (hK _ _ ?_); clear hK K
    have hrid := rid_calls AHeap.empty me
    rw [hid] at hrid
    refine AW.seq_k (fun K hK => ?_)
    refine AW.seq_region (fun K hK => ?_)
    refine AL.step rfl rfl rfl qRA19 ?_
    refine AL.step rfl rfl rfl (by exact AStepD.callf rfl en19 rfl hrid) ?_
    refine AL.step rfl rfl rfl qRB9 ?_
    refine AL.nil_then (hK _ _ ?_); clear hK K
    refine AW.cond_true rfl rfl ?_
    refine AW.seq_region (fun K hK => ?_)
    refine AL.step rfl rfl rfl qRA19 ?_
    refine AL.step rfl rfl rfl qRA16 ?_
    refine AL.step rfl rfl rfl qRA19 ?_
    first | refine AL.gstep rfl rfl rfl rfl rfl rfl rfl qRA19 ?_ | refine AL.gskip rfl rfl rfl rfl rfl rfl rfl ?_ | refine AL.gnone rfl rfl rfl rfl rfl ?_ | refine AL.gmay rfl rfl rfl rfl rfl rfl qRA34 ?_ | refine AL.gmay2 rfl rfl rfl rfl rfl rfl qRA35 ?_
    first | refine AL.gstep rfl rfl rfl rfl rfl rfl rfl qRA16 ?_ | refine AL.gskip rfl rfl rfl rfl rfl rfl rfl ?_ | refine AL.gnone rfl rfl rfl rfl rfl ?_ | refine AL.gmay rfl rfl rfl rfl rfl rfl (fun hb => by (try (apply AStepD.uncond 30 rfl (gpf hb))); exact qRA16) ?_ | refine AL.gmay2 rfl rfl rfl rfl rfl rfl (fun _ hb => by (try (apply AStepD.uncond 30 rfl (gpf hb))); exact qRA16) ?_
    refine AL.step rfl rfl rfl qRA28 ?_
    refine AL.step rfl rfl rfl qRA18 ?_
    refine AL.nil_then (hK _ _ ?_); clear hK K
    exact AW.ret (RetQ.mk (.inr rfl) (retA_tmp rfl qRA1 retA_nil) rfl)
  | true =>
    refine AW.seq_region (fun K hK => ?_)
    refine AL.step rfl rfl rfl qRA19 ?_
    refine AL.call rfl rfl rfl (AStep.callf' rfl en11 rfl (new_ok _ me hid)) ?_; rintro _ H1 ⟨rfl, hR1, hk1, hx1⟩
    refine AL.step rfl rfl rfl qRA19 ?_
    refine AL.step rfl rfl rfl qRB6 ?_
    refine AL.step rfl rfl rfl qRB6 ?_
    refine AL.step rfl rfl rfl qRA18 ?_
    refine AL.step rfl rfl rfl qRA18 ?_
    refine AL.nil_then (hK _ _ ?_); clear hK K
    have hrid := rid_calls H1 me
    rw [hid] at hrid
    refine AW.seq_k (fun K hK => ?_)
    refine AW.seq_region (fun K hK => ?_)
    refine AL.step rfl rfl rfl qRA19 ?_
    refine AL.step rfl rfl rfl (by exact AStepD.callf rfl en19 rfl hrid) ?_
    refine AL.step rfl rfl rfl qRB9 ?_
    refine AL.nil_then (hK _ _ ?_); clear hK K
    refine AW.cond_false rfl rfl (AW.skip (hK _ _ ?_)); clear hK K
    refine AW.seq_k (fun K hK => ?_)
    refine AW.seq_region (fun K hK => ?_)
    refine AL.step rfl rfl rfl qRA19 ?_
    refine AL.step rfl rfl rfl qRA2 ?_
    refine AL.step rfl rfl rfl qRA19 ?_
    first | refine AL.gstep rfl rfl rfl rfl rfl rfl rfl qRA19 ?_ | refine AL.gskip rfl rfl rfl rfl rfl rfl rfl ?_ | refine AL.gnone rfl rfl rfl rfl rfl ?_ | refine AL.gmay rfl rfl rfl rfl rfl rfl qRA34 ?_ | refine AL.gmay2 rfl rfl rfl rfl rfl rfl qRA35 ?_
    first | refine AL.gstep rfl rfl rfl rfl rfl rfl rfl qRA16 ?_ | refine AL.gskip rfl rfl rfl rfl rfl rfl rfl ?_ | refine AL.gnone rfl rfl rfl rfl rfl ?_ | refine AL.gmay rfl rfl rfl rfl rfl rfl (fun hb => by (try (apply AStepD.uncond 36 rfl (gpf hb))); exact qRA16) ?_ | refine AL.gmay2 rfl rfl rfl rfl rfl rfl (fun _ hb => by (try (apply AStepD.uncond 36 rfl (gpf hb))); exact qRA16) ?_
    refine AL.step rfl rfl rfl qRA28 ?_
    refine AL.nil_then (hK _ _ ?_); clear hK K
    refine AW.cond_false rfl rfl (AW.skip (hK _ _ ?_)); clear hK K
    refine AW.seq_k (fun K hK => ?_)
    refine AW.seq_region (fun K hK => ?_)
    refine AL.step rfl rfl rfl qRA19 ?_
    refine AL.step rfl rfl rfl qRC9 ?_
    refine AL.step rfl rfl rfl qRI1 ?_
    refine AL.nil_then (hK _ _ ?_); clear hK K
    refine AW.cond _ rfl (fun hc => ?_) (fun hc => ?_)
    · refine AW.seq_region (fun K hK => ?_)
      refine AL.step rfl rfl rfl qRA18 ?_
      refine AL.nil_then (hK _ _ ?_); clear hK K
      exact AW.ret (RetQ.mk (.inr rfl) (retA_tmp rfl qRA1 retA_nil) rfl)
    refine AW.skip (hK _ _ ?_); clear hK K
    have hll : l.length ≤ 100 := by have := of_decide_eq_false hc; omega
    clear hc
    refine AW.lts fun hlt1 => ?_
    refine AW.seq_region (fun K hK => ?_)
    refine AL.step rfl rfl rfl qRA19 ?_
    refine AL.step rfl rfl rfl (by exact AStepD.val (AStepD.build tok rfl rfl rfl (by decide) rfl (show ∀ p ∈ [((0 : Nat), AV.v (.int .i64 me))], ∀ x ∈ p.2.cells, x.one = true from by simp [AV.cells, AV.one, Value.oneCell'])) (show _ = AV.agg [.v (.int .i64 me), .v (.slice none 0 0), .v (.slice none 0 0), .v (.int .i64 0)] from rfl)) ?_
    refine AL.step rfl rfl rfl qRJ1 ?_
    refine AL.step0 rfl rfl qRE5 ?_
    refine AL.nil_then (hK _ _ ?_); clear hK K
    refine AW.abs (fun T' H' => ∃ n B X : Nat, SubT T' [(9, .ptr n 0), (11, .ptr X 0), (1, .vec l.length (flatC l)), (2, .v (.int .i64 a)), (3, .v (.int .i64 t))] ∧ RosAt H' n n B ⟨me, [], [], 0⟩ ∧ H'.get X = some (.cells 47 [.v (.int .i64 me), .v (.slice none 0 0), .v (.slice none 0 0), .v (.int .i64 0)]) ∧ n ≠ X ∧ B ≠ X ∧ n < H'.next) ⟨AHeap.empty.next + 1, AHeap.empty.next, H1.next, qRA21, hR1.keep hlt1 qRA8, qRA6, by omega, by omega, by (simp only [za, zb, zc]; omega)⟩ ?_
    rintro T2 H2 ⟨n, B, X, hs2, hR2, hX2, hnX, hBX, hn2⟩
    refine AW.sub hs2 ?_
    clear hs2 hR1 hk1 hx1 hlt1
    refine AW.retell (bs := refC ⟨me, [], [], 0⟩) hX2 rfl ?_ ?_
    · intro i x y hx hy
      match i with
      | 0 => cases hx; cases hy; exact SubV.refl _
      | 1 => cases hx; cases hy; exact SubV.nil_vec
      | 2 => cases hx; cases hy; exact SubV.nil_vec
      | 3 => cases hx; cases hy; exact SubV.refl _
      | i + 4 => simp at hx
    have hX3 : (H2.set X (.cells 47 (refC ⟨me, [], [], 0⟩))).get X = some (.cells 47 (refC ⟨me, [], [], 0⟩)) := AHeap.get_set_same _ _ _
    have hR3 : RosAt (H2.set X (.cells 47 (refC ⟨me, [], [], 0⟩))) n n B ⟨me, [], [], 0⟩ := hR2.same (AHeap.get_set_ne _ _ hnX) (AHeap.get_set_ne _ _ hnX) (AHeap.get_set_ne _ _ hBX)
    have hn3 : n < (H2.set X (.cells 47 (refC ⟨me, [], [], 0⟩))).next := hn2
    generalize H2.set X (.cells 47 (refC ⟨me, [], [], 0⟩)) = H3 at hX3 hR3 hn3 ⊢
    clear hX2 hR2 hn2
    refine AW.seq_k (fun K hK => ?_)
    refine AW.seq_region (fun K hK => ?_)
    refine AL.step rfl rfl rfl qRA19 ?_
    refine AL.step rfl rfl rfl qRC9 ?_
    refine AL.step rfl rfl rfl qRA19 ?_
    refine AL.nil_then (hK _ _ ?_); clear hK K
    refine AW.block ?_
    refine AW.loop_at (ι := Nat × Nat × Ros × List (Int × Int)) (fun x => [(46, .v (.int .i64 x.1)), (45, .v (.int .i64 l.length)), (44, .vec l.length (flatC l)), (9, .ptr n 0), (11, .ptr X 0), (2, .v (.int .i64 a)), (3, .v (.int .i64 t))])
      (fun x H' => x.1 ≤ l.length ∧ Play x.2.2.1 x.2.2.2 x.1 me ∧ RosAt H' n x.2.1 B x.2.2.1 ∧ H'.get X = some (.cells 47 (refC (beside x.2.2.1 x.2.2.2))) ∧ x.2.1 ≠ X ∧ x.2.1 < H'.next) (fun x => l.length - x.1) (0, n, ⟨me, [], [], 0⟩, []) qRA21 ⟨Nat.zero_le _, Play.new me, hR3, hX3, hnX, hn3⟩ ?_
    rintro ⟨i, L, r, cs⟩ H4 ⟨hi, hP, hR, hX, hLX, hLl⟩
    dsimp only at hi hP hR hX hLX hLl ⊢
    refine AW.seq_region (fun K hK => ?_)
    refine AL.step rfl rfl rfl qRA3 ?_
    refine AL.nil_then (hK _ _ ?_); clear hK K
    refine AW.seq_k (fun K1 hK1 => ?_)
    refine AW.cond _ rfl (fun hc => ?_) (fun hc => ?_)
    · refine AW.skip (hK1 _ _ ?_); clear hK1 K1
      have hil : i < l.length := by have := of_decide_eq_true hc; omega
      have hfa := flatC_at l i hil
      generalize l[i] = s at hfa
      have hso := s.one
      refine AW.lts fun hlt4 => ?_
      have hXl := hlt4 _ _ hX
      refine AW.seq_k (fun K1 hK1 => ?_)
      refine AW.block ?_
      refine AW.seq_region (fun K hK => ?_)
      refine AL.step rfl rfl rfl qQH1 ?_
      refine AL.step rfl rfl rfl (by first | exact AStepD.load_agg tok rfl rfl rfl qRA6 rfl (show _ = 8 from rfl) qRA12 qRA15 | exact AStepD.load_agg_ip tok rfl rfl rfl rfl (show _ = 8 from rfl) qRA12 qRA15) ?_
      refine AL.step rfl rfl rfl qRJ1 ?_
      refine AL.step0 rfl rfl qRE5 ?_
      refine AL.nil_then (hK _ _ ?_); clear hK K
      refine AW.seq_region (fun K hK => ?_)
      refine AL.step rfl rfl rfl qRA18 ?_
      refine AL.nil_then (hK _ _ ?_); clear hK K
      refine AW.seq_region (fun K hK => ?_)
      refine AL.step rfl rfl rfl qRA18 ?_
      refine AL.nil_then (hK _ _ ?_); clear hK K
      refine AW.abs (fun T' H' => ∃ A : Nat, SubT T' [(13, .ptr A 0), (14, .v (.int .i64 0)), (15, .v (.int .i64 0)), (46, .v (.int .i64 i)), (45, .v (.int .i64 l.length)), (44, .vec l.length (flatC l)), (9, .ptr n 0), (11, .ptr X 0), (2, .v (.int .i64 a)), (3, .v (.int .i64 t))] ∧ H'.get A = some (.cells 49 s.cells) ∧ RosAt H' n L B r ∧ H'.get X = some (.cells 47 (refC (beside r cs))) ∧ A ≠ X ∧ A ≠ n ∧ A ≠ B ∧ A ≠ L ∧ L < H'.next) ?_ ?_
      · have hnl4 : n < H4.next := by obtain ⟨x0, h, _⟩ := hR; exact hlt4 _ _ h
        have hBl4 : B < H4.next := by obtain ⟨x0, _, _, h⟩ := hR; exact hlt4 _ _ h
        exact ⟨H4.next, qRA21, qRA6, hR.keep hlt4 qRA8, qRA6, by omega, by omega, by omega, by omega, qRC3⟩
      rintro T5 H5 ⟨A, hs5, hA5, hR5, hX5, hAX, hAn, hAB, hAL, hLl5⟩
      refine AW.sub hs5 ?_
      clear hs5 hX hR hlt4 hXl hLl
      refine AW.lts fun hlt5 => ?_
      have hXl := hlt5 _ _ hX5
      have hAl := hlt5 _ _ hA5
      refine AW.cut (fun T' H' => ∃ (L' : Nat) (r' : Ros) (cs' : List (Int × Int)) (e : Int), SubT T' [(14, .v (.int .i64 e)), (15, .v (.int .i64 e)), (46, .v (.int .i64 i)), (45, .v (.int .i64 l.length)), (44, .vec l.length (flatC l)), (9, .ptr n 0), (11, .ptr X 0), (2, .v (.int .i64 a)), (3, .v (.int .i64 t))] ∧
        Play r' cs' (i + 1) me ∧ RosAt H' n L' B r' ∧ H'.get X = some (.cells 47 (refC (beside r' cs'))) ∧ L' ≠ X ∧ L' < H'.next) ?_ ?_
      · refine AW.seq_region (fun K hK => ?_)
        refine AL.step rfl rfl rfl qRB18 ?_
        refine AL.step rfl rfl rfl qRB5 ?_
        refine AL.nil_then (hK _ _ ?_); clear hK K
        refine AW.block ?_
        refine AW.seq_region (fun K hK => ?_)
        refine AL.step rfl rfl rfl qRA16 ?_
        refine AL.step rfl rfl rfl qRA18 ?_
        refine AL.nil_then (hK _ _ ?_); clear hK K
        refine AW.cond _ rfl (fun h1 => ?_) (fun h1 => ?_)
        · have hbl := hP.len
          have hone1 := refC_one (beside (if addE r s.m.i s.t = 0 then addR r s.m.i else r) (if addE r s.m.i s.t = 0 then noB cs s.m.i else cs))
          refine AW.seq_region (fun K hK => ?_)
          refine AL.step rfl rfl rfl qQB1 ?_
          refine AL.step rfl rfl rfl qRE6 ?_
          refine AL.step rfl rfl rfl qRB18 ?_
          refine AL.step rfl rfl rfl qRB5 ?_
          refine AL.step rfl rfl rfl qRD9 ?_
          refine AL.step rfl rfl rfl qRB5 ?_
          refine AL.step rfl rfl rfl (by exact AStepD.callf rfl en20 rfl (radd_ok H5 r cs s.m.i s.t hP.inv hP.rel (by omega))) ?_
          refine AL.step rfl rfl rfl qRA19 ?_
          refine AL.step rfl rfl rfl qRB6 ?_
          refine AL.step rfl rfl rfl qRB6 ?_
          refine AL.step0 rfl rfl qRE5 ?_
          refine AL.step rfl rfl rfl qRA18 ?_
          refine AL.nil_then (hK _ _ ?_); clear hK K
          refine AW.region ?_
          refine AL.step rfl rfl rfl qRA19 ?_
          refine AL.step rfl rfl rfl qRE6 ?_
          refine AL.step rfl rfl rfl qRB18 ?_
          refine AL.step rfl rfl rfl qRB5 ?_
          refine AL.step rfl rfl rfl qRD9 ?_
          refine AL.step rfl rfl rfl qRB5 ?_
          refine AL.call rfl rfl rfl (AStep.callf' rfl en13 rfl (add_calls _ n L B r s.m.i s.t (hR5.same (AHeap.get_set_ne _ _ hnX) (AHeap.get_set_ne _ _ hLX) (AHeap.get_set_ne _ _ hBX)) hP.inv.1 hP.inv.2)) ?_; rintro _ H7 ⟨L7, rfl, hR7, hO7⟩
          refine AL.step rfl rfl rfl qRA18 ?_
          refine AL.nil ?_
          obtain ⟨o1, o2, o3⟩ := hO7
          simp only [za, zb, zc] at o1 o3
          refine ⟨L7, (if addE r s.m.i s.t = 0 then addR r s.m.i else r), (if addE r s.m.i s.t = 0 then noB cs s.m.i else cs), _, qRA21, hP.add _ _, hR7, ?_, by omega, by omega⟩
          exact (o2 X qRC3 (Ne.symm hnX) (Ne.symm hLX) (Ne.symm hBX)).trans (AHeap.get_set_same _ _ _)
        refine AW.seq_region (fun K hK => ?_)
        refine AL.step rfl rfl rfl qRA16 ?_
        refine AL.step rfl rfl rfl qRA18 ?_
        refine AL.nil_then (hK _ _ ?_); clear hK K
        refine AW.cond _ rfl (fun h2 => ?_) (fun h2 => ?_)
        · have hbl := hP.len
          have hone1 := refC_one (beside (if forE r s.m.i s.t = 0 then forR r s.m.i s.t else r) (if forE r s.m.i s.t = 0 then noB cs s.m.i ++ [(s.m.i, s.t + 60000)] else cs))
          refine AW.seq_region (fun K hK => ?_)
          refine AL.step rfl rfl rfl qQB1 ?_
          refine AL.step rfl rfl rfl qRE6 ?_
          refine AL.step rfl rfl rfl qRB18 ?_
          refine AL.step rfl rfl rfl qRB5 ?_
          refine AL.step rfl rfl rfl qRD9 ?_
          refine AL.step rfl rfl rfl qRB5 ?_
          refine AL.step rfl rfl rfl (by exact AStepD.callf rfl en21 rfl (rforget_ok H5 r cs s.m.i s.t hP.inv (by omega))) ?_
          refine AL.step rfl rfl rfl qRA19 ?_
          refine AL.step rfl rfl rfl qRB6 ?_
          refine AL.step rfl rfl rfl qRB6 ?_
          refine AL.step0 rfl rfl qRE5 ?_
          refine AL.step rfl rfl rfl qRA18 ?_
          refine AL.nil_then (hK _ _ ?_); clear hK K
          refine AW.region ?_
          refine AL.step rfl rfl rfl qRA19 ?_
          refine AL.step rfl rfl rfl qRE6 ?_
          refine AL.step rfl rfl rfl qRB18 ?_
          refine AL.step rfl rfl rfl qRB5 ?_
          refine AL.step rfl rfl rfl qRD9 ?_
          refine AL.step rfl rfl rfl qRB5 ?_
          refine AL.call rfl rfl rfl (AStep.callf' rfl en17 rfl (forget_calls _ n L B r s.m.i s.t (hR5.same (AHeap.get_set_ne _ _ hnX) (AHeap.get_set_ne _ _ hLX) (AHeap.get_set_ne _ _ hBX)) hP.inv)) ?_; rintro _ H7 ⟨rfl, hR7, hO7⟩
          refine AL.step rfl rfl rfl qRA18 ?_
          refine AL.nil ?_
          obtain ⟨o1, o2, o3⟩ := hO7
          simp only [za, zb, zc] at o1 o3
          refine ⟨L, (if forE r s.m.i s.t = 0 then forR r s.m.i s.t else r), (if forE r s.m.i s.t = 0 then noB cs s.m.i ++ [(s.m.i, s.t + 60000)] else cs), _, qRA21, hP.forget _ _, hR7, ?_, by omega, by omega⟩
          exact (o2 X qRC3 (Ne.symm hnX) (Ne.symm hLX) (Ne.symm hBX)).trans (AHeap.get_set_same _ _ _)
        refine AW.seq_region (fun K hK => ?_)
        refine AL.step rfl rfl rfl qRA16 ?_
        refine AL.step rfl rfl rfl qRA18 ?_
        refine AL.nil_then (hK _ _ ?_); clear hK K
        refine AW.cond _ rfl (fun h3 => ?_) (fun h3 => ?_)
        · have hbl := hP.len
          have hone1 := refC_one (beside (if setE r s.m = 0 then setR r s.m else r) cs)
          refine AW.seq_region (fun K hK => ?_)
          refine AL.step rfl rfl rfl qQB1 ?_
          refine AL.step rfl rfl rfl qRE6 ?_
          refine AL.step rfl rfl rfl qRA25 ?_
          refine AL.step rfl rfl rfl (by exact AStepD.callf rfl en22 rfl (rset_ok H5 r cs s.m hP.inv)) ?_
          refine AL.step rfl rfl rfl qRA19 ?_
          refine AL.step rfl rfl rfl qRB6 ?_
          refine AL.step rfl rfl rfl qRB6 ?_
          refine AL.step0 rfl rfl qRE5 ?_
          refine AL.step rfl rfl rfl qRA18 ?_
          refine AL.nil_then (hK _ _ ?_); clear hK K
          refine AW.region ?_
          refine AL.step rfl rfl rfl qRA19 ?_
          refine AL.step rfl rfl rfl qRE6 ?_
          refine AL.step rfl rfl rfl qRA25 ?_
          refine AL.call rfl rfl rfl (AStep.callf' rfl en15 rfl (set_calls _ n L B r s.m (hR5.same (AHeap.get_set_ne _ _ hnX) (AHeap.get_set_ne _ _ hLX) (AHeap.get_set_ne _ _ hBX)) hP.inv)) ?_; rintro _ H7 ⟨rfl, hR7, hO7⟩
          refine AL.step rfl rfl rfl qRA18 ?_
          refine AL.nil ?_
          obtain ⟨o1, o2, o3⟩ := hO7
          simp only [za, zb, zc] at o1 o3
          refine ⟨L, (if setE r s.m = 0 then setR r s.m else r), cs, _, qRA21, hP.set _, hR7, ?_, by omega, by omega⟩
          exact (o2 X qRC3 (Ne.symm hnX) (Ne.symm hLX) (Ne.symm hBX)).trans (AHeap.get_set_same _ _ _)
        refine AW.seq_region (fun K hK => ?_)
        refine AL.step rfl rfl rfl qRA16 ?_
        refine AL.step rfl rfl rfl qRA18 ?_
        refine AL.nil_then (hK _ _ ?_); clear hK K
        refine AW.cond _ rfl (fun h4 => ?_) (fun h4 => ?_)
        · have hbl := hP.len
          have h15 := hP.inv.2
          have hcu := hP.cur
          have hnl5 : n < H5.next := by obtain ⟨x0, h, _⟩ := hR5; exact hlt5 _ _ h
          have hBl5 : B < H5.next := by obtain ⟨x0, _, _, h⟩ := hR5; exact hlt5 _ _ h
          have hone1 := refC_one (beside { r with cur := r.cur + many s.k (allBut r.ms s.m.i).length } cs)
          have hrn := rnext_calls H5 (beside r cs) s.k s.m.i (show r.ms.length ≤ 1000 by omega) (show r.cur ≤ _ by omega)
          simp only [show (beside r cs).ms = r.ms from rfl, show (beside r cs).cur = r.cur from rfl] at hrn
          generalize hl2 : turn (allBut r.ms s.m.i) r.cur (many s.k (allBut r.ms s.m.i).length) = q at hrn
          have hql : q.length ≤ 1000000 := by
            have h1 := many_le s.k (allBut r.ms s.m.i).length
            have h2 := allBut_le r.ms s.m.i
            rw [← hl2, turn_length]; omega
          refine AW.seq_region (fun K hK => ?_)
          refine AL.step rfl rfl rfl qRA18 ?_
          refine AL.nil_then (hK _ _ ?_); clear hK K
          refine AW.seq_region (fun K hK => ?_)
          refine AL.step rfl rfl rfl qQB1 ?_
          refine AL.step rfl rfl rfl qRB17 ?_
          refine AL.step rfl rfl rfl qRB5 ?_
          refine AL.step rfl rfl rfl qRE6 ?_
          refine AL.step rfl rfl rfl qRB18 ?_
          refine AL.step rfl rfl rfl qRB5 ?_
          refine AL.call rfl rfl rfl (AStep.callf' rfl en23 rfl hrn) ?_; rintro _ H6 ⟨y, rfl, hy6, hk6⟩; have hX6 := hk6.get hX5 hXl; have hA6 := hk6.get hA5 hAl; have hyone : y.one = true := (by cases hy6 <;> rfl); have hk6n := hk6.1
          refine AL.step rfl rfl rfl qRA19 ?_
          refine AL.step rfl rfl rfl qRB6 ?_
          refine AL.step rfl rfl rfl qRB6 ?_
          refine AL.step0 rfl rfl qRE5 ?_
          refine AL.step rfl rfl rfl qRA18 ?_
          refine AL.nil_then (hK _ _ ?_); clear hK K
          have hR6 := hR5.keep hlt5 hk6
          refine AW.lts fun hlt6 => ?_
          have hR6' : RosAt (H6.set X (.cells 47 (refC (beside { r with cur := r.cur + many s.k (allBut r.ms s.m.i).length } cs)))) n L B r := hR6.same (AHeap.get_set_ne _ _ hnX) (AHeap.get_set_ne _ _ hLX) (AHeap.get_set_ne _ _ hBX)
          have hy7 : Ints H5 (H6.set X (.cells 47 (refC (beside { r with cur := r.cur + many s.k (allBut r.ms s.m.i).length } cs)))) y q := by
            cases hy6 with
            | nil => exact .nil
            | sl hD h => exact .sl hD ((AHeap.get_set_ne _ _ (by omega)).trans h)
          refine AW.abs (fun T' H' => SubT T' [(13, .ptr A 0), (14, .v (.int .i64 0)), (15, .v (.int .i64 0)), (16, y), (46, .v (.int .i64 i)), (45, .v (.int .i64 l.length)), (44, .vec l.length (flatC l)), (9, .ptr n 0), (11, .ptr X 0), (2, .v (.int .i64 a)), (3, .v (.int .i64 t))] ∧ RosAt H' n L B r ∧ Ints H5 H' y q ∧ H'.get A = some (.cells 49 s.cells) ∧ H'.get X = some (.cells 47 (refC (beside { r with cur := r.cur + many s.k (allBut r.ms s.m.i).length } cs))) ∧ H5.next ≤ H'.next) ⟨qRA21, hR6', hy7, (AHeap.get_set_ne _ _ hAX).trans hA6, AHeap.get_set_same _ _ _, hk6n⟩ ?_
          rintro T7 H7 ⟨hs7, hR7, hy8, hA7, hX7, hn7⟩
          refine AW.sub hs7 ?_
          clear hs7 hR6' hy7 hR6 hlt6 hX6 hA6 hy6 hk6
          refine AW.lts fun hlt7 => ?_
          refine AW.seq_region (fun K hK => ?_)
          refine AL.step rfl rfl rfl qRA19 ?_
          refine AL.step rfl rfl rfl qRB17 ?_
          refine AL.step rfl rfl rfl qRB5 ?_
          refine AL.step rfl rfl rfl qRE6 ?_
          refine AL.step rfl rfl rfl qRB18 ?_
          refine AL.step rfl rfl rfl qRB5 ?_
          refine AL.call rfl rfl rfl (AStep.callf' rfl en14 rfl (next_ok _ n L B r s.k s.m.i _ q hR7 hP.inv (by omega) rfl hl2)) ?_; rintro _ H8 ⟨rfl, hR8, hO8⟩; obtain ⟨o1, o2, o3⟩ := hO8
          refine AL.step rfl rfl rfl qRA19 ?_
          refine AL.step rfl rfl rfl (by exact AStepD.callf rfl en24 rfl (same_ok _ H5 q y (hy8.keep hlt7 (fun k hk h5 hc => o2 k hk (by omega) (by omega) (by omega))) hql)) ?_
          refine AL.step rfl rfl rfl qRB9 ?_
          refine AL.nil_then (hK _ _ ?_); clear hK K
          refine AW.cond_false rfl rfl (AW.skip ?_)
          exact ⟨L, { r with cur := r.cur + many s.k (allBut r.ms s.m.i).length }, cs, 0, qRA21, hP.next _ _, hR8, (o2 X (by have := hlt7 _ _ hX7; omega) (Ne.symm hnX) (Ne.symm hLX) (Ne.symm hBX)).trans hX7, hLX, by omega⟩
        refine AW.skip ?_
        exact ⟨L, r, cs, 0, qRA21, hP.skip, hR5, hX5, hLX, hLl5⟩
      · rintro T6 H6 ⟨L', r', cs', e, hs6, hP6, hR6, hX6, hLX6, hLl6⟩
        refine AW.sub hs6 ?_
        clear hs6
        have hlen := hP6.len
        refine AW.seq_region (fun K hK => ?_)
        refine AL.step rfl rfl rfl qRA19 ?_
        refine AL.step rfl rfl rfl qRA19 ?_
        refine AL.step rfl rfl rfl (by exact AStepD.bool (AStepD.neq rfl rfl rfl) (c := false) (by simp)) ?_
        refine AL.step rfl rfl rfl qRA19 ?_
        first | refine AL.gstep rfl rfl rfl rfl rfl rfl rfl qRA19 ?_ | refine AL.gskip rfl rfl rfl rfl rfl rfl rfl ?_ | refine AL.gnone rfl rfl rfl rfl rfl ?_ | refine AL.gmay rfl rfl rfl rfl rfl rfl qRA34 ?_ | refine AL.gmay2 rfl rfl rfl rfl rfl rfl qRA35 ?_
        first | refine AL.gstep rfl rfl rfl rfl rfl rfl rfl qQB1 ?_ | refine AL.gskip rfl rfl rfl rfl rfl rfl rfl ?_ | refine AL.gnone rfl rfl rfl rfl rfl ?_ | refine AL.gmay rfl rfl rfl rfl rfl rfl (fun hb => by (try (apply AStepD.uncond 11 rfl (gpf hb))); exact qQB1) ?_ | refine AL.gmay2 rfl rfl rfl rfl rfl rfl (fun _ hb => by (try (apply AStepD.uncond 11 rfl (gpf hb))); exact qQB1) ?_
        first | refine AL.gstep rfl rfl rfl rfl rfl rfl rfl qRA19 ?_ | refine AL.gskip rfl rfl rfl rfl rfl rfl rfl ?_ | refine AL.gnone rfl rfl rfl rfl rfl ?_ | refine AL.gmay rfl rfl rfl rfl rfl rfl qRA30 ?_ | refine AL.gmay2 rfl rfl rfl rfl rfl rfl qRA31 ?_
        first | refine AL.gstep rfl rfl rfl rfl rfl rfl rfl qRA19 ?_ | refine AL.gskip rfl rfl rfl rfl rfl rfl rfl ?_ | refine AL.gnone rfl rfl rfl rfl rfl ?_ | refine AL.gmay rfl rfl rfl rfl rfl rfl qQF1 ?_ | refine AL.gmay2 rfl rfl rfl rfl rfl rfl qQF2 ?_
        first | refine AL.gstep rfl rfl rfl rfl rfl rfl rfl (by exact AStepD.callf rfl en25 rfl (like_calls _ n L' B r' cs' r'.cur a t hR6 hP6.inv (hP6.rel a t) (by omega))) ?_ | refine AL.gskip rfl rfl rfl rfl rfl rfl rfl ?_ | refine AL.gnone rfl rfl rfl rfl rfl ?_ | refine AL.gmay rfl rfl rfl rfl rfl rfl (fun hb => by (try (apply AStepD.uncond 129 rfl (gpf hb))); (try (apply AStepD.uncond 130 rfl (gpf hb))); (try (apply AStepD.uncond 131 rfl (gpf hb))); (try (apply AStepD.uncond 132 rfl (gpf hb))); exact (by exact AStepD.callf rfl en25 rfl (like_calls _ n L' B r' cs' r'.cur a t hR6 hP6.inv (hP6.rel a t) (by omega)))) ?_ | refine AL.gmay2 rfl rfl rfl rfl rfl rfl (fun _ hb => by (try (apply AStepD.uncond 129 rfl (gpf hb))); (try (apply AStepD.uncond 130 rfl (gpf hb))); (try (apply AStepD.uncond 131 rfl (gpf hb))); (try (apply AStepD.uncond 132 rfl (gpf hb))); exact (by exact AStepD.callf rfl en25 rfl (like_calls _ n L' B r' cs' r'.cur a t hR6 hP6.inv (hP6.rel a t) (by omega)))) ?_
        first | refine AL.gstep rfl rfl rfl rfl rfl rfl rfl qRB9 ?_ | refine AL.gskip rfl rfl rfl rfl rfl rfl rfl ?_ | refine AL.gnone rfl rfl rfl rfl rfl ?_ | refine AL.gmay rfl rfl rfl rfl rfl rfl (fun hb => by (try (apply AStepD.uncond 133 rfl (gpf hb))); exact qRB9) ?_ | refine AL.gmay2 rfl rfl rfl rfl rfl rfl (fun _ hb => by (try (apply AStepD.uncond 133 rfl (gpf hb))); exact qRB9) ?_
        refine AL.step rfl rfl rfl qRA28 ?_
        refine AL.nil_then (hK _ _ ?_); clear hK K
        refine AW.cond_false rfl rfl (AW.skip ?_)
        refine hK1 _ _ ?_; clear hK1 K1
        refine AW.region ?_
        refine AL.step rfl rfl rfl qRA22 ?_
        refine AL.step rfl rfl rfl qRA19 ?_
        refine AL.nil ?_
        refine ⟨(i + 1, L', r', cs'), ?_, qRA21, hil, hP6, hR6, hX6, hLX6, hLl6⟩
        show l.length - (i + 1) < l.length - i
        omega
    · refine AW.exit ?_
      refine hK _ _ ?_; clear hK1 K1 hK K
      refine AW.seq_region (fun K hK => ?_)
      refine AL.step rfl rfl rfl qRA18 ?_
      refine AL.nil_then (hK _ _ ?_); clear hK K
      exact AW.ret (RetQ.mk (.inr rfl) (retA_tmp rfl qRA1 retA_nil) rfl)
theorem act_of {cs : List AV} (h : Sh tt 49 cs) : ∃ s : Act, cs = s.cells := by
  obtain ⟨rows, rfl, hl, hr, _⟩ := h.struct_inv rfl
  have hl4 : rows.length = 4 := hl
  obtain ⟨r0, r1, r2, r3, rfl⟩ : ∃ r0 r1 r2 r3, rows = [r0, r1, r2, r3] := by
    match rows, hl4 with
    | [a, b, c, d], _ => exact ⟨a, b, c, d, rfl⟩
  obtain ⟨a, rfl, _⟩ := (hr 0 _ r0 rfl rfl).int_inv (k := .i64) rfl
  obtain ⟨b, rfl, _⟩ := (hr 1 _ r1 rfl rfl).int_inv (k := .i64) rfl
  obtain ⟨c, rfl, _⟩ := (hr 2 _ r2 rfl rfl).int_inv (k := .i64) rfl
  obtain ⟨d, rfl, _⟩ := mem_cells (hr 3 _ r3 rfl rfl)
  exact ⟨⟨a, b, c, d⟩, rfl⟩
theorem acts_of {a : AV} (h : ShV tt 42 a) : ∃ l : List Act, a = .vec l.length (flatC l) ∧ True := by
  obtain ⟨rows, h1, _, hr, _⟩ := (h.one rfl).slice_inv (e := 49) rfl
  obtain ⟨l, h2, rfl⟩ := rows_of (g := Act.cells) (fun r hr => act_of hr) rows hr
  simp only [List.cons.injEq, and_true] at h1
  refine ⟨l, ?_, trivial⟩
  rw [h1, ← h2, flatC, List.flatMap_def]
theorem four {xs : List AV} (h : xs.length = 4) : ∃ a b c d, xs = [a, b, c, d] := by
  match xs, h with
  | [a, b, c, d], _ => exact ⟨a, b, c, d, rfl⟩

end Go.Proofs.Ytjiifddmcmbbnaa
