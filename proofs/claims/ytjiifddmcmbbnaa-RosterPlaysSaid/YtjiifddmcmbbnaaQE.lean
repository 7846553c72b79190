/- The walk of the reference's Next. -/
import Derived.Test.YtjiifddmcmbbnaaQD
namespace Go.Proofs.Ytjiifddmcmbbnaa
open Go.Ax
set_option linter.unusedSimpArgs false
set_option linter.unusedVariables false

theorem rnext_calls (H : AHeap) (r : Ros) (k w : Int) (hl : r.ms.length ≤ 1000) (hcur : r.cur ≤ 1000000000000) :
    ACalls Try.prog 23 [.agg (refC r), .v (.int .i64 k), .v (.int .i64 w)] H (fun v H' => ∃ y, v = .tup [.agg (refC { r with cur := r.cur + many k (allBut r.ms w).length }), y] ∧ Ints H H' y (turn (allBut r.ms w) r.cur (many k (allBut r.ms w).length)) ∧ Keep H H') := by
  refine ACalls.lts fun hlt => ?_
  have hone := refC_one r
  have hfl := flat_length r.ms
  refine ACalls.of_body tok Try.func23 rfl Try.ntmps23 (Nat.le_of_ble_eq_true rfl) ?_
  refine AW.seq_region (fun K hK => ?_)
  refine AL.step rfl rfl rfl qRM1 ?_
  refine AL.step rfl rfl rfl qRJ1 ?_
  refine AL.step rfl rfl rfl qRA18 ?_
  refine AL.nil_then (hK _ _ ?_); clear hK K
  refine AW.seq_region (fun K hK => ?_)
  refine AL.step rfl rfl rfl qRA18 ?_
  refine AL.nil_then (hK _ _ ?_); clear hK K
  refine AW.seq_k (fun K hK => ?_)
  refine AW.seq_region (fun K hK => ?_)
  refine AL.step rfl rfl rfl qRA18 ?_
  refine AL.nil_then (hK _ _ ?_); clear hK K
  refine AW.abs (fun T' H' => ∃ X Y : Nat, SubT T' [(9, .v (.int .i64 (0 : Nat))), (8, .v (.slice none 0 0)), (3, .ptr X 0), (6, .ptr Y 0), (1, .v (.int .i64 k)), (2, .v (.int .i64 w))] ∧ H'.get X = some (.cells 47 [.v (.int .i64 r.self), .vec r.ms.length (flat r.ms), .vec r.bs.length (flatB r.bs), .v (.int .i64 (r.cur : Nat))]) ∧ H'.get Y = some (.cells 47 (AV.ofV (tt 47).zero)) ∧ Keep H H' ∧ H.next ≤ X ∧ H.next ≤ Y ∧ X ≠ Y) ⟨H.next, H.next + 1, qRA21, qRA6, qRA6, qRA8, Nat.le_refl _, by omega, by omega⟩ ?_
  rintro T0 H0 ⟨X, Y, hs0, hX0, hY0, hk0, hXn, hYn, hXY⟩
  refine AW.sub hs0 ?_
  clear hs0
  refine AW.lts fun hlt0 => ?_
  have hXl0 := hlt0 _ _ hX0
  have hYl0 := hlt0 _ _ hY0
  have hk0n := hk0.1
  refine AW.block ?_
  refine AW.loop_at (ι := Nat × AV) (fun x => [(9, .v (.int .i64 x.1)), (8, x.2), (3, .ptr X 0), (6, .ptr Y 0), (1, .v (.int .i64 k)), (2, .v (.int .i64 w))])
    (fun x H' => x.1 ≤ r.ms.length ∧ Keep H H' ∧ H0.next ≤ H'.next ∧ H'.get X = some (.cells 47 [.v (.int .i64 r.self), .vec r.ms.length (flat r.ms), .vec r.bs.length (flatB r.bs), .v (.int .i64 (r.cur : Nat))]) ∧ H'.get Y = some (.cells 47 (AV.ofV (tt 47).zero)) ∧ Ints H0 H' x.2 (allBut (r.ms.take x.1) w)) (fun x => r.ms.length - x.1) (0, .v (.slice none 0 0)) qRA21 ⟨Nat.zero_le _, hk0, Nat.le_refl _, hX0, hY0, .nil⟩ ?_
  rintro ⟨i, y⟩ H1 ⟨hi, hk1, hn1, hX, hY, hy⟩
  dsimp only at hi hk1 hX hY hy ⊢
  refine AW.seq_k (fun K1 hK1 => ?_)
  refine AW.seq_region (fun K hK => ?_)
  refine AL.step rfl rfl rfl qRA19 ?_
  refine AL.step rfl rfl rfl qRD9 ?_
  refine AL.step rfl rfl rfl qRB5 ?_
  refine AL.step rfl rfl rfl qRC9 ?_
  refine AL.step rfl rfl rfl qRA3 ?_
  refine AL.nil_then (hK _ _ ?_); clear hK K
  refine AW.cond _ rfl (fun hc => ?_) (fun hc => ?_)
  · refine AW.skip (hK1 _ _ ?_); clear hK1 K1
    have hil : i < r.ms.length := by have := of_decide_eq_true hc; omega
    have hf0 := flat_id r.ms i hil
    have htn := take_next r.ms i hil
    have hyl := allBut_le (r.ms.take i) w
    have hyl2 : (r.ms.take i).length = i := by rw [List.length_take]; omega
    refine AW.lts fun hlt1 => ?_
    refine AW.seq_k (fun K1 hK1 => ?_)
    refine AW.block ?_
    refine AW.seq_region (fun K hK => ?_)
    refine AL.step rfl rfl rfl qRD9 ?_
    refine AL.step rfl rfl rfl qRB5 ?_
    refine AL.step rfl rfl rfl qRA19 ?_
    refine AL.step rfl rfl rfl qRA24 ?_
    refine AL.step rfl rfl rfl qRB18 ?_
    refine AL.step rfl rfl rfl qRB5 ?_
    refine AL.step rfl rfl rfl qRA19 ?_
    refine AL.step rfl rfl rfl qRA2 ?_
    refine AL.nil_then (hK _ _ ?_); clear hK K
    refine AW.cond _ rfl (fun hd => ?_) (fun hd => ?_)
    · have hd := of_decide_eq_true hd
      generalize hq : allBut (r.ms.take i) w = q at hy hyl
      cases hy with
      | nil =>
        refine AW.region ?_
        refine AL.step rfl rfl rfl qRA19 ?_
        refine AL.step rfl rfl rfl qRD9 ?_
        refine AL.step rfl rfl rfl qRB5 ?_
        refine AL.step rfl rfl rfl qRA19 ?_
        refine AL.step rfl rfl rfl qRA24 ?_
        refine AL.step rfl rfl rfl qRB18 ?_
        refine AL.step rfl rfl rfl qRB5 ?_
        refine AL.step rfl rfl rfl qRE2 ?_
        refine AL.step rfl rfl rfl (by first | exact AStepD.append' (bk := 64) tok rfl rfl rfl rfl rfl rfl rfl rfl (show _ = 1 from rfl) rfl qRA6 rfl qRA11 qRA23 qRA11 qRA4 qRA11 qRA11 qRA14 qRC2 | exact AStepD.append_nil' (bk := 64) tok rfl rfl rfl rfl rfl rfl rfl rfl (show _ = 1 from rfl) rfl qRA23 qRA11 qRA11 qRA11 qRA11) ?_
        refine AL.step rfl rfl rfl qRA18 ?_
        refine AL.nil ?_
        refine hK1 _ _ ?_; clear hK1 K1
        refine AW.region ?_
        refine AL.step rfl rfl rfl qRA19 ?_
        refine AL.step rfl rfl rfl qRA22 ?_
        refine AL.step rfl rfl rfl qRA18 ?_
        refine AL.nil ?_
        refine Exists.intro (i + 1, AV.sl ?taD 0 1 1) ⟨?tam, ?tas, hil, ?tak, ?tan, ?tax, ?taw, ?tay⟩
        case tas => exact qRA21
        case tam => show r.ms.length - (i + 1) < r.ms.length - i; omega
        case tak => exact ⟨by (simp only [za, zb, zc]; omega), fun l hl => Eq.trans qRC4 (hk1.2 l hl)⟩
        case tan => (simp only [za, zb, zc]; omega)
        case tax => exact qRA6
        case taw => exact qRA6
        case tay =>
          show Ints H0 _ (AV.sl _ 0 1 1) (allBut (r.ms.take (i + 1)) w)
          rw [htn, allBut_snoc, if_pos hd, hq]
          refine Ints.mk (cs := ?tac) ?taa ?tab ?tae ?taf
          case tab => exact qRA6
          case taa => (simp only [za, zb, zc]; omega)
          case tae => simp [intsA]
          case taf => simp
      | sl hD hyH =>
        have hyl' := hlt1 _ _ hyH
        have hio := intsA_ones q
        have hil' := intsA_length q
        refine AW.region ?_
        refine AL.step rfl rfl rfl qRA19 ?_
        refine AL.step rfl rfl rfl qRD9 ?_
        refine AL.step rfl rfl rfl qRB5 ?_
        refine AL.step rfl rfl rfl qRA19 ?_
        refine AL.step rfl rfl rfl qRA24 ?_
        refine AL.step rfl rfl rfl qRB18 ?_
        refine AL.step rfl rfl rfl qRB5 ?_
        refine AL.step rfl rfl rfl qRE2 ?_
        refine AL.step rfl rfl rfl (by first | exact AStepD.append' (bk := 64) tok rfl rfl rfl rfl rfl rfl rfl rfl (show _ = 1 from rfl) rfl qRA6 rfl qRA11 qRA23 qRA11 qRA4 qRA11 qRA11 qRA14 qRC2 | exact AStepD.append_nil' (bk := 64) tok rfl rfl rfl rfl rfl rfl rfl rfl (show _ = 1 from rfl) rfl qRA23 qRA11 qRA11 qRA11 qRA11) ?_
        refine AL.step rfl rfl rfl qRA18 ?_
        refine AL.nil ?_
        refine hK1 _ _ ?_; clear hK1 K1
        refine AW.region ?_
        refine AL.step rfl rfl rfl qRA19 ?_
        refine AL.step rfl rfl rfl qRA22 ?_
        refine AL.step rfl rfl rfl qRA18 ?_
        refine AL.nil ?_
        refine Exists.intro (i + 1, AV.sl ?tbD 0 (q.length + 1) 1) ⟨?tbm, ?tbs, hil, ?tbk, ?tbn, ?tbx, ?tbw, ?tby⟩
        case tbs => exact qRA21
        case tbm => show r.ms.length - (i + 1) < r.ms.length - i; omega
        case tbk => exact ⟨by (simp only [za, zb, zc]; omega), fun l hl => Eq.trans qRC4 (hk1.2 l hl)⟩
        case tbn => (simp only [za, zb, zc]; omega)
        case tbx => exact qRA6
        case tbw => exact qRA6
        case tby =>
          show Ints H0 _ (AV.sl _ 0 (q.length + 1) 1) (allBut (r.ms.take (i + 1)) w)
          rw [htn, allBut_snoc, if_pos hd, hq]
          refine Ints.mk (cs := ?tbc) ?tba ?tbb ?tbe ?tbf
          case tbb => exact qRA6
          case tba => (simp only [za, zb, zc]; omega)
          case tbe => simp [intsA]
          case tbf => simp
    · have hd := of_decide_eq_false hd
      refine AW.skip ?_
      refine hK1 _ _ ?_; clear hK1 K1
      refine AW.region ?_
      refine AL.step rfl rfl rfl qRA19 ?_
      refine AL.step rfl rfl rfl qRA22 ?_
      refine AL.step rfl rfl rfl qRA18 ?_
      refine AL.nil ?_
      refine ⟨(i + 1, y), ?_, qRA21, hil, hk1, hn1, hX, hY, ?_⟩
      · show r.ms.length - (i + 1) < r.ms.length - i
        omega
      · show Ints H0 _ y (allBut (r.ms.take (i + 1)) w)
        rw [htn, allBut_snoc, if_neg hd]
        exact hy
  · refine AW.exit ?_
    refine hK _ _ ?_; clear hK1 K1 hK K
    have hil : i = r.ms.length := by have := of_decide_eq_false hc; omega
    rw [hil, List.take_length] at hy
    have hall := allBut_le r.ms w
    have hmany := many_le k (allBut r.ms w).length
    have hmd : many k (allBut r.ms w).length = (if ((allBut r.ms w).length : Int) < k then ((allBut r.ms w).length : Int) else k).toNat := rfl
    generalize allBut r.ms w = all at hy hall hmany hmd ⊢
    refine AW.lts fun hlt1 => ?_
    have hXl1 := hlt1 _ _ hX
    have hYl1 := hlt1 _ _ hY
    have hysl := hy.isSl
    refine AW.seq_region (fun K hK => ?_)
    refine AL.step rfl rfl rfl qRA18 ?_
    refine AL.nil_then (hK _ _ ?_); clear hK K
    refine AW.seq_k (fun K hK => ?_)
    refine AW.block ?_
    refine AW.loop_at (ι := Nat × AV) (fun z => [(10, z.2), (8, y), (3, .ptr X 0), (6, .ptr Y 0), (1, .v (.int .i64 k))])
      (fun z H' => z.1 ≤ many k all.length ∧ Ints H1 H' z.2 (turn all r.cur z.1) ∧ H'.get X = some (.cells 47 [.v (.int .i64 r.self), .vec r.ms.length (flat r.ms), .vec r.bs.length (flatB r.bs), .v (.int .i64 (r.cur + z.1 : Nat))]) ∧ H'.get Y = some (.cells 47 (AV.ofV (tt 47).zero)) ∧ H1.next ≤ H'.next ∧ (∀ q, q < H1.next → q ≠ X → H'.get q = H1.get q))
      (fun z => many k all.length - z.1) (0, .v (.slice none 0 0)) qRA21 ⟨Nat.zero_le _, .nil, hX, hY, Nat.le_refl _, fun q h _ => rfl⟩ ?_
    rintro ⟨j, z⟩ H2 ⟨hj, hz2, hX2, hY2, hkn2, hk2⟩
    dsimp only at hj hz2 hX2 hY2 ⊢
    have hzsl := hz2.isSl
    rw [turn_length] at hzsl
    refine AW.seq_k (fun K1 hK1 => ?_)
    refine AW.seq_region (fun K hK => ?_)
    refine AL.step rfl rfl rfl qRA19 ?_
    refine AL.step rfl rfl rfl qRC9 ?_
    refine AL.step rfl rfl rfl qRA19 ?_
    refine AL.step rfl rfl rfl qRA3 ?_
    refine AL.step rfl rfl rfl qRA19 ?_
    first | refine AL.gstep rfl rfl rfl rfl rfl rfl rfl qRA19 ?_ | refine AL.gskip rfl rfl rfl rfl rfl rfl rfl ?_ | refine AL.gnone rfl rfl rfl rfl rfl ?_ | refine AL.gmay rfl rfl rfl rfl rfl rfl qRL4 ?_ | refine AL.gmay2 rfl rfl rfl rfl rfl rfl qRL5 ?_
    first | refine AL.gstep rfl rfl rfl rfl rfl rfl rfl qRC9 ?_ | refine AL.gskip rfl rfl rfl rfl rfl rfl rfl ?_ | refine AL.gnone rfl rfl rfl rfl rfl ?_ | refine AL.gmay rfl rfl rfl rfl rfl rfl (fun hb => by (try (apply AStepD.uncond 40 rfl (gpf hb))); exact qRC9) ?_ | refine AL.gmay2 rfl rfl rfl rfl rfl rfl (fun _ hb => by (try (apply AStepD.uncond 40 rfl (gpf hb))); exact qRC9) ?_
    first | refine AL.gstep rfl rfl rfl rfl rfl rfl rfl qRA19 ?_ | refine AL.gskip rfl rfl rfl rfl rfl rfl rfl ?_ | refine AL.gnone rfl rfl rfl rfl rfl ?_ | refine AL.gmay rfl rfl rfl rfl rfl rfl qRL8 ?_ | refine AL.gmay2 rfl rfl rfl rfl rfl rfl qRL9 ?_
    first | refine AL.gstep rfl rfl rfl rfl rfl rfl rfl qRC9 ?_ | refine AL.gskip rfl rfl rfl rfl rfl rfl rfl ?_ | refine AL.gnone rfl rfl rfl rfl rfl ?_ | refine AL.gmay rfl rfl rfl rfl rfl rfl (fun hb => by (try (apply AStepD.uncond 42 rfl (gpf hb))); exact qRC9) ?_ | refine AL.gmay2 rfl rfl rfl rfl rfl rfl (fun _ hb => by (try (apply AStepD.uncond 42 rfl (gpf hb))); exact qRC9) ?_
    first | refine AL.gstep rfl rfl rfl rfl rfl rfl rfl qRA3 ?_ | refine AL.gskip rfl rfl rfl rfl rfl rfl rfl ?_ | refine AL.gnone rfl rfl rfl rfl rfl ?_ | refine AL.gmay rfl rfl rfl rfl rfl rfl (fun hb => by (try (apply AStepD.uncond 41 rfl (gpf hb))); (try (apply AStepD.uncond 43 rfl (gpf hb))); exact qRA3) ?_ | refine AL.gmay2 rfl rfl rfl rfl rfl rfl (fun _ hb => by (try (apply AStepD.uncond 41 rfl (gpf hb))); (try (apply AStepD.uncond 43 rfl (gpf hb))); exact qRA3) ?_
    refine AL.step rfl rfl rfl qRA28 ?_
    refine AL.nil_then (hK _ _ ?_); clear hK K
    refine AW.cond _ rfl (fun hc2 => ?_) (fun hc2 => ?_)
    · refine AW.skip (hK1 _ _ ?_); clear hK1 K1
      have hjm : j < many k all.length := by
        rw [Bool.and_eq_true, decide_eq_true_eq, decide_eq_true_eq] at hc2
        rw [hmd]
        split <;> omega
      have hal : 0 < all.length := by omega
      obtain ⟨D, rfl, hDn, hD1⟩ := hy.at hal
      have hDl1 := hlt1 _ _ hD1
      have hDX : D ≠ X := by omega
      have hDY : D ≠ Y := by omega
      have hD := (hk2 D hDl1 hDX).trans hD1
      have hia := intsA_length all
      have hix : (r.cur + j) % all.length < all.length := Nat.mod_lt _ hal
      have hat : (intsA all)[(r.cur + j) % all.length * 1]? = some (.v (.int .i64 all[(r.cur + j) % all.length])) := by rw [Nat.mul_one]; exact intsA_at all _ hix
      have hatg : all.getD ((r.cur + j) % all.length) 0 = all[(r.cur + j) % all.length] := by simp [List.getD_eq_getElem?_getD, hix]
      have hts := turn_snoc all r.cur j
      rw [hatg] at hts
      have htl := turn_length all r.cur j
      refine AW.lts fun hlt2 => ?_
      have hDl := hlt2 _ _ hD
      have hXl2 := hlt2 _ _ hX2
      have hYl2 := hlt2 _ _ hY2
      refine AW.block ?_
      generalize turn all r.cur j = q at hz2 hts htl
      cases hz2 with
      | nil =>
        refine AW.seq_region (fun K hK => ?_)
        refine AL.step rfl rfl rfl qRA19 ?_
        refine AL.step rfl rfl rfl qRA19 ?_
        refine AL.step rfl rfl rfl qRE6 ?_
        refine AL.step rfl rfl rfl qRB5 ?_
        refine AL.step rfl rfl rfl qRA19 ?_
        refine AL.step rfl rfl rfl qRC9 ?_
        refine AL.step rfl rfl rfl (by exact AStepD.val (AStepD.rem rfl rfl rfl (by omega) rfl) (show _ = AV.v (.int .i64 ((r.cur + j) % all.length : Nat)) from congrArg (fun q => AV.v (.int .i64 q)) (Int.ofNat_tmod _ _).symm)) ?_
        refine AL.step rfl rfl rfl qRE4 ?_
        refine AL.step rfl rfl rfl qRB5 ?_
        refine AL.step rfl rfl rfl qRE2 ?_
        refine AL.step rfl rfl rfl (by first | exact AStepD.append' (bk := 64) tok rfl rfl rfl rfl rfl rfl rfl rfl (show _ = 1 from rfl) rfl qRA6 rfl qRA11 qRA23 qRA11 qRA4 qRA11 qRA11 qRA14 qRC2 | exact AStepD.append_nil' (bk := 64) tok rfl rfl rfl rfl rfl rfl rfl rfl (show _ = 1 from rfl) rfl qRA23 qRA11 qRA11 qRA11 qRA11) ?_
        refine AL.step rfl rfl rfl qRA18 ?_
        refine AL.nil_then (hK _ _ ?_); clear hK K
        refine AW.region ?_
        refine AL.step rfl rfl rfl qRE6 ?_
        refine AL.step rfl rfl rfl qRB5 ?_
        refine AL.step rfl rfl rfl qRA22 ?_
        refine AL.step rfl rfl rfl qRE6 ?_
        refine AL.step0 rfl rfl qRE5 ?_
        refine AL.nil ?_
        refine Exists.intro (j + 1, AV.sl ?uaD 0 1 1) ⟨?uam, ?uas, ?uaj, ?uay, ?uag, ?uaw, ?uan, ?uak⟩
        case uas => exact qRA21
        case uam => show many k all.length - (j + 1) < many k all.length - j; omega
        case uaj => exact hjm
        case uay =>
          show Ints H1 _ (AV.sl _ 0 1 1) (turn all r.cur (j + 1))
          rw [hts]
          refine Ints.mk (cs := ?uac) ?uaa ?uab ?uae ?uaf
          case uab => exact qRA6
          case uaa => (simp only [za, zb, zc]; omega)
          case uae => simp [intsA]
          case uaf => simp
        case uag =>
          rw [show r.cur + (j + 1) = r.cur + j + 1 from rfl]
          exact qRA6
        case uaw => exact qRA6
        case uan => (simp only [za, zb, zc]; omega)
        case uak => intro q h1 h2; exact Eq.trans qRC4 (hk2 q h1 h2)
      | sl hE hzH =>
        have hEl := hlt2 _ _ hzH
        have hqo := intsA_ones q
        have hqi := intsA_length q
        refine AW.seq_region (fun K hK => ?_)
        refine AL.step rfl rfl rfl qRA19 ?_
        refine AL.step rfl rfl rfl qRA19 ?_
        refine AL.step rfl rfl rfl qRE6 ?_
        refine AL.step rfl rfl rfl qRB5 ?_
        refine AL.step rfl rfl rfl qRA19 ?_
        refine AL.step rfl rfl rfl qRC9 ?_
        refine AL.step rfl rfl rfl (by exact AStepD.val (AStepD.rem rfl rfl rfl (by omega) rfl) (show _ = AV.v (.int .i64 ((r.cur + j) % all.length : Nat)) from congrArg (fun q => AV.v (.int .i64 q)) (Int.ofNat_tmod _ _).symm)) ?_
        refine AL.step rfl rfl rfl qRE4 ?_
        refine AL.step rfl rfl rfl qRB5 ?_
        refine AL.step rfl rfl rfl qRE2 ?_
        refine AL.step rfl rfl rfl (by first | exact AStepD.append' (bk := 64) tok rfl rfl rfl rfl rfl rfl rfl rfl (show _ = 1 from rfl) rfl qRA6 rfl qRA11 qRA23 qRA11 qRA4 qRA11 qRA11 qRA14 qRC2 | exact AStepD.append_nil' (bk := 64) tok rfl rfl rfl rfl rfl rfl rfl rfl (show _ = 1 from rfl) rfl qRA23 qRA11 qRA11 qRA11 qRA11) ?_
        refine AL.step rfl rfl rfl qRA18 ?_
        refine AL.nil_then (hK _ _ ?_); clear hK K
        refine AW.region ?_
        refine AL.step rfl rfl rfl qRE6 ?_
        refine AL.step rfl rfl rfl qRB5 ?_
        refine AL.step rfl rfl rfl qRA22 ?_
        refine AL.step rfl rfl rfl qRE6 ?_
        refine AL.step0 rfl rfl qRE5 ?_
        refine AL.nil ?_
        refine Exists.intro (j + 1, AV.sl ?ubD 0 (q.length + 1) 1) ⟨?ubm, ?ubs, ?ubj, ?uby, ?ubg, ?ubw, ?ubn, ?ubk⟩
        case ubs => exact qRA21
        case ubm => show many k all.length - (j + 1) < many k all.length - j; omega
        case ubj => exact hjm
        case uby =>
          show Ints H1 _ (AV.sl _ 0 (q.length + 1) 1) (turn all r.cur (j + 1))
          rw [hts]
          refine Ints.mk (cs := ?ubc) ?uba ?ubb ?ube ?ubf
          case ubb => exact qRA6
          case uba => (simp only [za, zb, zc]; omega)
          case ube => simp [intsA]
          case ubf => simp
        case ubg =>
          rw [show r.cur + (j + 1) = r.cur + j + 1 from rfl]
          exact qRA6
        case ubw => exact qRA6
        case ubn => (simp only [za, zb, zc]; omega)
        case ubk => intro q h1 h2; exact Eq.trans qRC4 (hk2 q h1 h2)
    · refine AW.exit ?_
      refine hK _ _ ?_; clear hK1 K1 hK K
      have hjm : j = many k all.length := by
        rw [Bool.and_eq_false_iff, decide_eq_false_iff_not, decide_eq_false_iff_not] at hc2
        rw [hmd] at hj ⊢
        revert hj
        split <;> intro hj <;> omega
      subst hjm
      generalize turn all r.cur (many k all.length) = q at hz2 ⊢
      have hzone : z.one = true := by cases hz2 <;> rfl
      refine AW.lts fun hlt2 => ?_
      have hXl2 := hlt2 _ _ hX2
      have hYl2 := hlt2 _ _ hY2
      refine AW.seq_region (fun K hK => ?_)
      refine AL.step rfl rfl rfl qQB1 ?_
      refine AL.step rfl rfl rfl qRA19 ?_
      refine AL.step0 rfl rfl qRE5 ?_
      refine AL.step rfl rfl rfl qRA18 ?_
      refine AL.nil_then (hK _ _ ?_); clear hK K
      refine AW.ret (RetQ.mk (.inr rfl) qQB2 ⟨z, rfl, ?_, ?_⟩)
      · cases hz2 with
        | nil => exact .nil
        | sl hE h => exact .sl (by omega) (Eq.trans qRC4 h)
      · exact ⟨by (simp only [za, zb, zc]; omega), fun q hq => Eq.trans qRC4 ((hk2 q (by omega) (by omega)).trans (hk1.2 q hq))⟩
end Go.Proofs.Ytjiifddmcmbbnaa
