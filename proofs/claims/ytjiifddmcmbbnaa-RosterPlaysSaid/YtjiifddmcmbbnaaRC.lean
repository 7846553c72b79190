/- The walk of slices.Insert at the roster's members. -/
import Derived.Test.YtjiifddmcmbbnaaRB
namespace Go.Proofs.Ytjiifddmcmbbnaa
open Go.Ax
theorem qRC1 {p : Prop} (h : p := by first | exact IsSl.vec | exact IsSl.sl | exact IsSl.slc | exact IsSl.nil | with_reducible assumption) : p := h
theorem qRC2 {p : Prop} (h : p := by first | exact List.nil_append _ | exact rfl) : p := h
theorem qRC3 {p : Prop} (h : p := by (try simp only [za, zb, zc, ne_eq]); omega) : p := h
theorem qRC4 {p : Prop} (h : p := by simp (disch := (first | omega | (refine id ?_; simp only [za, zb, zc]; done) | (simp only [za, zb, zc]; omega))) only [z1, z2, z3, z4, z5, z6, z7, z8, ne_eq]) : p := h
theorem qRC5 {p : Prop} (h : p := by rw [List.length_drop]; omega) : p := h
theorem qRC6 {p : Prop} (h : p := by simp only [List.getD_cons_zero, List.getD_cons_succ]; all_goals apply Eq.refl) : p := h
theorem qRC7 {p : Prop} (h : p := by simp only [frameAt, putA]; all_goals exact rfl) : p := h
theorem qRC8 {p : Prop} (h : p := by simp only [List.length_cons, List.length_nil, Nat.zero_add, Nat.reduceAdd, List.getD_cons_zero, List.getD_cons_succ]; all_goals apply Eq.refl) : p := h
theorem qRC9 {p : Prop} (h : p := by first | exact AStepD.len_str tok rfl rfl rfl rfl | exact AStepD.len_sl tok rfl qRA1 qRC1 rfl rfl | exact AStepD.len_arr tok rfl rfl rfl) : p := h
set_option linter.unusedSimpArgs false
set_option linter.unusedVariables false

theorem over_at {A B ys : List AV} {n : Nat} (h : A.length = n) : over (A ++ B) n ys = A ++ ys ++ B.drop ys.length := by
  subst h
  simp [over, List.drop_append]

theorem src_sl' {H : AHeap} {l off n k : Nat} {ty : TypeId} {cs ys : List AV} (h : H.get l = some (.cells ty cs)) (hf : off + n * k ≤ cs.length) (e : (cs.drop off).take (n * k) = ys) : Go.Ax.Src H k (.sl l off n k) n ys := e ▸ Go.Ax.Src.sl h hf
theorem srcN_sl' {H : AHeap} {l off n m k : Nat} {ty : TypeId} {cs ys : List AV} (h : H.get l = some (.cells ty cs)) (hm : m ≤ n) (hf : off + m * k ≤ cs.length) (e : (cs.drop off).take (m * k) = ys) : SrcN H k (.sl l off n k) n m ys := e ▸ SrcN.sl h hm hf
theorem over_over {cs R ys : List AV} {a b : Nat} (h : b + ys.length = a) (ha : a ≤ cs.length) : over (over cs a R) b ys = cs.take b ++ ys ++ (R ++ cs.drop (a + R.length)) := by
  have e : over cs a R = cs.take b ++ (((cs.take a).drop b) ++ R ++ cs.drop (a + R.length)) := by
    have : cs.take a = cs.take b ++ (cs.take a).drop b := by
      have := (List.take_append_drop b (cs.take a)).symm
      rwa [List.take_take, Nat.min_eq_left (by omega)] at this
    simp only [over, List.append_assoc]
    rw [← List.append_assoc (cs.take b), ← this]
  rw [e, over_at (by rw [List.length_take]; omega), List.append_assoc ((cs.take a).drop b), List.drop_append, List.drop_of_length_le (by rw [List.length_drop, List.length_take]; omega), List.nil_append, show ys.length - ((cs.take a).drop b).length = 0 by rw [List.length_drop, List.length_take]; omega, List.drop_zero]
theorem ov_name : (Try.f42.name == "runtime.NumGoroutine") = false := by kernel_rfl
theorem ov_body : Try.f42.body.isNone = true := by kernel_rfl
theorem ov_next : Extern.findNext Try.f42 = none := by kernel_rfl
theorem ov_find : Extern.find Try.f42 = some (Extern.SlicesOverlaps.overlaps #[28, 28] #[4]) := by kernel_rfl
theorem ov_step {o : Oper} {T : Fr} {H : AHeap} {x y : Operand} {ats : Array TypeId} {l1 l2 off1 off2 n1 n2 k : Nat} {c1 c2 : TypeId} {cs1 cs2 : List AV} (ho : o.op = .call { callee := .value (.func 42), args := #[x, y], argTypes := ats })
    (hx : SubV (aev T x) (.sl l1 off1 n1 k)) (hy : SubV (aev T y) (.sl l2 off2 n2 k)) (h1 : H.get l1 = some (.cells c1 cs1)) (h2 : H.get l2 = some (.cells c2 cs2)) (hne : l1 ≠ l2) (hpos : 0 < cs2.length) (ho1 : off1 = 0) : AStepD Try.prog o T H (.v (.bool false)) H :=
  AStepD.overlaps (t := 28) (tr := 4) (e := 34) (fn := Try.f42) tok ho Try.func42 ov_name ov_body ov_next ov_find rfl rfl rfl hx hy h1 h2 hne hpos ho1
theorem zeros_len (n : Nat) : (zerosA (tt 34).zero n).length = n * 5 := by
  rw [zerosA, List.length_map, List.length_range]; rfl
theorem flat_mid (ms : List Mem) (m : Mem) (k : Nat) : flat (ms.take k) ++ m.cells ++ flat (ms.drop k) = flat (ms.take k ++ m :: ms.drop k) := by
  rw [flat_append, flat_cons, List.append_assoc]

set_option maxRecDepth 100000 in
theorem insert_calls (H : AHeap) (L V k : Nat) (x : AV) (ms : List Mem) (m : Mem) (hx : MemsAt H L x ms) (hV : H.get V = some (.cells 34 m.cells)) (hVL : ms = [] ∨ V ≠ L) (hk : k ≤ ms.length) (hb : ms.length ≤ 1000) :
    ACalls Try.prog 31 [x, .v (.int .i64 k), .sl V 0 1 5] H (fun r H' => ∃ L', MemsAt H' L' r (ms.take k ++ m :: ms.drop k) ∧ H.next ≤ H'.next ∧ (∀ q, q < H.next → q ≠ L → H'.get q = H.get q) ∧ (L' = L ∨ H.next ≤ L') ∧ L' < H'.next) := by
  refine ACalls.lts fun hlt => ?_
  have hfl := flat_length ms
  have hm1 := m.one
  have hVl := hlt _ _ hV
  have hmc : m.cells.length = 5 := rfl
  cases hx with
  | nil =>
    have hk0 : k = 0 := by simpa using hk
    subst hk0
    refine ACalls.of_body tok Try.func31 rfl Try.ntmps31 (Nat.le_of_ble_eq_true rfl) ?_
    refine AW.seq_region (fun K hK => ?_)
    refine AL.step rfl rfl rfl qRA18 ?_
    refine AL.nil_then (hK _ _ ?_); clear hK K
    refine AW.seq_region (fun K hK => ?_)
    refine AL.step rfl rfl rfl qRA19 ?_
    refine AL.step rfl rfl rfl qRA19 ?_
    refine AL.step rfl rfl rfl (by exact AStepD.slice_nil tok rfl rfl rfl rfl rfl rfl rfl) ?_
    refine AL.nil_then (hK _ _ ?_); clear hK K
    refine AW.seq_region (fun K hK => ?_)
    refine AL.step rfl rfl rfl qRA19 ?_
    refine AL.step rfl rfl rfl qRC9 ?_
    refine AL.step rfl rfl rfl qRA18 ?_
    refine AL.nil_then (hK _ _ ?_); clear hK K
    refine AW.seq_k (fun K hK => ?_)
    refine AW.seq_region (fun K hK => ?_)
    refine AL.step rfl rfl rfl qRA19 ?_
    refine AL.step rfl rfl rfl qRA16 ?_
    refine AL.nil_then (hK _ _ ?_); clear hK K
    refine AW.cond_false rfl rfl (AW.skip (hK _ _ ?_)); clear hK K
    refine AW.seq_region (fun K hK => ?_)
    refine AL.step rfl rfl rfl qRA19 ?_
    refine AL.step rfl rfl rfl qRC9 ?_
    refine AL.step rfl rfl rfl qRA18 ?_
    refine AL.nil_then (hK _ _ ?_); clear hK K
    refine AW.seq_k (fun K hK => ?_)
    refine AW.seq_region (fun K hK => ?_)
    refine AL.step rfl rfl rfl qRA19 ?_
    refine AL.step rfl rfl rfl qRA19 ?_
    refine AL.step rfl rfl rfl qRA16 ?_
    refine AL.nil_then (hK _ _ ?_); clear hK K
    refine AW.cond_true rfl rfl ?_
    refine AW.seq_region (fun K hK => ?_)
    refine AL.step rfl rfl rfl qRA19 ?_
    refine AL.step rfl rfl rfl qRA19 ?_
    refine AL.step rfl rfl rfl (by first | exact AStepD.append' (bk := 4096) tok rfl rfl rfl rfl rfl rfl rfl rfl (show _ = 5 from rfl) rfl qRA6 rfl qRA11 qRA23 qRA11 qRA4 qRA11 qRA11 qRA14 qRC2 | exact AStepD.append_nil' (bk := 4096) tok rfl rfl rfl rfl rfl rfl rfl rfl (show _ = 5 from rfl) rfl qRA23 qRA11 qRA11 qRA11 qRA11) ?_
    refine AL.step rfl rfl rfl qRA18 ?_
    refine AL.nil_then (hK _ _ ?_); clear hK K
    refine AW.ret (RetQ.mk (.inr rfl) (retA_tmp rfl qRA1 retA_nil) (Exists.intro ?aL ⟨MemsAt.mk (cs := ?acs) ?aa ?ab ?ac, ?ad, ?ae, ?af, ?ag⟩))
    case aa => exact qRA6
    case ab => simp [flat]
    case ac => rfl
    case ad => exact qRC3
    case ae => intro q h1 h2; exact qRC4
    case af => exact .inr qRC3
    case ag => exact qRC3
  | sl hH =>
    have hLl := hlt _ _ hH
    refine ACalls.of_body tok Try.func31 rfl Try.ntmps31 (Nat.le_of_ble_eq_true rfl) ?_
    refine AW.seq_region (fun K hK => ?_)
    refine AL.step rfl rfl rfl qRA18 ?_
    refine AL.nil_then (hK _ _ ?_); clear hK K
    refine AW.seq_region (fun K hK => ?_)
    refine AL.step rfl rfl rfl qRA19 ?_
    refine AL.step rfl rfl rfl qRA19 ?_
    refine AL.step rfl rfl rfl (by exact AStepD.weak (AStepD.slice_sl (l := k) (h := ms.length) tok rfl rfl rfl rfl rfl (show _ = 5 from rfl) rfl rfl hk (Nat.le_refl _)) (SubV.any _)) ?_
    refine AL.nil_then (hK _ _ ?_); clear hK K
    refine AW.seq_region (fun K hK => ?_)
    refine AL.step rfl rfl rfl qRA19 ?_
    refine AL.step rfl rfl rfl qRC9 ?_
    refine AL.step rfl rfl rfl qRA18 ?_
    refine AL.nil_then (hK _ _ ?_); clear hK K
    refine AW.seq_k (fun K hK => ?_)
    refine AW.seq_region (fun K hK => ?_)
    refine AL.step rfl rfl rfl qRA19 ?_
    refine AL.step rfl rfl rfl qRA16 ?_
    refine AL.nil_then (hK _ _ ?_); clear hK K
    refine AW.cond_false rfl rfl (AW.skip (hK _ _ ?_)); clear hK K
    refine AW.seq_region (fun K hK => ?_)
    refine AL.step rfl rfl rfl qRA19 ?_
    refine AL.step rfl rfl rfl qRC9 ?_
    refine AL.step rfl rfl rfl qRA18 ?_
    refine AL.nil_then (hK _ _ ?_); clear hK K
    refine AW.seq_k (fun K hK => ?_)
    refine AW.seq_region (fun K hK => ?_)
    refine AL.step rfl rfl rfl qRA19 ?_
    refine AL.step rfl rfl rfl qRA19 ?_
    refine AL.step rfl rfl rfl qRA16 ?_
    refine AL.nil_then (hK _ _ ?_); clear hK K
    refine AW.cond _ rfl (fun hc => ?_) (fun hc => ?_)
    · have hkn : k = ms.length := by have := of_decide_eq_true hc; omega
      refine AW.seq_region (fun K hK => ?_)
      refine AL.step rfl rfl rfl qRA19 ?_
      refine AL.step rfl rfl rfl qRA19 ?_
      refine AL.step rfl rfl rfl (by first | exact AStepD.append' (bk := 4096) tok rfl rfl rfl rfl rfl rfl rfl rfl (show _ = 5 from rfl) rfl qRA6 rfl qRA11 qRA23 qRA11 qRA4 qRA11 qRA11 qRA14 qRC2 | exact AStepD.append_nil' (bk := 4096) tok rfl rfl rfl rfl rfl rfl rfl rfl (show _ = 5 from rfl) rfl qRA23 qRA11 qRA11 qRA11 qRA11) ?_
      refine AL.step rfl rfl rfl qRA18 ?_
      refine AL.nil_then (hK _ _ ?_); clear hK K
      refine AW.ret (RetQ.mk (.inr rfl) (retA_tmp rfl qRA1 retA_nil) (Exists.intro ?bL ⟨MemsAt.mk (cs := ?bcs) ?ba ?bb ?bc, ?bd, ?be, ?bf, ?bg⟩))
      case ba => exact qRA6
      case bb => rw [hkn, List.take_length, List.drop_length, flat_append, flat_one]; rfl
      case bc => rw [hkn]; simp
      case bd => exact qRC3
      case be => intro q h1 h2; exact qRC4
      case bf => exact .inr qRC3
      case bg => exact qRC3
    · refine AW.skip (hK _ _ ?_); clear hK K
      have hkn : k < ms.length := by have := of_decide_eq_false hc; omega
      have hVL' : V ≠ L := hVL.resolve_left (by rintro rfl; simp at hkn)
      refine AW.sub (T' := [(0, .sl L 0 ms.length 5), (1, .v (.int .i64 k)), (2, .sl V 0 1 5), (7, .v (.int .i64 1)), (8, .v (.int .i64 ms.length))]) qRA21 ?_
      refine AW.cap (s := 0) rfl hH hfl fun q hq1 hq2 => ?_
      have hq2 : q ≤ 9223372036854775807 := hq2
      have hcl : (flat ms ++ List.replicate ((q - ms.length) * 5) AV.any).length = q * 5 := by rw [List.length_append, hfl, List.length_replicate]; omega
      generalize hcs : flat ms ++ List.replicate ((q - ms.length) * 5) AV.any = cs
      rw [hcs] at hcl
      refine AW.seq_k (fun K hK => ?_)
      refine AW.seq_region (fun K hK => ?_)
      refine AL.step rfl rfl rfl qRA19 ?_
      refine AL.step rfl rfl rfl qRA19 ?_
      refine AL.step rfl rfl rfl qRA22 ?_
      refine AL.step rfl rfl rfl qRA19 ?_
      refine AL.step rfl rfl rfl (by exact AStepD.cap_slx tok rfl rfl rfl rfl) ?_
      refine AL.step rfl rfl rfl (by exact AStepD.gtr rfl rfl rfl) ?_
      refine AL.nil_then (hK _ _ ?_); clear hK K
      refine AW.cond _ rfl (fun hg => ?_) (fun hg => ?_)
      · have hg : q < ms.length + 1 := by have := of_decide_eq_true hg; omega
        refine AW.seq_region (fun K hK => ?_)
        refine AL.step rfl rfl rfl qRA19 ?_
        refine AL.step rfl rfl rfl qRA19 ?_
        refine AL.step rfl rfl rfl (by exact AStepD.slice_slx (l := 0) (h := k) tok rfl rfl rfl rfl rfl (show _ = 5 from rfl) rfl rfl (by omega) (by omega) (.inr rfl) (Nat.sub_zero _) rfl rfl) ?_
        refine AL.step rfl rfl rfl qRA19 ?_
        refine AL.step rfl rfl rfl qRA19 ?_
        refine AL.step rfl rfl rfl qRA22 ?_
        refine AL.step rfl rfl rfl qRA19 ?_
        refine AL.step rfl rfl rfl (by exact AStepD.sub rfl rfl rfl qRA10) ?_
        refine AL.step rfl rfl rfl (by exact AStepD.append_zeros (n := ms.length + 1 - k) tok rfl rfl rfl (by omega) rfl rfl rfl rfl rfl (show _ = 5 from rfl) (by decide) qRA6 (by omega) (by omega) (by omega) (show _ * 40 ≤ _ by omega) (by omega) rfl) ?_
        refine AL.step rfl rfl rfl qRA18 ?_
        refine AL.nil_then (hK _ _ ?_); clear hK K
        have hzl := zeros_len (ms.length + 1 - k)
        have htk : cs.take (k * 5) = flat (ms.take k) := by
          rw [← hcs, List.take_append_of_le_length (by omega), flat_take]
        have hdk : (cs.drop (k * 5)).take ((ms.length - k) * 5) = flat (ms.drop k) := by
          rw [← hcs, List.drop_append_of_le_length (by omega), List.take_append_of_le_length qRC5, List.take_of_length_le qRC5, flat_drop]
        rw [htk]
        have hl1 : (flat (ms.take k)).length = k * 5 := by rw [flat_length, List.length_take]; congr 1; omega
        have hl2 : (flat (ms.drop k)).length = (ms.length - k) * 5 := by rw [flat_length, List.length_drop]
        have hdo := flat_ones (ms.drop k)
        have hz1 : (flat (ms.take k) ++ zerosA (tt 34).zero (ms.length + 1 - k)).length = (ms.length + 1) * 5 := by rw [List.length_append, hl1, hzl]; omega
        generalize hZ : zerosA (tt 34).zero (ms.length + 1 - k) = Z at hzl hz1 ⊢
        refine AW.seq_region (fun K hK => ?_)
        refine AL.step rfl rfl rfl qRA19 ?_
        refine AL.step rfl rfl rfl qRA19 ?_
        refine AL.step rfl rfl rfl (by exact AStepD.slice_sl_in (l := k) (h := k + (ms.length + 1 - k)) tok rfl rfl rfl rfl rfl (show _ = 5 from rfl) rfl rfl (by omega) (by omega) (by omega) rfl (Nat.zero_add _)) ?_
        refine AL.step rfl rfl rfl qRA19 ?_
        refine AL.step rfl rfl rfl (by exact AStepD.copy (m := 1) (n := 1) (ys := m.cells) tok rfl (SubV.refl _) (SubV.refl _) rfl rfl rfl (show _ = 5 from rfl) (.all (Src.all qRA6 (by omega))) (by omega) rfl hm1 qRA6 (by omega) (over_at hl1)) ?_
        refine AL.nil_then (hK _ _ ?_); clear hK K
        have hlm : (flat (ms.take k) ++ m.cells).length = (k + 1) * 5 := by rw [List.length_append, hl1, hmc]; omega
        have hzd : (List.drop m.cells.length Z).length = (ms.length - k) * 5 := by rw [List.length_drop, hzl, hmc]; omega
        have hfin : over (flat (ms.take k) ++ m.cells ++ List.drop m.cells.length Z) ((k + 1) * 5) (flat (ms.drop k)) = flat (ms.take k ++ m :: ms.drop k) := by
          rw [over_at hlm, show (List.drop m.cells.length Z).drop (flat (ms.drop k)).length = [] from List.drop_of_length_le (by omega), List.append_nil, flat_mid]
        have hal : (flat (ms.take k) ++ m.cells ++ List.drop m.cells.length Z).length = (ms.length + 1) * 5 := by rw [List.length_append, hlm, hzd]; omega
        refine AW.seq_k (fun K hK => ?_)
        apply AW.draw mixed [_, _, _, _, _, _, _, _, _] [8] [_, _] [(0, 0), (1, 0), (2, 0), (3, 0), (4, 0), (5, 0), (6, 0), (7, 0), (8, 0)] rfl rfl rfl qRC6
        · refine ⟨?_, ?_, ?_, ?_, ?_, ?_, ?_, ?_, ?_⟩
          · refine Ob.mk _ [9] 0 rfl rfl (restr_cons qRA1 restr_nil) rfl ?_
            simp only [List.getD_cons_zero, List.getD_cons_succ]
            exact GStep.plain rfl qRA19
          · refine Ob.mk _ [1] 0 rfl rfl (restr_cons qRA1 restr_nil) rfl ?_
            simp only [List.getD_cons_zero, List.getD_cons_succ]
            exact GStep.plain rfl qRA19
          · refine Ob.mk _ [7] 0 rfl rfl (restr_cons qRA1 restr_nil) rfl ?_
            simp only [List.getD_cons_zero, List.getD_cons_succ]
            exact GStep.plain rfl qRA19
          · refine Ob.mk _ [47, 48] 0 rfl rfl (restr_cons qRA1 (restr_cons qRA1 restr_nil)) rfl ?_
            simp only [List.getD_cons_zero, List.getD_cons_succ]
            exact GStep.plain rfl qRA22
          · refine Ob.mk _ [46, 49] 0 rfl rfl (restr_cons qRA1 (restr_cons qRA1 restr_nil)) rfl ?_
            simp only [List.getD_cons_zero, List.getD_cons_succ]
            exact GStep.plain rfl (by exact AStepD.slice_sl_in (l := k + 1) (h := k + (ms.length + 1 - k)) tok rfl rfl rfl rfl rfl (show _ = 5 from rfl) rfl rfl (by omega) (by omega) (by omega) rfl (Nat.zero_add _))
          · refine Ob.mk _ [0] 0 rfl rfl (restr_cons qRA1 restr_nil) rfl ?_
            simp only [List.getD_cons_zero, List.getD_cons_succ]
            exact GStep.plain rfl qRA19
          · refine Ob.mk _ [1] 0 rfl rfl (restr_cons qRA1 restr_nil) rfl ?_
            simp only [List.getD_cons_zero, List.getD_cons_succ]
            exact GStep.plain rfl qRA19
          · refine Ob.mk _ [51, 52] 0 rfl rfl (restr_cons qRA1 (restr_cons qRA1 restr_nil)) rfl ?_
            simp only [List.getD_cons_zero, List.getD_cons_succ]
            exact GStep.plain rfl (by exact AStepD.slice_slx (l := k) (h := ms.length) tok rfl rfl rfl rfl rfl (show _ = 5 from rfl) rfl rfl (by omega) (by omega) (by omega) rfl (Nat.zero_add _) rfl)
          · refine Ob.mk _ [50, 53] 1 rfl rfl (restr_cons qRA1 (restr_cons qRA1 restr_nil)) rfl ?_
            simp only [List.getD_cons_zero, List.getD_cons_succ]
            exact GStep.plain rfl (by exact AStepD.copy (m := ms.length - k) (n := ms.length - k) tok rfl (SubV.refl _) SubV.slx_sl rfl rfl rfl (show _ = 5 from rfl) (.all (src_sl' qRA6 (by omega) hdk)) (by omega) hl2 hdo qRA6 (by omega) hfin)
        refine hK _ _ ?_; clear hK K
        refine AW.frame qRC7 qRC8 ?_
        refine AW.seq_region (fun K hK => ?_)
        refine AL.step rfl rfl rfl qRA19 ?_
        refine AL.step rfl rfl rfl qRA18 ?_
        refine AL.nil_then (hK _ _ ?_); clear hK K
        refine AW.ret (RetQ.mk (.inr rfl) (retA_tmp rfl qRA1 retA_nil) (Exists.intro ?cL ⟨MemsAt.mk (cs := ?ccs) ?ca ?cb ?cc, ?cd, ?ce, ?cf, ?cg⟩))
        case ca => exact qRA6
        case cb => rfl
        case cc => simp; omega
        case cd => exact qRC3
        case ce => intro q h1 h2; exact qRC4
        case cf => exact .inr qRC3
        case cg => exact qRC3
      · refine AW.skip (hK _ _ ?_); clear hK K
        have hg : ms.length + 1 ≤ q := by have := of_decide_eq_false hg; omega
        refine AW.seq_region (fun K hK => ?_)
        refine AL.step rfl rfl rfl qRA19 ?_
        refine AL.step rfl rfl rfl qRA19 ?_
        refine AL.step rfl rfl rfl qRA19 ?_
        refine AL.step rfl rfl rfl qRA22 ?_
        refine AL.step rfl rfl rfl (by exact AStepD.slice_slx (l := 0) (h := ms.length + 1) tok rfl rfl rfl rfl rfl (show _ = 5 from rfl) rfl rfl (by omega) (by omega) (.inr rfl) (Nat.sub_zero _) (show 0 + 0 * 5 = 0 from rfl) (Nat.sub_zero _)) ?_
        refine AL.step rfl rfl rfl qRA18 ?_
        refine AL.nil_then (hK _ _ ?_); clear hK K
        refine AW.seq_k (fun K hK => ?_)
        refine AW.seq_region (fun K hK => ?_)
        refine AL.step rfl rfl rfl qRA19 ?_
        refine AL.step rfl rfl rfl qRA19 ?_
        refine AL.step rfl rfl rfl qRA19 ?_
        refine AL.step rfl rfl rfl qRA19 ?_
        refine AL.step rfl rfl rfl qRA22 ?_
        refine AL.step rfl rfl rfl (by exact AStepD.slice_slx (l := k + 1) (h := ms.length + 1) tok rfl rfl rfl rfl rfl (show _ = 5 from rfl) rfl rfl (by omega) (by omega) (by omega) rfl (Nat.zero_add _) rfl) ?_
        refine AL.step rfl rfl rfl (by exact ov_step rfl (SubV.refl _) SubV.slx_sl qRA6 qRA6 hVL' (by omega) rfl) ?_
        refine AL.step rfl rfl rfl qRB9 ?_
        refine AL.nil_then (hK _ _ ?_); clear hK K
        refine AW.cond_true rfl rfl ?_
        have htk : cs.take (k * 5) = flat (ms.take k) := by
          rw [← hcs, List.take_append_of_le_length (by omega), flat_take]
        have hdk : (cs.drop (k * 5)).take ((ms.length - k) * 5) = flat (ms.drop k) := by
          rw [← hcs, List.drop_append_of_le_length (by omega), List.take_append_of_le_length qRC5, List.take_of_length_le qRC5, flat_drop]
        have hl2 : (flat (ms.drop k)).length = (ms.length - k) * 5 := by rw [flat_length, List.length_drop]
        have hdo := flat_ones (ms.drop k)
        have hfin : over (over cs ((k + 1) * 5) (flat (ms.drop k))) (k * 5) m.cells = flat (ms.take k ++ m :: ms.drop k) ++ cs.drop ((k + 1) * 5 + (flat (ms.drop k)).length) := by
          rw [over_over (by rw [hmc]; omega) (by omega), htk, ← flat_mid]
          simp [List.append_assoc]
        have hol : (over cs ((k + 1) * 5) (flat (ms.drop k))).length = q * 5 := by rw [over_length (by omega), hcl]
        refine AW.seq_k (fun K hK => ?_)
        apply AW.draw mixed [_, _, _, _, _, _, _, _, _] [8] [_, _] [(0, 0), (1, 0), (2, 0), (3, 0), (4, 0), (5, 0), (6, 0), (7, 0), (8, 0)] rfl rfl rfl qRC6
        · refine ⟨?_, ?_, ?_, ?_, ?_, ?_, ?_, ?_, ?_⟩
          · refine Ob.mk _ [0] 0 rfl rfl (restr_cons qRA1 restr_nil) rfl ?_
            simp only [List.getD_cons_zero, List.getD_cons_succ]
            exact GStep.plain rfl qRA19
          · refine Ob.mk _ [1] 0 rfl rfl (restr_cons qRA1 restr_nil) rfl ?_
            simp only [List.getD_cons_zero, List.getD_cons_succ]
            exact GStep.plain rfl qRA19
          · refine Ob.mk _ [7] 0 rfl rfl (restr_cons qRA1 restr_nil) rfl ?_
            simp only [List.getD_cons_zero, List.getD_cons_succ]
            exact GStep.plain rfl qRA19
          · refine Ob.mk _ [70, 71] 0 rfl rfl (restr_cons qRA1 (restr_cons qRA1 restr_nil)) rfl ?_
            simp only [List.getD_cons_zero, List.getD_cons_succ]
            exact GStep.plain rfl qRA22
          · refine Ob.mk _ [69, 72] 0 rfl rfl (restr_cons qRA1 (restr_cons qRA1 restr_nil)) rfl ?_
            simp only [List.getD_cons_zero, List.getD_cons_succ]
            exact GStep.plain rfl (by exact AStepD.slice_slx (l := k + 1) (h := ms.length + 1) tok rfl rfl rfl rfl rfl (show _ = 5 from rfl) rfl rfl (by omega) (by omega) (by omega) rfl (Nat.zero_add _) rfl)
          · refine Ob.mk _ [0] 0 rfl rfl (restr_cons qRA1 restr_nil) rfl ?_
            simp only [List.getD_cons_zero, List.getD_cons_succ]
            exact GStep.plain rfl qRA19
          · refine Ob.mk _ [1] 0 rfl rfl (restr_cons qRA1 restr_nil) rfl ?_
            simp only [List.getD_cons_zero, List.getD_cons_succ]
            exact GStep.plain rfl qRA19
          · refine Ob.mk _ [74, 75] 0 rfl rfl (restr_cons qRA1 (restr_cons qRA1 restr_nil)) rfl ?_
            simp only [List.getD_cons_zero, List.getD_cons_succ]
            exact GStep.plain rfl (by exact AStepD.slice_slx (l := k) (h := ms.length + 1) tok rfl rfl rfl rfl rfl (show _ = 5 from rfl) rfl rfl (by omega) (by omega) (by omega) rfl (Nat.zero_add _) rfl)
          · refine Ob.mk _ [73, 76] 1 rfl rfl (restr_cons qRA1 (restr_cons qRA1 restr_nil)) rfl ?_
            simp only [List.getD_cons_zero, List.getD_cons_succ]
            exact GStep.plain rfl (by exact AStepD.copy (m := ms.length - k) (n := ms.length + 1 - k) tok rfl SubV.slx_sl SubV.slx_sl rfl rfl rfl (show _ = 5 from rfl) (srcN_sl' qRA6 (by omega) (by omega) hdk) (by omega) hl2 hdo qRA6 (by omega) rfl)
        refine hK _ _ ?_; clear hK K
        refine AW.frame qRC7 qRC8 ?_
        refine AW.seq_region (fun K hK => ?_)
        refine AL.step rfl rfl rfl qRA19 ?_
        refine AL.step rfl rfl rfl qRA19 ?_
        refine AL.step rfl rfl rfl (by exact AStepD.slice_slx (l := k) (h := ms.length + 1) tok rfl rfl rfl rfl rfl (show _ = 5 from rfl) rfl rfl (by omega) (by omega) (by omega) rfl (Nat.zero_add _) rfl) ?_
        refine AL.step rfl rfl rfl qRA19 ?_
        refine AL.step rfl rfl rfl (by exact AStepD.copy (m := 1) (n := 1) (ys := m.cells) tok rfl SubV.slx_sl (SubV.refl _) rfl rfl rfl (show _ = 5 from rfl) (.all (Src.all qRA6 (by omega))) (by omega) rfl hm1 qRA6 (by omega) hfin) ?_
        refine AL.nil_then (hK _ _ ?_); clear hK K
        refine AW.seq_region (fun K hK => ?_)
        refine AL.step rfl rfl rfl qRA19 ?_
        refine AL.step rfl rfl rfl qRA18 ?_
        refine AL.nil_then (hK _ _ ?_); clear hK K
        refine AW.sub (T' := [(6, .sl L 0 (ms.length + 1) 5)]) (SubT.cons SubV.slx_sl (SubT.nil _)) ?_
        refine AW.shrink (l := L) (t := 34) (a := flat (ms.take k ++ m :: ms.drop k)) (b := cs.drop ((k + 1) * 5 + (flat (ms.drop k)).length)) qRA6 ?_
        refine AW.ret (RetQ.mk (.inr rfl) (retA_tmp rfl qRA1 retA_nil) (Exists.intro ?dL ⟨MemsAt.mk (cs := ?dcs) ?da ?db ?dc, ?dd, ?de, ?df, ?dg⟩))
        case da => exact qRA6
        case db => rfl
        case dc => simp; omega
        case dd => exact qRC3
        case de => intro q h1 h2; exact qRC4
        case df => exact .inl rfl
        case dg => exact qRC3
end Go.Proofs.Ytjiifddmcmbbnaa
