/- The walk of whom to speak of next. -/
import Derived.Test.YtjiifddmcmbbnaaRD
namespace Go.Proofs.Ytjiifddmcmbbnaa
open Go.Ax
theorem qRE1 {p : Prop} (h : p := by first | exact one_cells (by with_reducible assumption) | exact qRA1) : p := h
theorem qRE2 {p : Prop} (h : p := by first | exact AStepD.buildSlice0 tok rfl rfl rfl rfl (show _ = 1 from rfl) | exact AStepD.buildSlice1 tok rfl rfl rfl rfl (show _ = 1 from rfl) qRA1 qRA1 qRA11 (by decide) qRA4 | exact AStepD.buildSlice_seq tok rfl rfl rfl rfl (show _ = 1 from rfl) (map_p qRA1 map_n) rfl (by decide) (by decide) rfl qRD5 qRA4 | exact AStepD.buildSlice tok rfl rfl rfl rfl qRA1 (by decide) (by decide) rfl qRA4) : p := h
theorem qRE3 {p : Prop} (h : p := by first | exact Nat.zero_add 3 | exact (show _ + 3 = _ from qRB4) | exact (show _ + 3 = _ + 3 from rfl) | exact rfl) : p := h
theorem qRE4 {p : Prop} (h : p := by first | exact AStepD.indexAddr_vec' tok rfl rfl rfl rfl rfl rfl (show _ = 1 from rfl) qRA13 qRA11 | exact AStepD.indexAddr_sl' tok rfl rfl rfl rfl rfl rfl (show _ = 1 from rfl) qRA13 qRA11 qRA14 | exact AStepD.indexAddr_arr' tok rfl rfl rfl rfl rfl rfl (show _ = 1 from rfl) qRA13 qRA11 qRA14) : p := h
theorem qRE5 {p : Prop} (h : p := by exact AStepD.store' tok rfl rfl qRA6 qRA1 qRE1 qRA4 rfl qRA1 rfl qRA12 qRD7) : p := h
theorem qRE6 {p : Prop} (h : p := by first | exact AStepD.fieldAddr' tok rfl rfl rfl rfl rfl rfl rfl qRE3 | exact AStepD.fieldAddr_ip' tok rfl rfl rfl rfl rfl rfl rfl (show List.drop 3 _ = _ from rfl)) : p := h
set_option linter.unusedSimpArgs false
set_option linter.unusedVariables false

def intsA (l : List Int) : List AV := l.map fun n => .v (.int .i64 n)
theorem intsA_length (l : List Int) : (intsA l).length = l.length := by simp [intsA]
theorem intsA_ones (l : List Int) : ∀ z ∈ intsA l, z.one = true := by simp [intsA, AV.one, Value.oneCell']
theorem intsA_at (l : List Int) (i : Nat) (h : i < l.length) : (intsA l)[i]? = some (.v (.int .i64 l[i])) := by simp [intsA, h]
/-- Integers of one's own, made since H0. -/
inductive Ints (H0 H : AHeap) : AV → List Int → Prop
  | nil : Ints H0 H (.v (.slice none 0 0)) []
  | sl {D : Nat} {l : List Int} (hD : H0.next ≤ D) (h : H.get D = some (.cells 3 (intsA l))) : Ints H0 H (.sl D 0 l.length 1) l
theorem Ints.mk {H0 H : AHeap} {D k : Nat} {cs : List AV} {l : List Int} (hD : H0.next ≤ D) (h : H.get D = some (.cells 3 cs)) (hc : cs = intsA l) (hk : k = l.length) : Ints H0 H (.sl D 0 k 1) l := by
  subst hc; subst hk
  exact .sl hD h
theorem Ints.isSl {H0 H : AHeap} {x : AV} {l : List Int} (h : Ints H0 H x l) : IsSl x l.length := by
  cases h with
  | nil => exact .nil
  | sl => exact .sl
theorem Ints.keep {H0 H H' : AHeap} {x : AV} {l : List Int} (h : Ints H0 H x l) (hlt : ∀ k q, H.get k = some q → k < H.next) (hk : ∀ k, k < H.next → H0.next ≤ k → (∃ cs, H.get k = some (.cells 3 cs)) → H'.get k = H.get k) : Ints H0 H' x l := by
  cases h with
  | nil => exact .nil
  | sl hD h => exact .sl hD ((hk _ (hlt _ _ h) hD ⟨_, h⟩).trans h)
theorem Ints.at {H0 H : AHeap} {x : AV} {l : List Int} (h : Ints H0 H x l) {i : Nat} (hi : i < l.length) : ∃ D, x = .sl D 0 l.length 1 ∧ H0.next ≤ D ∧ H.get D = some (.cells 3 (intsA l)) := by
  cases h with
  | nil => simp at hi
  | sl hD h => exact ⟨_, rfl, hD, h⟩

/-- All members but one. -/
def allBut (ms : List Mem) (w : Int) : List Int := (ms.filter fun m => decide (m.i ≠ w)).map (·.i)
theorem allBut_snoc (ms : List Mem) (m : Mem) (w : Int) : allBut (ms ++ [m]) w = if m.i ≠ w then allBut ms w ++ [m.i] else allBut ms w := by
  simp only [allBut, List.filter_append, List.map_append]
  split
  · rename_i h; simp [h]
  · rename_i h; simp at h; simp [h]
theorem allBut_le (ms : List Mem) (w : Int) : (allBut ms w).length ≤ ms.length := by
  simp only [allBut, List.length_map]; exact List.length_filter_le _ _
/-- Those that come next. -/
def turn (all : List Int) (cur j : Nat) : List Int := (List.range j).map fun q => all.getD ((cur + q) % all.length) 0
theorem turn_length (all : List Int) (cur j : Nat) : (turn all cur j).length = j := by simp [turn]
theorem turn_snoc (all : List Int) (cur j : Nat) : turn all cur (j + 1) = turn all cur j ++ [all.getD ((cur + j) % all.length) 0] := by simp [turn, List.range_succ]
def many (k : Int) (n : Nat) : Nat := (if (n : Int) < k then (n : Int) else k).toNat
theorem many_le (k : Int) (n : Nat) : many k n ≤ n := by
  unfold many
  split <;> omega

theorem MemsAt.mono {H H' : AHeap} {L : Nat} {x : AV} {ms : List Mem} (h : MemsAt H L x ms) (hk : ∀ o, H.get L = some o → (∃ cs, o = .cells 34 cs) → H'.get L = some o) : MemsAt H' L x ms := by
  cases h with
  | nil => exact .nil
  | sl h => exact .sl (hk _ h ⟨_, rfl⟩)
theorem next_calls (H : AHeap) (n L B : Nat) (r : Ros) (k w : Int) (hR : RosAt H n L B r) (hl : r.ms.length ≤ 1000) (hcur : r.cur ≤ 1000000000000) :
    ACalls Try.prog 14 [.ptr n 0, .v (.int .i64 k), .v (.int .i64 w)] H (fun v H' => v = .vec (many k (allBut r.ms w).length) (intsA (turn (allBut r.ms w) r.cur (many k (allBut r.ms w).length))) ∧ RosAt H' n L B { r with cur := r.cur + many k (allBut r.ms w).length } ∧ Only H H' n L B L) := by
  obtain ⟨x0, hn, hM, hB⟩ := hR
  have hx1 := hM.one
  have hsl := hM.isSl
  have hfl := flat_length r.ms
  refine ACalls.lts fun hlt => ?_
  have hnl := hlt _ _ hn
  refine ACalls.of_body tok Try.func14 rfl Try.ntmps14 (Nat.le_of_ble_eq_true rfl) ?_
  refine AW.seq_region (fun K hK => ?_)
  refine AL.step rfl rfl rfl qRA18 ?_
  refine AL.nil_then (hK _ _ ?_); clear hK K
  refine AW.seq_region (fun K hK => ?_)
  refine AL.step rfl rfl rfl qRA18 ?_
  refine AL.nil_then (hK _ _ ?_); clear hK K
  refine AW.seq_k (fun K hK => ?_)
  refine AW.seq_region (fun K hK => ?_)
  refine AL.step rfl rfl rfl qRA19 ?_
  refine AL.step rfl rfl rfl qRB3 ?_
  refine AL.step rfl rfl rfl qRD9 ?_
  refine AL.step rfl rfl rfl qRB5 ?_
  refine AL.step rfl rfl rfl qRC9 ?_
  refine AL.step rfl rfl rfl qRA19 ?_
  refine AL.nil_then (hK _ _ ?_); clear hK K
  refine AW.block ?_
  refine AW.loop_at (ι := Nat × AV) (fun y => [(16, .v (.int .i64 y.1)), (15, .v (.int .i64 r.ms.length)), (14, x0), (7, y.2), (0, .ptr n 0), (1, .v (.int .i64 k)), (2, .v (.int .i64 w))])
    (fun y H' => y.1 ≤ r.ms.length ∧ Keep H H' ∧ Ints H H' y.2 (allBut (r.ms.take y.1) w)) (fun y => r.ms.length - y.1) (0, .v (.slice none 0 0)) qRA21 ⟨Nat.zero_le _, Keep.refl _, .nil⟩ ?_
  rintro ⟨i, y⟩ H1 ⟨hi, hk1, hy⟩
  dsimp only at hi hk1 hy ⊢
  refine AW.seq_region (fun K hK => ?_)
  refine AL.step rfl rfl rfl qRA3 ?_
  refine AL.nil_then (hK _ _ ?_); clear hK K
  refine AW.seq_k (fun K1 hK1 => ?_)
  refine AW.cond _ rfl (fun hc => ?_) (fun hc => ?_)
  · refine AW.skip (hK1 _ _ ?_); clear hK1 K1
    have hil : i < r.ms.length := by have := of_decide_eq_true hc; omega
    obtain ⟨rfl, hH⟩ := hM.at hil
    have hLl := hlt _ _ hH
    have hH1 := hk1.get hH hLl
    have hfa := flat_at r.ms i hil
    have hone := (r.ms[i]).one
    have hkn := hk1.1
    refine AW.lts fun hlt1 => ?_
    have hyl := (allBut_le (r.ms.take i) w)
    have hyl2 : (r.ms.take i).length = i := by rw [List.length_take]; omega
    have htn := take_next r.ms i hil
    refine AW.seq_k (fun K1 hK1 => ?_)
    refine AW.block ?_
    refine AW.seq_region (fun K hK => ?_)
    refine AL.step rfl rfl rfl qRA24 ?_
    refine AL.step rfl rfl rfl qRA25 ?_
    refine AL.step rfl rfl rfl (by exact AStepD.alloc tok rfl rfl) ?_
    refine AL.step0 rfl rfl qRE5 ?_
    refine AL.nil_then (hK _ _ ?_); clear hK K
    refine AW.seq_region (fun K hK => ?_)
    refine AL.step rfl rfl rfl qRB18 ?_
    refine AL.step rfl rfl rfl qRB5 ?_
    refine AL.step rfl rfl rfl qRA19 ?_
    refine AL.step rfl rfl rfl qRA2 ?_
    refine AL.nil_then (hK _ _ ?_); clear hK K
    refine AW.cond _ rfl (fun hd => ?_) (fun hd => ?_)
    · have hd := of_decide_eq_true hd
      generalize hq : allBut (r.ms.take i) w = q at hy hyl
      cases hy with
      | nil =>
        refine AW.region ?_
        refine AL.step rfl rfl rfl qRA19 ?_
        refine AL.step rfl rfl rfl qRB18 ?_
        refine AL.step rfl rfl rfl qRB5 ?_
        refine AL.step rfl rfl rfl qRE2 ?_
        refine AL.step rfl rfl rfl (by first | exact AStepD.append' (bk := 64) tok rfl rfl rfl rfl rfl rfl rfl rfl (show _ = 1 from rfl) rfl qRA6 rfl qRA11 qRA23 qRA11 qRA4 qRA11 qRA11 qRA14 qRC2 | exact AStepD.append_nil' (bk := 64) tok rfl rfl rfl rfl rfl rfl rfl rfl (show _ = 1 from rfl) rfl qRA23 qRA11 qRA11 qRA11 qRA11) ?_
        refine AL.step rfl rfl rfl qRA18 ?_
        refine AL.nil ?_
        refine hK1 _ _ ?_; clear hK1 K1
        refine AW.region ?_
        refine AL.step rfl rfl rfl qRA22 ?_
        refine AL.step rfl rfl rfl qRA19 ?_
        refine AL.nil ?_
        refine Exists.intro (i + 1, AV.sl ?xaD 0 1 1) ⟨?xam, ?xas, hil, ?xak, ?xay⟩
        case xas => exact qRA21
        case xam => show r.ms.length - (i + 1) < r.ms.length - i; omega
        case xak => exact ⟨by (simp only [za, zb, zc]; omega), fun l hl => Eq.trans qRC4 (hk1.2 l hl)⟩
        case xay =>
          show Ints H _ (AV.sl _ 0 1 1) (allBut (r.ms.take (i + 1)) w)
          rw [htn, allBut_snoc, if_pos hd, hq]
          refine Ints.mk (cs := ?xac) ?xaa ?xab ?xae ?xaf
          case xab => exact qRA6
          case xaa => (simp only [za, zb, zc]; omega)
          case xae => simp [intsA]
          case xaf => simp
      | sl hD hyH =>
        have hyl' := hlt1 _ _ hyH
        have hio := intsA_ones q
        have hil' := intsA_length q
        refine AW.region ?_
        refine AL.step rfl rfl rfl qRA19 ?_
        refine AL.step rfl rfl rfl qRB18 ?_
        refine AL.step rfl rfl rfl qRB5 ?_
        refine AL.step rfl rfl rfl qRE2 ?_
        refine AL.step rfl rfl rfl (by first | exact AStepD.append' (bk := 64) tok rfl rfl rfl rfl rfl rfl rfl rfl (show _ = 1 from rfl) rfl qRA6 rfl qRA11 qRA23 qRA11 qRA4 qRA11 qRA11 qRA14 qRC2 | exact AStepD.append_nil' (bk := 64) tok rfl rfl rfl rfl rfl rfl rfl rfl (show _ = 1 from rfl) rfl qRA23 qRA11 qRA11 qRA11 qRA11) ?_
        refine AL.step rfl rfl rfl qRA18 ?_
        refine AL.nil ?_
        refine hK1 _ _ ?_; clear hK1 K1
        refine AW.region ?_
        refine AL.step rfl rfl rfl qRA22 ?_
        refine AL.step rfl rfl rfl qRA19 ?_
        refine AL.nil ?_
        refine Exists.intro (i + 1, AV.sl ?xbD 0 (q.length + 1) 1) ⟨?xbm, ?xbs, hil, ?xbk, ?xby⟩
        case xbs => exact qRA21
        case xbm => show r.ms.length - (i + 1) < r.ms.length - i; omega
        case xbk => exact ⟨by (simp only [za, zb, zc]; omega), fun l hl => Eq.trans qRC4 (hk1.2 l hl)⟩
        case xby =>
          show Ints H _ (AV.sl _ 0 (q.length + 1) 1) (allBut (r.ms.take (i + 1)) w)
          rw [htn, allBut_snoc, if_pos hd, hq]
          refine Ints.mk (cs := ?xbc) ?xba ?xbb ?xbe ?xbf
          case xbb => exact qRA6
          case xba => (simp only [za, zb, zc]; omega)
          case xbe => simp [intsA]
          case xbf => simp
    · have hd := of_decide_eq_false hd
      refine AW.skip ?_
      refine hK1 _ _ ?_; clear hK1 K1
      refine AW.region ?_
      refine AL.step rfl rfl rfl qRA22 ?_
      refine AL.step rfl rfl rfl qRA19 ?_
      refine AL.nil ?_
      refine ⟨(i + 1, y), ?_, qRA21, hil, hk1.trans qRA8, ?_⟩
      · show r.ms.length - (i + 1) < r.ms.length - i
        omega
      · show Ints H _ y (allBut (r.ms.take (i + 1)) w)
        rw [htn, allBut_snoc, if_neg hd]
        exact hy.keep hlt1 fun k h _ _ => qRC4
  · refine AW.exit ?_
    refine hK _ _ ?_; clear hK1 K1 hK K
    have hi2 : i = r.ms.length := by have := of_decide_eq_false hc; omega
    rw [hi2, List.take_length] at hy
    have hall := allBut_le r.ms w
    have hmany := many_le k (allBut r.ms w).length
    have hmd : many k (allBut r.ms w).length = (if ((allBut r.ms w).length : Int) < k then ((allBut r.ms w).length : Int) else k).toNat := rfl
    generalize allBut r.ms w = all at hy hall hmany hmd ⊢
    refine AW.lts fun hlt1 => ?_
    have hn1 := hk1.get hn hnl
    have hB1 := hk1.get hB (hlt _ _ hB)
    have hkn := hk1.1
    have hysl := hy.isSl
    refine AW.seq_region (fun K hK => ?_)
    refine AL.step rfl rfl rfl qRA18 ?_
    refine AL.nil_then (hK _ _ ?_); clear hK K
    refine AW.seq_k (fun K hK => ?_)
    refine AW.seq_region (fun K hK => ?_)
    refine AL.step rfl rfl rfl qRA19 ?_
    refine AL.step rfl rfl rfl qRA19 ?_
    refine AL.step rfl rfl rfl qRC9 ?_
    refine AL.step rfl rfl rfl (by exact AStepD.min2 rfl rfl rfl rfl) ?_
    refine AL.step rfl rfl rfl qRA19 ?_
    refine AL.nil_then (hK _ _ ?_); clear hK K
    generalize hmn : (if (all.length : Int) < k then (all.length : Int) else k) = mn at hmd
    refine AW.block ?_
    refine AW.loop_at (ι := Nat × AV) (fun z => [(34, .v (.int .i64 z.1)), (33, .v (.int .i64 mn)), (10, z.2), (7, y), (0, .ptr n 0)])
      (fun z H' => z.1 ≤ many k all.length ∧ Ints H1 H' z.2 (turn all r.cur z.1) ∧ H'.get n = some (.cells 62 [.v (.int .i64 r.self), x0, .map B, .v (.int .i64 (r.cur + z.1 : Nat))]) ∧ H1.next ≤ H'.next ∧ (∀ q, q < H1.next → q ≠ n → H'.get q = H1.get q))
      (fun z => many k all.length - z.1) (0, .v (.slice none 0 0)) (by rw [← hmn]; exact qRA21) ⟨Nat.zero_le _, .nil, hn1, Nat.le_refl _, fun q h _ => rfl⟩ ?_
    rintro ⟨j, z⟩ H2 ⟨hj, hz2, hn2, hkn2, hk2⟩
    dsimp only at hj hz2 hn2 ⊢
    refine AW.seq_region (fun K hK => ?_)
    refine AL.step rfl rfl rfl qRA3 ?_
    refine AL.nil_then (hK _ _ ?_); clear hK K
    refine AW.seq_k (fun K1 hK1 => ?_)
    refine AW.cond _ rfl (fun hc2 => ?_) (fun hc2 => ?_)
    · refine AW.skip (hK1 _ _ ?_); clear hK1 K1
      have hjm : j < many k all.length := by have := of_decide_eq_true hc2; omega
      have hal : 0 < all.length := by omega
      obtain ⟨D, rfl, hDn, hD1⟩ := hy.at hal
      have hDl1 := hlt1 _ _ hD1
      have hDne : D ≠ n := by omega
      have hD := (hk2 D hDl1 hDne).trans hD1
      have hia := intsA_length all
      have hix : (r.cur + j) % all.length < all.length := Nat.mod_lt _ hal
      have hat : (intsA all)[(r.cur + j) % all.length * 1]? = some (.v (.int .i64 all[(r.cur + j) % all.length])) := by rw [Nat.mul_one]; exact intsA_at all _ hix
      have hatg : all.getD ((r.cur + j) % all.length) 0 = all[(r.cur + j) % all.length] := by simp [List.getD_eq_getElem?_getD, hix]
      have hts := turn_snoc all r.cur j
      rw [hatg] at hts
      have htl := turn_length all r.cur j
      refine AW.lts fun hlt2 => ?_
      have hDl := hlt2 _ _ hD
      have hn2l := hlt2 _ _ hn2
      refine AW.seq_k (fun K1 hK1 => ?_)
      refine AW.block ?_
      generalize turn all r.cur j = q at hz2 hts htl
      cases hz2 with
      | nil =>
        refine AW.seq_region (fun K hK => ?_)
        refine AL.step rfl rfl rfl qRA19 ?_
        refine AL.step rfl rfl rfl qRA19 ?_
        refine AL.step rfl rfl rfl qRA19 ?_
        refine AL.step rfl rfl rfl qRB3 ?_
        refine AL.step rfl rfl rfl qRE6 ?_
        refine AL.step rfl rfl rfl qRB5 ?_
        refine AL.step rfl rfl rfl qRA19 ?_
        refine AL.step rfl rfl rfl qRC9 ?_
        refine AL.step rfl rfl rfl (by exact AStepD.val (AStepD.rem rfl rfl rfl (by omega) rfl) (show _ = AV.v (.int .i64 ((r.cur + j) % all.length : Nat)) from congrArg (fun q => AV.v (.int .i64 q)) (Int.ofNat_tmod _ _).symm)) ?_
        refine AL.step rfl rfl rfl qRE4 ?_
        refine AL.step rfl rfl rfl qRB5 ?_
        refine AL.step rfl rfl rfl qRE2 ?_
        refine AL.step rfl rfl rfl (by first | exact AStepD.append' (bk := 64) tok rfl rfl rfl rfl rfl rfl rfl rfl (show _ = 1 from rfl) rfl qRA6 rfl qRA11 qRA23 qRA11 qRA4 qRA11 qRA11 qRA14 qRC2 | exact AStepD.append_nil' (bk := 64) tok rfl rfl rfl rfl rfl rfl rfl rfl (show _ = 1 from rfl) rfl qRA23 qRA11 qRA11 qRA11 qRA11) ?_
        refine AL.step rfl rfl rfl qRA18 ?_
        refine AL.nil_then (hK _ _ ?_); clear hK K
        refine AW.region ?_
        refine AL.step rfl rfl rfl qRA19 ?_
        refine AL.step rfl rfl rfl qRB3 ?_
        refine AL.step rfl rfl rfl qRE6 ?_
        refine AL.step rfl rfl rfl qRB5 ?_
        refine AL.step rfl rfl rfl qRA22 ?_
        refine AL.step rfl rfl rfl qRB3 ?_
        refine AL.step rfl rfl rfl qRE6 ?_
        refine AL.step0 rfl rfl qRE5 ?_
        refine AL.nil ?_
        refine hK1 _ _ ?_; clear hK1 K1
        refine AW.region ?_
        refine AL.step rfl rfl rfl qRA22 ?_
        refine AL.step rfl rfl rfl qRA19 ?_
        refine AL.nil ?_
        refine Exists.intro (j + 1, AV.sl ?yDa 0 1 1) ⟨?yma, ?ysa, hjm, ?yya, ?yga, ?yna, ?yka⟩
        case ysa => exact qRA21
        case yma => show many k all.length - (j + 1) < many k all.length - j; omega
        case yya =>
          show Ints H1 _ (AV.sl _ 0 1 1) (turn all r.cur (j + 1))
          rw [hts]
          refine Ints.mk (cs := ?yca) ?yaa ?yba ?yea ?yfa
          case yba => exact qRA6
          case yaa => (simp only [za, zb, zc]; omega)
          case yea => simp [intsA]
          case yfa => simp
        case yga =>
          rw [show r.cur + (j + 1) = r.cur + j + 1 from rfl]
          exact qRA6
        case yna => exact qRC3
        case yka => intro q h1 h2; exact Eq.trans qRC4 (hk2 q h1 h2)
      | sl hE hzH =>
        have hEl := hlt2 _ _ hzH
        have hqo := intsA_ones q
        have hqi := intsA_length q
        refine AW.seq_region (fun K hK => ?_)
        refine AL.step rfl rfl rfl qRA19 ?_
        refine AL.step rfl rfl rfl qRA19 ?_
        refine AL.step rfl rfl rfl qRA19 ?_
        refine AL.step rfl rfl rfl qRB3 ?_
        refine AL.step rfl rfl rfl qRE6 ?_
        refine AL.step rfl rfl rfl qRB5 ?_
        refine AL.step rfl rfl rfl qRA19 ?_
        refine AL.step rfl rfl rfl qRC9 ?_
        refine AL.step rfl rfl rfl (by exact AStepD.val (AStepD.rem rfl rfl rfl (by omega) rfl) (show _ = AV.v (.int .i64 ((r.cur + j) % all.length : Nat)) from congrArg (fun q => AV.v (.int .i64 q)) (Int.ofNat_tmod _ _).symm)) ?_
        refine AL.step rfl rfl rfl qRE4 ?_
        refine AL.step rfl rfl rfl qRB5 ?_
        refine AL.step rfl rfl rfl qRE2 ?_
        refine AL.step rfl rfl rfl (by first | exact AStepD.append' (bk := 64) tok rfl rfl rfl rfl rfl rfl rfl rfl (show _ = 1 from rfl) rfl qRA6 rfl qRA11 qRA23 qRA11 qRA4 qRA11 qRA11 qRA14 qRC2 | exact AStepD.append_nil' (bk := 64) tok rfl rfl rfl rfl rfl rfl rfl rfl (show _ = 1 from rfl) rfl qRA23 qRA11 qRA11 qRA11 qRA11) ?_
        refine AL.step rfl rfl rfl qRA18 ?_
        refine AL.nil_then (hK _ _ ?_); clear hK K
        refine AW.region ?_
        refine AL.step rfl rfl rfl qRA19 ?_
        refine AL.step rfl rfl rfl qRB3 ?_
        refine AL.step rfl rfl rfl qRE6 ?_
        refine AL.step rfl rfl rfl qRB5 ?_
        refine AL.step rfl rfl rfl qRA22 ?_
        refine AL.step rfl rfl rfl qRB3 ?_
        refine AL.step rfl rfl rfl qRE6 ?_
        refine AL.step0 rfl rfl qRE5 ?_
        refine AL.nil ?_
        refine hK1 _ _ ?_; clear hK1 K1
        refine AW.region ?_
        refine AL.step rfl rfl rfl qRA22 ?_
        refine AL.step rfl rfl rfl qRA19 ?_
        refine AL.nil ?_
        refine Exists.intro (j + 1, AV.sl ?yDb 0 (q.length + 1) 1) ⟨?ymb, ?ysb, hjm, ?yyb, ?ygb, ?ynb, ?ykb⟩
        case ysb => exact qRA21
        case ymb => show many k all.length - (j + 1) < many k all.length - j; omega
        case yyb =>
          show Ints H1 _ (AV.sl _ 0 (q.length + 1) 1) (turn all r.cur (j + 1))
          rw [hts]
          refine Ints.mk (cs := ?ycb) ?yab ?ybb ?yeb ?yfb
          case ybb => exact qRA6
          case yab => (simp only [za, zb, zc]; omega)
          case yeb => simp [intsA]
          case yfb => simp
        case ygb =>
          rw [show r.cur + (j + 1) = r.cur + j + 1 from rfl]
          exact qRA6
        case ynb => exact qRC3
        case ykb => intro q h1 h2; exact Eq.trans qRC4 (hk2 q h1 h2)
    · refine AW.exit ?_
      refine hK _ _ ?_; clear hK1 K1 hK K
      refine AW.seq_region (fun K hK => ?_)
      refine AL.step rfl rfl rfl qRA19 ?_
      refine AL.step rfl rfl rfl qRA18 ?_
      refine AL.nil_then (hK _ _ ?_); clear hK K
      have hjm : j = many k all.length := by have := of_decide_eq_false hc2; omega
      subst hjm
      have htl := turn_length all r.cur (many k all.length)
      refine AW.lts fun hlt2 => ?_
      have hMm : ∀ H', (∀ q, q < H.next → q ≠ n → H'.get q = H.get q) → H'.get n = some (.cells 62 [.v (.int .i64 r.self), x0, .map B, .v (.int .i64 (r.cur + many k all.length : Nat))]) → RosAt H' n L B { r with cur := r.cur + many k all.length } := by
        intro H' g1 g2
        have hBn : B ≠ n := by rintro rfl; rw [hn] at hB; simp at hB
        refine ⟨x0, g2, hM.mono ?_, (g1 B (hlt _ _ hB) hBn).trans hB⟩
        rintro o h ⟨cs, rfl⟩
        exact (g1 L (hlt _ _ h) (by rintro rfl; rw [hn] at h; simp at h)).trans h
      have hk3 : ∀ q, q < H.next → q ≠ n → H2.get q = H.get q := fun q h1 h2 => (hk2 q (by omega) h2).trans (hk1.2 q h1)
      generalize hq : turn all r.cur (many k all.length) = q at hz2 htl ⊢
      generalize many k all.length = m at hn2 hMm htl ⊢
      cases hz2 with
      | nil =>
        obtain rfl : m = 0 := by simpa using htl.symm
        exact AW.ret (RetQ.sub (.inr rfl) rfl SubV.nil_vec ⟨rfl, hMm _ hk3 hn2, by omega, fun q h1 h2 _ _ => hk3 q h1 h2, .inl rfl⟩)
      | @sl E _ hE hzH =>
        have hqi := intsA_length q
        have hnE : n ≠ E := by omega
        refine AW.ret (RetQ.frz (l := E) (t := 3) (cs := intsA q) (.inr rfl) rfl hzH (Frz.sl (by omega)) ⟨?_, hMm _ (fun q h1 h2 => ?_) ?_, ?_, fun q h1 h2 _ _ => ?_, .inl rfl⟩)
        · rw [htl]; simp only [List.drop_zero, Nat.mul_one]; rw [List.take_of_length_le (by omega)]
        · exact Eq.trans qRC4 (hk3 q h1 h2)
        · exact Eq.trans qRC4 hn2
        · exact qRC3
        · exact Eq.trans qRC4 (hk3 q h1 h2)
end Go.Proofs.Ytjiifddmcmbbnaa
