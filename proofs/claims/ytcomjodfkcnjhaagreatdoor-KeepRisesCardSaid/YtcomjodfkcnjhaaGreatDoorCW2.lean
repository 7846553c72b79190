/- The walks of Itoa, Join, Text. -/
import Derived.Test.YtcomjodfkcnjhaaGreatDoorCW1
import Derived.Lib.IndexLaws
set_option linter.unusedSimpArgs false
set_option linter.unusedVariables false
namespace Go.Proofs.YtcomjodfkcnjhaaGreatDoor
open Go.Ax
open Cel (c)
set_option linter.unusedSimpArgs false
set_option linter.unusedVariables false
open Cel (c)

theorem itoa_calls (H : AHeap) (i : Nat) (hi : i < 100) : ACalls Tryz.prog 60 [.v (.int .i64 (i : Nat))] H (fun r H' => r = strA (Lib.decDigits i) ∧ H' = H) := by
  refine ACalls.of_below fun ρ I w vs hc ha => ?_
  obtain ⟨v, rfl⟩ : ∃ v, vs = [v] := by
    have := ha.1
    match vs, this with
    | [v], _ => exact ⟨v, rfl⟩
  have hv := cv_v (ha.2 0 _ _ rfl rfl)
  subst hv
  exact (Any.strconv_Itoa_small lays171 i hi w).mono fun e w' ⟨he, hw⟩ => ⟨_, he, .v _, hw ▸ .refl _ _⟩

theorem join_calls (H : AHeap) (xs : List (List UInt8)) (sep : List UInt8) (hN : xs.length ≤ 1000) (hlen : (Lib.join xs sep).length ≤ 100000) : ACalls Tryz.prog 69 [vecA xs, strA sep] H (fun r H' => r = strA (Lib.join xs sep) ∧ H' = H) := by
  refine ACalls.of_below fun ρ I w vs hc ha => ?_
  obtain ⟨v1, v2, rfl⟩ : ∃ v1 v2, vs = [v1, v2] := by
    have := ha.1
    match vs, this with
    | [v1, v2], _ => exact ⟨v1, v2, rfl⟩
  have h2 := cv_v (ha.2 1 _ _ rfl rfl)
  subst h2
  have h1 := ha.2 0 _ _ rfl rfl
  have hxs : (xs.map str).map (·.data.toList) = xs := by rw [List.map_map]; conv => rhs; rw [← List.map_id xs]
                                                         exact List.map_congr_left fun x _ => str_list x
  have hj : Lib.join ((xs.map str).map (·.data.toList)) (str sep).data.toList = Lib.join xs sep := by rw [hxs, str_list]
  rw [vecA] at h1
  generalize hn : xs.length = n at h1
  generalize hcs : flat xs = cs at h1
  cases h1 with
  | @vec0 a c =>
    obtain rfl : xs = [] := List.eq_nil_of_length_eq_zero hn
    exact (Any.strings_Join_none lays156 Builder_Extra_156 a c (str sep) w).mono fun e w' ⟨he, hw⟩ => ⟨_, he, .v _, hw ▸ .refl _ _⟩
  | @vec _ c _ b off arr vs hnc hm hI hl hcc hv =>
    subst hn hcs
    obtain ⟨t, fz, hb⟩ := hc.imm _ _ hI
    have hlx : (flat xs).length = xs.length := by rw [flat_length]; exact Nat.mul_one _
    have := Any.strings_Join lays156 Builder_Extra_156 b off c (xs.map str) (str sep) w (fun j x hx => by
      have hjl : j < xs.length := by simpa using (List.getElem?_eq_some_iff.1 hx).1
      have hx2 : x = str xs[j] := by simpa using (List.getElem?_eq_some_iff.1 hx).2.symm
      have hjv : j < vs.length := by rw [hl, hlx]; exact hjl
      have e1 : (flat xs)[j]? = some (strA xs[j]) := by
        have := flat_getc xs j 0 hjl (by decide)
        rw [show j * Cel.n (List UInt8) + 0 = j from Nat.mul_one j] at this
        exact this
      have hu := cv_v (hv j _ _ e1 (List.getElem?_eq_getElem hjv))
      have ha := hcc j _ (List.getElem?_eq_getElem hjv)
      rw [World.cell?]
      simp only [hb]
      rw [ha, hu, hx2]
      rfl) (Array.getElem?_eq_some_iff.1 hb).1 (by simp; omega) (by simpa using hnc) (by rw [hj]; omega)
    rw [hj, List.length_map] at this
    exact this.mono fun e w' ⟨he, hw⟩ => ⟨_, he, .v _, hw⟩
end Go.Proofs.YtcomjodfkcnjhaaGreatDoor

/- Lengths of texts. -/

namespace Go.Proofs.YtcomjodfkcnjhaaGreatDoor
open Go.Ax
open Cel (c)

theorem dec_eq (n : Nat) (h : n < 100) : Lib.decDigits n = if n < 10 then [UInt8.ofNat (48 + n)] else [UInt8.ofNat (48 + n / 10), UInt8.ofNat (48 + n % 10)] := by
  rw [Lib.decDigits]
  split
  · rfl
  · rw [Lib.decDigits, dif_pos (by omega)]; rfl
theorem dec_len (n : Nat) (h : n < 100) : (Lib.decDigits n).length ≤ 2 := by
  rw [dec_eq n h]
  split <;> simp
theorem join_cons (x y : List UInt8) (r : List (List UInt8)) (sep : List UInt8) : Lib.join (x :: y :: r) sep = x ++ (sep ++ Lib.join (y :: r) sep) := by
  simp [Lib.join, List.intercalate, List.intersperse]
theorem join_len : ∀ (xs : List (List UInt8)) (k : Nat), (∀ x ∈ xs, x.length ≤ k) → (Lib.join xs [32]).length ≤ (k + 1) * xs.length
  | [], _, _ => by simp [Lib.join_nil]
  | [x], k, h => by
    have := h x (by simp)
    rw [Lib.join_one]; simp; omega
  | x :: y :: r, k, h => by
    have h1 := join_len (y :: r) k fun z hz => h z (by simp at hz ⊢; exact .inr hz)
    have h2 := h x (by simp)
    rw [join_cons, List.length_append, List.length_append]
    simp only [List.length_cons, List.length_nil] at h1 ⊢
    rw [Nat.mul_succ] 
    omega
theorem segs_length (f : Nat → Bool) : ∀ n, (segs f n).length ≤ n
  | 0 => Nat.le_refl _
  | n + 1 => by
    have ih := segs_length f n
    rw [segs]
    split
    · split
      · rename_i h
        rw [h] at ih
        split <;> simp only [List.length_cons] at ih ⊢ <;> omega
      · simp
    · omega
theorem good_bound : ∀ {l : List (Nat × Nat)} {lo : Nat}, Good lo l → ∀ x ∈ l, x.1 ≤ x.2 ∧ x.2 < 64
  | [], _, _, _, h => by cases h
  | (a, b) :: t, _, hg, x, h => by
    rcases List.mem_cons.1 h with rfl | h
    · exact ⟨hg.2.1, hg.2.2.1⟩
    · exact good_bound hg.2.2.2 x h
theorem segT_len {x : Nat × Nat} (h : x.1 ≤ x.2 ∧ x.2 < 64) : (segT x).length ≤ 5 := by
  have h1 := dec_len x.1 (by omega)
  have h2 := dec_len x.2 (by omega)
  rw [segT]
  split
  · rw [List.length_append, List.length_cons]; omega
  · omega
theorem segsS_good (s : BitVec 64) : Good 0 (segsS s) := (segs_good _ 64 (Nat.le_refl _)).1
theorem textS_len (s : BitVec 64) : (textS s).length ≤ 400 := by
  have h1 := join_len ((segsS s).map segT) 5 fun x hx => by
    obtain ⟨y, hy, rfl⟩ := List.mem_map.1 hx
    exact segT_len (good_bound (segsS_good s) y hy)
  have h2 := segs_length s.getLsbD 64
  rw [List.length_map] at h1
  rw [textS]
  rw [segsS] at h1 ⊢
  omega
theorem has_nat (s : BitVec 64) (n : Nat) : hasS s (n : Nat) = s.getLsbD n := by
  rw [hasS, decide_eq_true (Int.natCast_nonneg n), Bool.true_and, Int.toNat_natCast]
  by_cases h : n < 64
  · rw [decide_eq_true (by omega), Bool.true_and]
  · rw [decide_eq_false (by omega), Bool.false_and, BitVec.getLsbD_of_ge _ _ (by omega)]
theorem has_succ (s : BitVec 64) (n : Nat) : hasS s ((n : Int) + 1) = s.getLsbD (n + 1) := has_nat s (n + 1)
theorem strA_add {P : Program} {o : Oper} {T : Fr} {H : AHeap} {t yt : TypeId} {x y : Operand} (a b : List UInt8) (ho : o.op = .binOp .add t x y yt) (hx : aev T x = strA a) (hy : aev T y = strA b) (hs : a.length + b.length ≤ 2000000000000000000) : AStepD P o T H (strA (a ++ b)) H :=
  AStepD.val (AStepD.str_add ho hx hy (by rw [str_size, str_size]; omega)) (by rw [str_append])
end Go.Proofs.YtcomjodfkcnjhaaGreatDoor

/- The walk of Text. -/

namespace Go.Proofs.YtcomjodfkcnjhaaGreatDoor
open Go.Ax
open Cel (c)
theorem qG1 {p : Prop} (h : p := by (conv => lhs; whnf); all_goals exact rfl) : p := h
theorem qG2 {p : Prop} (h : p := by (conv => lhs; whnf); all_goals first | exact rfl | (simp; done) | (simp; omega)) : p := h
theorem qG3 {p : Prop} (h : p := by first | omega | (simp; done) | (simp; omega) | (simp only [over, List.length_append, List.length_take, List.length_drop, *]; omega) | (simp_all; done) | (simp_all; omega)) : p := h
theorem qG4 {p : Prop} (h : p := by first | with_reducible assumption | exact Cel.one _ | exact flat_ones _ | exact ones_nil | (simp only [List.forall_mem_cons, List.not_mem_nil, false_implies, implies_true, and_true, one_v, one_ptr, one_ip, one_sl, one_slc, one_vec, one_map, one_func, one_iface, Value.oneCell', *]; done) | (simp [AV.one, Value.oneCell', *]; done)) : p := h
theorem qG5 {p : Prop} (h : p := by simp only [List.flatMap_cons, List.flatMap_nil, cells_v, cells_any, cells_ptr, cells_ip, cells_sl, cells_vec, cells_map, cells_func, cells_agg, cells_iface, List.cons_append, List.nil_append, List.append_nil]; all_goals exact rfl) : p := h
theorem qG6 {p : Prop} (h : p := by first | omega | (simp only [za, zb, zc, zd]; omega)) : p := h
theorem qG7 {p : Prop} (h : p := by (try simp only [za, zb, zc, zd, ne_eq]); omega) : p := h
theorem qG8 {p : Prop} (h : p := by first | exact Nat.le_of_ble_eq_true rfl | (simp; done) | (simp; omega) | (simp_all; omega)) : p := h
theorem qG9 {p : Prop} (h : p := by first | (simp only [Nat.zero_add, Nat.zero_mul, Nat.sub_zero, Nat.add_zero]; exact rfl) | exact rfl) : p := h
theorem qG10 {p : Prop} (h : p := by first | exact List.nil_append _ | exact rfl) : p := h
theorem qG11 {p : Prop} (h : p := by rw [flat_append, flat_one]; rfl) : p := h
theorem qG12 {p : Prop} (h : p := by rw [List.length_append]; rfl) : p := h
theorem qG13 {p : Prop} (h : p := by repeat' (first | exact Keep.refl _ | with_reducible assumption | apply Keep.new | apply Keep.set | apply Keep.del | (first | omega | (simp only [za, zb, zc]; omega)))) : p := h
theorem qG14 {p : Prop} (h : p := by exact AStepD.assign' rfl qG1) : p := h
theorem qG15 {p : Prop} (h : p := by repeat' (first | exact SubT.nil _ | refine SubT.cons_eq qG2 ?_)) : p := h
theorem qG16 {p : Prop} (h : p := by exact AStepD.move' rfl qG1) : p := h
theorem qG17 {p : Prop} (h : p := by first | exact AStepD.buildSlice0 tok rfl rfl rfl rfl (show _ = 1 from rfl) | exact AStepD.buildSlice1 tok rfl rfl rfl rfl (show _ = 1 from rfl) qG1 qG1 qG3 (by decide) qG4 | exact AStepD.buildSlice_seq tok rfl rfl rfl rfl (show _ = 1 from rfl) (map_p qG1 map_n) rfl (by decide) (by decide) rfl qG5 qG4 | exact AStepD.buildSlice tok rfl rfl rfl rfl qG1 (by decide) (by decide) rfl qG4) : p := h
theorem qG18 {p : Prop} (h : p := by simp (disch := (first | omega | (exact Lst.lab_ne (by with_reducible assumption) qG6) | (exact Lst.lab_new (by with_reducible assumption) qG6) | (refine id ?_; simp only [za, zb, zc, zd]; done) | (simp only [za, zb, zc, zd]; omega))) only [z1, z2, z3, z4, z5, z6, z7, z8, z9, ne_eq]) : p := h
theorem qG19 {p : Prop} (h : p := by first | with_reducible assumption | (simp (disch := (first | omega | (exact Lst.lab_ne (by with_reducible assumption) qG6) | (exact Lst.lab_new (by with_reducible assumption) qG6) | (refine id ?_; simp only [za, zb, zc, zd]; done) | (simp only [za, zb, zc, zd]; omega))) only [z1, z2, z3, z4, z5, z6, z7, z8, z9, ne_eq, *]; done) | (simp (disch := (first | omega | (exact Lst.lab_ne (by with_reducible assumption) qG6) | (exact Lst.lab_new (by with_reducible assumption) qG6) | (refine id ?_; simp only [za, zb, zc, zd]; done) | (simp only [za, zb, zc, zd]; omega))) only [z1, z2, z3, z4, z5, z6, z7, z8, z9, ne_eq, *]; exact rfl)) : p := h
theorem qG20 {p : Prop} (h : p := by exact SD.s rfl rfl rfl qG14) : p := h
theorem qG21 {p : Prop} (h : p := by exact SD.s rfl rfl rfl qG16) : p := h
theorem qG22 {p : Prop} (h : p := by exact SD.s rfl rfl rfl qG17) : p := h
theorem qG23 {p : Prop} (h : p := by first | with_reducible assumption | exact (by assumption : ∀ o, Ax.Src _ _ _ _ _) _ | exact Ax.Src.vec | exact Ax.Src.nil | exact Ax.Src.all qG19 qG3 | exact Ax.Src.sl qG19 qG8) : p := h
set_option linter.unusedSimpArgs false
set_option linter.unusedVariables false
open Cel (c)

theorem text_calls (H : AHeap) (s : BitVec 64) : ACalls Tryz.prog 29 [u64A s] H (fun r H' => r = strA (textS s) ∧ H' = H) := by
  refine ACalls.quiet_keep ?_ (.v _)
  refine ACalls.lts fun hlt => ?_
  refine ACalls.of_body tok Tryz.func29 rfl Tryz.ntmps29 (Nat.le_of_ble_eq_true rfl) (fun base => ?_)
  refine rg fun K hK => ?_
  refine st qG20 <| nt (hK _ _ ?_)
  clear hK K
  refine rg fun K hK => ?_
  refine st qG20 <| nt (hK _ _ ?_)
  clear hK K
  refine AW.seq_k (fun K1 hK1 => ?_)
  refine rg fun K hK => ?_
  refine st qG20 <| nt (hK _ _ ?_)
  clear hK K
  refine AW.block ?_
  refine AW.loop_at (ι := Nat × List (List UInt8) × AV) (fun x => [(4, .v (.int .i64 (x.1 : Nat))), (3, x.2.2), (0, u64A s)])
    (fun x H' => x.1 ≤ 64 ∧ x.2.1 ++ (segs s.getLsbD (64 - x.1)).map segT = (segsS s).map segT ∧ Lst 9 H.next H' x.2.2 x.2.1 ∧ Keep H H') (fun x => 64 - x.1) (0, [], .v (.slice none 0 0)) qG15 ⟨by omega, rfl, .nil, (by repeat' (first | exact Keep.refl _ | apply Keep.new | apply Keep.set | apply Keep.del | (first | omega | (simp only [za, zb, zc]; omega))))⟩ ?_
  rintro ⟨i, out, y⟩ H2 ⟨hi, hout, hy, hk⟩
  dsimp only at hi hout hy ⊢
  have hkn := hk.1
  have hlen : out.length ≤ 64 := by
    have h1 := segs_length s.getLsbD 64
    have h2 := congrArg List.length hout
    simp only [List.length_append, List.length_map, segsS] at h2
    omega
  have hy1 := hy.one
  refine AW.lts fun hlt => ?_
  refine AW.seq_k (fun K2 hK2 => ?_)
  refine rg fun K hK => ?_
  refine st qG21 <| st (by exact SD.s rfl rfl rfl (by exact AStepD.lss rfl rfl rfl)) <| nt (hK _ _ ?_)
  clear hK K
  refine AW.cond _ rfl (fun hc => ?_) (fun hc => ?_)
  · (try simp only [Bool.or_eq_true, Bool.and_eq_true, Bool.or_eq_false_iff, Bool.and_eq_false_iff, Bool.not_eq_true', Bool.not_eq_false', decide_eq_true_eq, decide_eq_false_iff_not, Int.not_lt, Int.not_le] at hc)
    have hil : i < 64 := by omega
    clear hc
    refine AW.skip ?_
    refine hK2 _ _ ?_; try clear hK2 K2
    refine AW.seq_k (fun K3 hK3 => ?_)
    refine AW.block ?_
    refine AW.seq_k (fun K4 hK4 => ?_)
    refine rg fun K hK => ?_
    refine st qG21 <| st qG21 <| st (by exact SD.s rfl rfl rfl (by exact AStepD.val (AStepD.callf rfl en68 rfl (has_calls _ s _)) (by rw [has_nat]))) <| st (by exact SD.s rfl rfl rfl (by first | exact AStepD.not rfl rfl | exact AStepD.neg rfl rfl (by first | exact IntWalk.i64_in _ (by omega) | exact IntWalk.i64_in _ (by simp only [Bool.or_eq_true, Bool.and_eq_true, Bool.or_eq_false_iff, Bool.and_eq_false_iff, Bool.not_eq_true', Bool.not_eq_false', decide_eq_true_eq, decide_eq_false_iff_not, Int.not_lt, Int.not_le, beq_iff_eq] at *; omega) | exact rfl))) <| nt (hK _ _ ?_)
    clear hK K
    refine AW.cond _ rfl (fun hc => ?_) (fun hc => ?_)
    · have hf : s.getLsbD i = false := by simpa using hc
      refine AW.exit ?_
      refine hK3 _ _ ?_; try clear hK3 K3
      refine AW.region ?_
      refine st qG21 <| st (by exact SD.s rfl rfl rfl (by first | exact AStepD.add rfl rfl rfl (by first | exact IntWalk.i64_in _ (by omega) | exact IntWalk.i64_in _ (by simp only [Bool.or_eq_true, Bool.and_eq_true, Bool.or_eq_false_iff, Bool.and_eq_false_iff, Bool.not_eq_true', Bool.not_eq_false', decide_eq_true_eq, decide_eq_false_iff_not, Int.not_lt, Int.not_le, beq_iff_eq] at *; omega) | exact rfl) | exact AStepD.str_add rfl rfl rfl (by omega))) <| st qG20 <| AL.nil ?_
      refine ⟨(i + 1, out, y), by show 64 - (i + 1) < 64 - i; omega, qG15, by show i + 1 ≤ 64; omega, ?_, hy, hk⟩
      rw [← segs_skip _ hil hf]
      exact hout
    · have hf : s.getLsbD i = true := by simpa using hc
      clear hc
      refine AW.skip ?_
      refine hK4 _ _ ?_; try clear hK4 K4
      refine rg fun K hK => ?_
      refine st qG21 <| st (by exact SD.s rfl rfl rfl (by exact AStepD.callf rfl en60 rfl (itoa_calls _ i (by omega)))) <| st qG20 <| nt (hK _ _ ?_)
      clear hK K
      refine rg fun K hK => ?_
      refine st qG21 <| st qG20 <| nt (hK _ _ ?_)
      clear hK K
      refine AW.seq_k (fun K5 hK5 => ?_)
      refine AW.block ?_
      refine AW.loop_at (ι := Nat) (fun b => [(6, .v (.int .i64 (i : Nat))), (5, strA (Lib.decDigits i)), (4, .v (.int .i64 (b : Nat))), (3, y), (0, u64A s)])
        (fun b H' => i ≤ b ∧ b < 64 ∧ (∀ j, i ≤ j → j ≤ b → s.getLsbD j = true) ∧ H' = H2) (fun b => 64 - b) i qG15 ⟨Nat.le_refl _, hil, fun j h1 h2 => (show j = i by omega) ▸ hf, rfl⟩ ?_
      rintro b H3 ⟨hb1, hb2, hrun, rfl⟩
      refine AW.seq_k (fun K6 hK6 => ?_)
      refine rg fun K hK => ?_
      refine st qG21 <| st qG21 <| st (by exact SD.s rfl rfl rfl (by first | exact AStepD.add rfl rfl rfl (by first | exact IntWalk.i64_in _ (by omega) | exact IntWalk.i64_in _ (by simp only [Bool.or_eq_true, Bool.and_eq_true, Bool.or_eq_false_iff, Bool.and_eq_false_iff, Bool.not_eq_true', Bool.not_eq_false', decide_eq_true_eq, decide_eq_false_iff_not, Int.not_lt, Int.not_le, beq_iff_eq] at *; omega) | exact rfl) | exact AStepD.str_add rfl rfl rfl (by omega))) <| st (by exact SD.s rfl rfl rfl (by exact AStepD.val (AStepD.callf rfl en68 rfl (has_calls _ s _)) (by rw [has_succ]))) <| nt (hK _ _ ?_)
      clear hK K
      refine AW.cond _ rfl (fun hc => ?_) (fun hc => ?_)
      · have hb3 : b + 1 < 64 := by
          rcases Nat.lt_or_ge (b + 1) 64 with h | h
          · exact h
          · rw [BitVec.getLsbD_of_ge _ _ h] at hc; cases hc
        refine AW.skip ?_
        refine hK6 _ _ ?_; try clear hK6 K6
        refine AW.block ?_
        refine AW.region ?_
        refine st qG21 <| st (by exact SD.s rfl rfl rfl (by first | exact AStepD.add rfl rfl rfl (by first | exact IntWalk.i64_in _ (by omega) | exact IntWalk.i64_in _ (by simp only [Bool.or_eq_true, Bool.and_eq_true, Bool.or_eq_false_iff, Bool.and_eq_false_iff, Bool.not_eq_true', Bool.not_eq_false', decide_eq_true_eq, decide_eq_false_iff_not, Int.not_lt, Int.not_le, beq_iff_eq] at *; omega) | exact rfl) | exact AStepD.str_add rfl rfl rfl (by omega))) <| st qG20 <| AL.nil ?_
        refine ⟨b + 1, by omega, qG15, by omega, hb3, fun j h1 h2 => ?_, rfl⟩
        rcases Nat.lt_or_ge b j with h | h
        · obtain rfl : j = b + 1 := by omega
          exact hc
        · exact hrun j h1 h
      · have hnx := segs_run s.getLsbD (b - i) i b rfl hb1 hb2 hrun hc
        rw [hnx, List.map_cons] at hout
        have hl1 := dec_len i (by omega)
        have hl2 := dec_len b (by omega)
        refine AW.exit ?_
        refine hK5 _ _ ?_; try clear hK5 K5
        refine AW.seq_k (fun K7 hK7 => ?_)
        refine rg fun K hK => ?_
        refine st qG21 <| st qG21 <| st (by exact SD.s rfl rfl rfl (by exact AStepD.gtr rfl rfl rfl)) <| nt (hK _ _ ?_)
        clear hK K
        refine AW.cond _ rfl (fun hc => ?_) (fun hc => ?_)
        · (try simp only [Bool.or_eq_true, Bool.and_eq_true, Bool.or_eq_false_iff, Bool.and_eq_false_iff, Bool.not_eq_true', Bool.not_eq_false', decide_eq_true_eq, decide_eq_false_iff_not, Int.not_lt, Int.not_le] at hc)
          have hib : i < b := by omega
          refine AW.region ?_
          refine st qG21 <| st qG21 <| st (by exact SD.s rfl rfl rfl (by exact AStepD.callf rfl en60 rfl (itoa_calls _ b (by omega)))) <| st (by exact SD.s rfl rfl rfl (by exact strA_add [45] (Lib.decDigits b) rfl rfl rfl (by simp; omega))) <| st (by exact SD.s rfl rfl rfl (by exact strA_add (Lib.decDigits i) ([45] ++ Lib.decDigits b) rfl rfl rfl (by simp; omega))) <| st qG20 <| AL.nil ?_
          refine hK7 _ _ ?_; try clear hK7 K7
          refine AW.region ?_
          refine st qG21 <| st qG21 <| st qG22 <| st (by exact SD.s rfl rfl rfl (by first | exact AStepD.append_lst (bk := 64) tok rfl qG1 (by first | with_reducible assumption | exact Lst.keep (by with_reducible assumption) (fun D _ _ _ => qG18) qG7) rfl rfl rfl rfl rfl rfl (show _ = 1 from rfl) rfl rfl qG23 rfl qG3 qG4 qG3 qG3 qG9 qG10 | exact AStepD.append' (bk := 64) tok rfl rfl rfl rfl rfl rfl rfl rfl (show _ = 1 from rfl) rfl qG19 rfl qG3 qG23 qG3 qG4 qG3 qG3 qG9 qG10 | exact AStepD.append_nil' (bk := 64) tok rfl rfl rfl rfl rfl rfl rfl rfl (show _ = 1 from rfl) rfl qG23 qG3 qG3 qG3 qG3)) <| st qG20 <| AL.nil ?_
          refine hK3 _ _ ?_; try clear hK3 K3
          refine AW.region ?_
          refine st qG21 <| st (by exact SD.s rfl rfl rfl (by first | exact AStepD.add rfl rfl rfl (by first | exact IntWalk.i64_in _ (by omega) | exact IntWalk.i64_in _ (by simp only [Bool.or_eq_true, Bool.and_eq_true, Bool.or_eq_false_iff, Bool.and_eq_false_iff, Bool.not_eq_true', Bool.not_eq_false', decide_eq_true_eq, decide_eq_false_iff_not, Int.not_lt, Int.not_le, beq_iff_eq] at *; omega) | exact rfl) | exact AStepD.str_add rfl rfl rfl (by omega))) <| st qG20 <| AL.nil ?_
          have hsz : segT (i, b) = Lib.decDigits i ++ ([45] ++ Lib.decDigits b) := by simp [segT, hib]
          rw [hsz] at hout
          refine ⟨(b + 1, out ++ [Lib.decDigits i ++ ([45] ++ Lib.decDigits b)], _), by show 64 - (b + 1) < 64 - i; omega, qG15, by show b + 1 ≤ 64; omega, by show (out ++ [_]) ++ _ = _; rw [List.append_assoc]; exact hout, Lst.mk qG7 qG7 qG19 qG11 qG12 rfl, keep_delv hy (Nat.le_refl _) qG13⟩
        · (try simp only [Bool.or_eq_true, Bool.and_eq_true, Bool.or_eq_false_iff, Bool.and_eq_false_iff, Bool.not_eq_true', Bool.not_eq_false', decide_eq_true_eq, decide_eq_false_iff_not, Int.not_lt, Int.not_le] at hc)
          obtain rfl : i = b := by omega
          refine AW.skip ?_
          refine hK7 _ _ ?_; try clear hK7 K7
          refine AW.region ?_
          refine st qG21 <| st qG21 <| st qG22 <| st (by exact SD.s rfl rfl rfl (by first | exact AStepD.append_lst (bk := 64) tok rfl qG1 (by first | with_reducible assumption | exact Lst.keep (by with_reducible assumption) (fun D _ _ _ => qG18) qG7) rfl rfl rfl rfl rfl rfl (show _ = 1 from rfl) rfl rfl qG23 rfl qG3 qG4 qG3 qG3 qG9 qG10 | exact AStepD.append' (bk := 64) tok rfl rfl rfl rfl rfl rfl rfl rfl (show _ = 1 from rfl) rfl qG19 rfl qG3 qG23 qG3 qG4 qG3 qG3 qG9 qG10 | exact AStepD.append_nil' (bk := 64) tok rfl rfl rfl rfl rfl rfl rfl rfl (show _ = 1 from rfl) rfl qG23 qG3 qG3 qG3 qG3)) <| st qG20 <| AL.nil ?_
          refine hK3 _ _ ?_; try clear hK3 K3
          refine AW.region ?_
          refine st qG21 <| st (by exact SD.s rfl rfl rfl (by first | exact AStepD.add rfl rfl rfl (by first | exact IntWalk.i64_in _ (by omega) | exact IntWalk.i64_in _ (by simp only [Bool.or_eq_true, Bool.and_eq_true, Bool.or_eq_false_iff, Bool.and_eq_false_iff, Bool.not_eq_true', Bool.not_eq_false', decide_eq_true_eq, decide_eq_false_iff_not, Int.not_lt, Int.not_le, beq_iff_eq] at *; omega) | exact rfl) | exact AStepD.str_add rfl rfl rfl (by omega))) <| st qG20 <| AL.nil ?_
          have hsz : segT (i, i) = Lib.decDigits i := by simp [segT]
          rw [hsz] at hout
          refine ⟨(i + 1, out ++ [Lib.decDigits i], _), by show 64 - (i + 1) < 64 - i; omega, qG15, by show i + 1 ≤ 64; omega, by show (out ++ [_]) ++ _ = _; rw [List.append_assoc]; exact hout, Lst.mk qG7 qG7 qG19 qG11 qG12 rfl, keep_delv hy (Nat.le_refl _) qG13⟩
  · (try simp only [Bool.or_eq_true, Bool.and_eq_true, Bool.or_eq_false_iff, Bool.and_eq_false_iff, Bool.not_eq_true', Bool.not_eq_false', decide_eq_true_eq, decide_eq_false_iff_not, Int.not_lt, Int.not_le] at hc)
    refine AW.exit ?_
    refine hK1 _ _ ?_; try clear hK1 K1
    have hil : i = 64 := by omega
    subst hil
    rw [show (64 : Nat) - 64 = 0 from rfl, segs, List.map_nil, List.append_nil] at hout
    subst hout
    refine AW.vecL (s := 3) hy rfl ?_
    have htl := textS_len s
    rw [textS] at htl
    refine rg fun K hK => ?_
    refine st qG21 <| st (by exact SD.s rfl rfl rfl (by exact AStepD.callf rfl en69 rfl (join_calls _ ((segsS s).map segT) [32] (by omega) (by omega)))) <| st qG20 <| nt (hK _ _ ?_)
    clear hK K
    exact AW.ret (RetQ.mk (.inr rfl) (retA_tmp rfl qG1 retA_nil) ⟨rfl, keep_delv hy (Nat.le_refl _) hk⟩)
end Go.Proofs.YtcomjodfkcnjhaaGreatDoor

/- Splitting, plainly. -/

namespace Go.Proofs.YtcomjodfkcnjhaaGreatDoor
open Go.Ax
open Cel (c)

def splitB (c : UInt8) : List UInt8 → List (List UInt8)
  | [] => [[]]
  | b :: r => if b = c then [] :: splitB c r else match splitB c r with
    | x :: t => (b :: x) :: t
    | [] => [[b]]
theorem splitB_ne (c : UInt8) : ∀ l, splitB c l ≠ []
  | [] => by simp [splitB]
  | b :: r => by
    rw [splitB]
    split
    · simp
    · split <;> simp
theorem index_none {l : List UInt8} {c : UInt8} (h : Lib.indexByte l c < 0) : c ∉ l := by
  have h1 := Lib.indexByte_ge l c
  have h2 := Lib.indexByte_none (show Lib.indexByte l c = -1 by omega)
  intro hm
  obtain ⟨k, hk, e⟩ := List.mem_iff_getElem.1 hm
  exact h2 k (by rw [List.getElem?_eq_getElem hk, e])
theorem split_none (c : UInt8) : ∀ l, c ∉ l → splitB c l = [l]
  | [], _ => rfl
  | b :: r, h => by
    simp only [List.mem_cons, not_or] at h
    rw [splitB, if_neg (fun e => h.1 e.symm), split_none c r h.2]
theorem split_at (c : UInt8) : ∀ (l : List UInt8) (o : Nat), l[o]? = some c → (∀ k, k < o → l[k]? ≠ some c) → splitB c l = l.take o :: splitB c (l.drop (o + 1))
  | [], _, h, _ => by simp at h
  | b :: r, 0, h, _ => by
    simp only [List.getElem?_cons_zero, Option.some.injEq] at h
    rw [splitB, if_pos h]; rfl
  | b :: r, o + 1, h, hk => by
    have hb : b ≠ c := fun e => hk 0 (by omega) (by simp [e])
    have ih := split_at c r o (by simpa using h) fun k hk2 => by simpa using hk (k + 1) (by omega)
    rw [splitB, if_neg hb, ih]; rfl
theorem split_some {l : List UInt8} {c : UInt8} {o : Nat} (h : Lib.indexByte l c = o) : o < l.length ∧ splitB c l = l.take o :: splitB c (l.drop (o + 1)) := by
  obtain ⟨h1, h2⟩ := Lib.indexByte_some h
  exact ⟨(List.getElem?_eq_some_iff.1 h1).1, split_at c l o h1 h2⟩
end Go.Proofs.YtcomjodfkcnjhaaGreatDoor

/- The walks of SplitSeq, Index, Cut. -/

namespace Go.Proofs.YtcomjodfkcnjhaaGreatDoor
open Go.Ax
open Cel (c)
theorem qI1 {p : Prop} (h : p := by (conv => lhs; whnf); all_goals exact rfl) : p := h
theorem qI2 {p : Prop} (h : p := by first | exact rfl | with_reducible assumption | exact Lst.one (by assumption)) : p := h
theorem qI3 {p : Prop} (h : p := by first | with_reducible assumption | exact Cel.one _ | exact flat_ones _ | exact ones_nil | (simp only [List.forall_mem_cons, List.not_mem_nil, false_implies, implies_true, and_true, one_v, one_ptr, one_ip, one_sl, one_slc, one_vec, one_map, one_func, one_iface, Value.oneCell', *]; done) | (simp [AV.one, Value.oneCell', *]; done)) : p := h
theorem qI4 {p : Prop} (h : p := by repeat' (first | exact Keep.refl _ | apply Keep.new | apply Keep.set | apply Keep.del | (first | omega | (simp only [za, zb, zc]; omega)))) : p := h
theorem qI5 {p : Prop} (h : p := by exact AStepD.extract rfl rfl rfl) : p := h
theorem qI6 {p : Prop} (h : p := by first | exact AStepD.box1 rfl qI1 qI2 | exact AStepD.box rfl qI1 qI3) : p := h
theorem qI7 {p : Prop} (h : p := by exact AStepD.assign' rfl qI1) : p := h
theorem qI8 {p : Prop} (h : p := by exact AStepD.move' rfl qI1) : p := h
theorem qI9 {p : Prop} (h : p := by first | exact AStepD.len_str tok rfl rfl rfl rfl | exact AStepD.len_sl tok rfl qI1 (by first | exact IsSl.vec | exact IsSl.sl | exact IsSl.slc | exact IsSl.nil | with_reducible assumption) rfl rfl | exact AStepD.len_arr tok rfl rfl rfl) : p := h
theorem qI10 {p : Prop} (h : p := by exact SD.s rfl rfl rfl qI5) : p := h
theorem qI11 {p : Prop} (h : p := by exact SD.s rfl rfl rfl qI6) : p := h
theorem qI12 {p : Prop} (h : p := by exact SD.s rfl rfl rfl qI7) : p := h
theorem qI13 {p : Prop} (h : p := by exact SD.s rfl rfl rfl qI8) : p := h
set_option linter.unusedSimpArgs false
set_option linter.unusedVariables false
open Cel (c)

theorem index_calls (H : AHeap) (l : List UInt8) (b : UInt8) : ACalls Tryz.prog 100 [strA l, strA [b]] H (fun r H' => r = .v (.int .i64 (Lib.indexByte l b)) ∧ H' = H) := by
  refine ACalls.of_below fun ρ I w vs hc ha => ?_
  obtain ⟨v1, v2, rfl⟩ : ∃ v1 v2, vs = [v1, v2] := by
    have := ha.1
    match vs, this with
    | [v1, v2], _ => exact ⟨v1, v2, rfl⟩
  have h1 := cv_v (ha.2 0 _ _ rfl rfl)
  have h2 := cv_v (ha.2 1 _ _ rfl rfl)
  subst h1; subst h2
  have := Any.strings_Index_one lays143 (str l) b w
  rw [str_list] at this
  exact this.mono fun e w' ⟨he, hw⟩ => ⟨_, he, .v _, hw ▸ .refl _ _⟩

theorem index1_calls (H : AHeap) (l : List UInt8) (b : UInt8) : ACalls Tryz.prog 120 [strA l, strA [b]] H (fun r H' => r = .v (.int .i64 (Lib.indexByte l b)) ∧ H' = H) := by
  refine ACalls.of_below fun ρ I w vs hc ha => ?_
  obtain ⟨v1, v2, rfl⟩ : ∃ v1 v2, vs = [v1, v2] := by
    have := ha.1
    match vs, this with
    | [v1, v2], _ => exact ⟨v1, v2, rfl⟩
  have h1 := cv_v (ha.2 0 _ _ rfl rfl)
  have h2 := cv_v (ha.2 1 _ _ rfl rfl)
  subst h1; subst h2
  have := Any.stringslite_Index_one { lays143 with } (str l) b w
  rw [str_list] at this
  exact this.mono fun e w' ⟨he, hw⟩ => ⟨_, he, .v _, hw ▸ .refl _ _⟩

def splitH (H : AHeap) (l : List UInt8) : AHeap := ((H.new (.cells 9 [strA l])).new (.cells 9 [strA [32]])).new (.cells 3 [.v (.int .i64 0)])
theorem split0_calls (H : AHeap) (l : List UInt8) : ACalls Tryz.prog 123 [strA l, strA [32], .v (.int .i64 0)] H (fun r H' => r = .func (.func 149) [.ptr (H.next + 1) 0, .ptr H.next 0, .ptr (H.next + 2) 0] ∧ H' = splitH H l) := by
  refine ACalls.of_body tok Tryz.func123 rfl Tryz.ntmps123 (Nat.le_of_ble_eq_true rfl) (fun base => ?_)
  refine rg fun K hK => ?_
  refine st qI11 <| st qI11 <| st qI11 <| st qI12 <| nt (hK _ _ ?_)
  clear hK K
  refine rg fun K hK => ?_
  refine st (by exact SD.s rfl rfl rfl (by first | exact AStepD.val (AStepD.makeFunc rfl) (congrArg (AV.func _) (amap_cons qI1 (amap_cons qI1 (amap_cons qI1 amap_nil)))) | exact AStepD.makeFunc rfl)) <| st qI12 <| nt (hK _ _ ?_)
  clear hK K
  refine AW.ret (RetQ.mk (.inr rfl) (retA_tmp rfl qI1 retA_nil) ⟨rfl, rfl⟩)
theorem split_calls (H : AHeap) (l : List UInt8) : ACalls Tryz.prog 104 [strA l, strA [32]] H (fun r H' => r = .func (.func 149) [.ptr (H.next + 1) 0, .ptr H.next 0, .ptr (H.next + 2) 0] ∧ H' = splitH H l) := by
  refine ACalls.of_body tok Tryz.func104 rfl Tryz.ntmps104 (Nat.le_of_ble_eq_true rfl) (fun base => ?_)
  refine rg fun K hK => ?_
  refine st qI12 <| nt (hK _ _ ?_)
  clear hK K
  refine AW.seq_region (fun K hK => ?_)
  refine AL.step rfl rfl rfl qI8 ?_
  refine AL.step rfl rfl rfl qI8 ?_
  refine AL.call rfl rfl rfl (AStep.callf rfl en123 (split0_calls H l)) ?_
  rintro y H1 ⟨rfl, rfl⟩
  refine AL.step rfl rfl rfl qI7 ?_
  refine AL.nil_then (hK _ _ ?_); clear hK K
  refine AW.ret (RetQ.mk (.inr rfl) (retA_tmp rfl qI1 retA_nil) ⟨rfl, rfl⟩)

def cutB (b : UInt8) (l : List UInt8) : List UInt8 × List UInt8 × Bool :=
  if Lib.indexByte l b < 0 then (l, [], false) else (l.take (Lib.indexByte l b).toNat, l.drop ((Lib.indexByte l b).toNat + 1), true)
theorem str_take (l : List UInt8) (n : Nat) : (str l).extract 0 n = str (l.take n) := by
  apply ByteArray.ext
  simp [str]
theorem str_drop (l : List UInt8) (n : Nat) : (str l).extract n (str l).size = str (l.drop n) := by
  apply ByteArray.ext
  simp only [str, ByteArray.size]
  simp
  exact List.take_of_length_le (by simp)
theorem strA_to {P : Program} {o : Oper} {T : Fr} {H : AHeap} {TT : Nat → TI} (hT : TOk P TT) {t : TypeId} {x h : Operand} {l : List UInt8} {n : Nat} {k : IntKind} (ho : o.op = .slice t x none (some h) none) (hx : aev T x = strA l) (hok : (TT t).ok = true) (hu : (TT t).und = .string) (hh : aev T h = .v (.int k (n : Nat))) (hn : n ≤ l.length) : AStepD P o T H (strA (l.take n)) H :=
  AStepD.val (AStepD.slice_str' (l := 0) (h := n) hT ho hx hok hu rfl hh rfl rfl (Nat.zero_le _) (by rw [str_size]; exact hn)) (by rw [str_take])
theorem strA_from {P : Program} {o : Oper} {T : Fr} {H : AHeap} {TT : Nat → TI} (hT : TOk P TT) {t : TypeId} {x h : Operand} {l : List UInt8} {n : Nat} {k : IntKind} (ho : o.op = .slice t x (some h) none none) (hx : aev T x = strA l) (hok : (TT t).ok = true) (hu : (TT t).und = .string) (hh : aev T h = .v (.int k (n : Nat))) (hn : n ≤ l.length) : AStepD P o T H (strA (l.drop n)) H :=
  AStepD.val (AStepD.slice_str' (l := n) (h := (str l).size) hT ho hx hok hu hh rfl rfl rfl (by rw [str_size]; exact hn) (Nat.le_refl _)) (by rw [str_drop])

theorem cut1_calls (H : AHeap) (l : List UInt8) (b : UInt8) (hl : l.length ≤ 1000000) : ACalls Tryz.prog 102 [strA l, strA [b]] H (fun r H' => r = .tup [strA (cutB b l).1, strA (cutB b l).2.1, .v (.bool (cutB b l).2.2)] ∧ H' = H) := by
  refine ACalls.quiet_keep ?_ (.tup (by simp only [List.forall_mem_cons]; exact ⟨.v _, .v _, .v _, fun _ h => absurd h List.not_mem_nil⟩))
  refine ACalls.of_body tok Tryz.func102 rfl Tryz.ntmps102 (Nat.le_of_ble_eq_true rfl) (fun base => ?_)
  refine rg fun K hK => ?_
  refine st qI12 <| st qI12 <| st qI12 <| nt (hK _ _ ?_)
  clear hK K
  refine AW.seq_k (fun K1 hK1 => ?_)
  refine rg fun K hK => ?_
  refine st qI13 <| st qI13 <| st (by exact SD.s rfl rfl rfl (by exact AStepD.callf rfl en120 rfl (index1_calls _ l b))) <| st qI12 <| nt (hK _ _ ?_)
  clear hK K
  refine rg fun K hK => ?_
  refine st qI13 <| st (by exact SD.s rfl rfl rfl (by exact AStepD.geq rfl rfl rfl)) <| nt (hK _ _ ?_)
  clear hK K
  refine AW.cond _ rfl (fun hc => ?_) (fun hc => ?_)
  · (try simp only [Bool.or_eq_true, Bool.and_eq_true, Bool.or_eq_false_iff, Bool.and_eq_false_iff, Bool.not_eq_true', Bool.not_eq_false', decide_eq_true_eq, decide_eq_false_iff_not, Int.not_lt, Int.not_le] at hc)
    obtain ⟨o, ho⟩ := Int.eq_ofNat_of_zero_le (show 0 ≤ Lib.indexByte l b by simpa using hc)
    have hol := (split_some ho).1
    have hcut : cutB b l = (l.take o, l.drop (o + 1), true) := by rw [cutB, ho, if_neg (by omega)]; rfl
    simp only [ho]
    refine AW.seq_k (fun K hK => ?_)
    apply AW.draw mixed [_, _, _, _, _, _, _, _, _, _, _, _] [] [_] [(0, 0), (1, 0), (2, 0), (3, 0), (4, 0), (5, 0), (6, 0), (7, 0), (8, 0), (9, 0), (10, 0), (11, 0)] rfl rfl rfl (by simp only [List.getD_cons_zero, List.getD_cons_succ]; all_goals apply Eq.refl)
    · refine ⟨?_, ?_, ?_, ?_, ?_, ?_, ?_, ?_, ?_, ?_, ?_, ?_⟩
      · refine Ob.mk _ [0] 0 rfl rfl (restr_cons qI1 restr_nil) rfl ?_
        simp only [List.getD_cons_zero, List.getD_cons_succ]
        exact GStep.plain rfl qI8
      · refine Ob.mk _ [7] 0 rfl rfl (restr_cons qI1 restr_nil) rfl ?_
        simp only [List.getD_cons_zero, List.getD_cons_succ]
        exact GStep.plain rfl qI8
      · refine Ob.mk _ [13, 14] 0 rfl rfl (restr_cons qI1 (restr_cons qI1 restr_nil)) rfl ?_
        simp only [List.getD_cons_zero, List.getD_cons_succ]
        exact GStep.plain rfl (by exact strA_to tok rfl rfl rfl rfl rfl (by omega))
      · refine Ob.mk _ [0] 0 rfl rfl (restr_cons qI1 restr_nil) rfl ?_
        simp only [List.getD_cons_zero, List.getD_cons_succ]
        exact GStep.plain rfl qI8
      · refine Ob.mk _ [7] 0 rfl rfl (restr_cons qI1 restr_nil) rfl ?_
        simp only [List.getD_cons_zero, List.getD_cons_succ]
        exact GStep.plain rfl qI8
      · refine Ob.mk _ [1] 0 rfl rfl (restr_cons qI1 restr_nil) rfl ?_
        simp only [List.getD_cons_zero, List.getD_cons_succ]
        exact GStep.plain rfl qI8
      · refine Ob.mk _ [18] 0 rfl rfl (restr_cons qI1 restr_nil) rfl ?_
        simp only [List.getD_cons_zero, List.getD_cons_succ]
        exact GStep.plain rfl qI9
      · refine Ob.mk _ [17, 19] 0 rfl rfl (restr_cons qI1 (restr_cons qI1 restr_nil)) rfl ?_
        simp only [List.getD_cons_zero, List.getD_cons_succ]
        exact GStep.plain rfl (by exact AStepD.add (r := ((o + 1 : Nat) : Int)) rfl rfl rfl (by show IntKind.i64.wrap ((o : Int) + 1) = _; exact IntWalk.i64_in _ (by omega)))
      · refine Ob.mk _ [16, 20] 0 rfl rfl (restr_cons qI1 (restr_cons qI1 restr_nil)) rfl ?_
        simp only [List.getD_cons_zero, List.getD_cons_succ]
        exact GStep.plain rfl (by exact strA_from (n := o + 1) tok rfl rfl rfl rfl rfl (by omega))
      · refine Ob.mk _ [15] 0 rfl rfl (restr_cons qI1 restr_nil) rfl ?_
        simp only [List.getD_cons_zero, List.getD_cons_succ]
        exact GStep.plain rfl qI7
      · refine Ob.mk _ [21] 0 rfl rfl (restr_cons qI1 restr_nil) rfl ?_
        simp only [List.getD_cons_zero, List.getD_cons_succ]
        exact GStep.plain rfl qI7
      · refine Ob.mk _ [] 0 rfl rfl restr_nil rfl ?_
        simp only [List.getD_cons_zero, List.getD_cons_succ]
        exact GStep.plain rfl qI7
    refine hK _ _ ?_; clear hK K
    refine AW.frame (by simp only [frameAt, putA]; all_goals exact rfl) (by simp only [List.length_cons, List.length_nil, Nat.zero_add, Nat.reduceAdd, List.getD_cons_zero, List.getD_cons_succ]; all_goals apply Eq.refl) ?_
    refine AW.ret (RetQ.mk (.inr rfl) (retA_tmp rfl qI1 (retA_tmp rfl qI1 (retA_tmp rfl qI1 retA_nil))) ⟨?_, qI4⟩)
    rw [hcut]; rfl
  · (try simp only [Bool.or_eq_true, Bool.and_eq_true, Bool.or_eq_false_iff, Bool.and_eq_false_iff, Bool.not_eq_true', Bool.not_eq_false', decide_eq_true_eq, decide_eq_false_iff_not, Int.not_lt, Int.not_le] at hc)
    have hcut : cutB b l = (l, [], false) := by rw [cutB, if_pos (by simpa using hc)]
    refine AW.skip ?_
    refine hK1 _ _ ?_; try clear hK1 K1
    refine rg fun K hK => ?_
    refine st qI13 <| st qI12 <| st qI12 <| st qI12 <| nt (hK _ _ ?_)
    clear hK K
    refine AW.ret (RetQ.mk (.inr rfl) (retA_tmp rfl qI1 (retA_tmp rfl qI1 (retA_tmp rfl qI1 retA_nil))) ⟨?_, qI4⟩)
    rw [hcut]; rfl
theorem cut_calls (H : AHeap) (l : List UInt8) (b : UInt8) (hl : l.length ≤ 1000000) : ACalls Tryz.prog 75 [strA l, strA [b]] H (fun r H' => r = .tup [strA (cutB b l).1, strA (cutB b l).2.1, .v (.bool (cutB b l).2.2)] ∧ H' = H) := by
  refine ACalls.quiet_keep ?_ (.tup (by simp only [List.forall_mem_cons]; exact ⟨.v _, .v _, .v _, fun _ h => absurd h List.not_mem_nil⟩))
  refine ACalls.of_body tok Tryz.func75 rfl Tryz.ntmps75 (Nat.le_of_ble_eq_true rfl) (fun base => ?_)
  refine rg fun K hK => ?_
  refine st qI12 <| st qI12 <| st qI12 <| nt (hK _ _ ?_)
  clear hK K
  refine rg fun K hK => ?_
  refine st qI13 <| st qI13 <| st (by exact SD.s rfl rfl rfl (by exact AStepD.callf rfl en102 rfl (cut1_calls _ l b hl))) <| st qI10 <| st qI10 <| st qI10 <| st qI12 <| st qI12 <| st qI12 <| nt (hK _ _ ?_)
  clear hK K
  exact AW.ret (RetQ.mk (.inr rfl) (retA_tmp rfl qI1 (retA_tmp rfl qI1 (retA_tmp rfl qI1 retA_nil))) ⟨rfl, qI4⟩)
end Go.Proofs.YtcomjodfkcnjhaaGreatDoor

/- The iterator over a text's parts. -/

namespace Go.Proofs.YtcomjodfkcnjhaaGreatDoor
open Go.Ax
open Cel (c)
theorem qJ1 {p : Prop} (h : p := by first | omega | (simp only [za, zb, zc, zd]; omega)) : p := h
theorem qJ2 {p : Prop} (h : p := by first | with_reducible assumption | exact rfl) : p := h
theorem qJ3 {p : Prop} (h : p := by first | exact IsSl.vec | exact IsSl.sl | exact IsSl.slc | exact IsSl.nil | with_reducible assumption) : p := h
theorem qJ5 {p : Prop} (h : p := by first | exact AStepD.eql rfl rfl rfl | exact AStepD.str_eql rfl rfl rfl | exact (AStepD.ptr_nil tok (.inl ⟨_, _, rfl⟩) rfl rfl rfl).1 rfl | exact (AStepD.nil_nil tok rfl rfl rfl rfl).1 rfl | exact (AStepD.bool_eq tok rfl rfl rfl rfl).1 rfl | exact (AStepD.ptr_same tok rfl rfl rfl rfl rfl).1 rfl | exact (AStepD.iface_nil tok rfl rfl rfl rfl).1 rfl | exact (AStepD.nilIface_nil tok rfl rfl rfl rfl).1 rfl) : p := h
theorem qJ6 {p : Prop} (h : p := by (conv => lhs; whnf); all_goals first | exact rfl | (simp; done) | (simp; omega)) : p := h
theorem qJ7 {p : Prop} (h : p := by (try simp only [za, zb, zc, zd, ne_eq]); omega) : p := h
theorem qJ8 {p : Prop} (h : p := by first | ((with_reducible refine over_all ?_); exact rfl) | (simp only [over, List.take_succ_cons, List.take_zero, List.drop_succ_cons, List.drop_zero, List.length_cons, List.length_nil, List.nil_append, List.cons_append, Nat.reduceAdd, Nat.zero_add, List.drop_nil, List.append_nil]; exact rfl) | conv => lhs; whnf) : p := h
theorem qJ9 {p : Prop} (h : p := by first | with_reducible assumption | (simp (disch := (first | omega | (exact Lst.lab_ne (by with_reducible assumption) qJ1) | (exact Lst.lab_new (by with_reducible assumption) qJ1) | (refine id ?_; simp only [za, zb, zc, zd]; done) | (simp only [za, zb, zc, zd]; omega))) only [z1, z2, z3, z4, z5, z6, z7, z8, z9, ne_eq, *]; done) | (simp (disch := (first | omega | (exact Lst.lab_ne (by with_reducible assumption) qJ1) | (exact Lst.lab_new (by with_reducible assumption) qJ1) | (refine id ?_; simp only [za, zb, zc, zd]; done) | (simp only [za, zb, zc, zd]; omega))) only [z1, z2, z3, z4, z5, z6, z7, z8, z9, ne_eq, *]; exact rfl)) : p := h
theorem qJ10 {p : Prop} (h : p := by first | exact AStepD.len_str tok rfl rfl rfl rfl | exact AStepD.len_sl tok rfl qI1 qJ3 rfl rfl | exact AStepD.len_arr tok rfl rfl rfl) : p := h
theorem qJ11 {p : Prop} (h : p := by repeat' (first | exact SubT.nil _ | refine SubT.cons_eq qJ6 ?_)) : p := h
theorem qJ12 {p : Prop} (h : p := by first | exact AStepD.load_one tok rfl rfl rfl rfl qJ9 rfl qJ2 | exact AStepD.load_one_ip tok rfl rfl rfl rfl rfl qJ2) : p := h
theorem qJ13 {p : Prop} (h : p := by exact SD.s rfl rfl rfl qJ10) : p := h
theorem qJ14 {p : Prop} (h : p := by exact AStepD.store' tok rfl rfl qJ9 qI1 (by first | exact one_cells (by with_reducible assumption) | exact qI1) qI3 rfl qI1 rfl (by first | exact Nat.le_of_ble_eq_true rfl | (simp; done) | (simp; omega) | (simp_all; omega)) qJ8) : p := h
theorem qJ15 {p : Prop} (h : p := by exact SD.s rfl rfl rfl qJ12) : p := h
set_option linter.unusedSimpArgs false
set_option linter.unusedVariables false
open Cel (c)

theorem split_seq (H : AHeap) (l : List UInt8) (hl : l.length ≤ 1000000) (X1 X2 X3 : Nat) (h1 : H.get X1 = some (.cells 9 [strA [32]])) (h2 : H.get X2 = some (.cells 9 [strA l])) (h3 : H.get X3 = some (.cells 3 [.v (.int .i64 0)]))
    (n1 : X1 < H.next) (n2 : X2 < H.next) (n3 : X3 < H.next) (n12 : X1 ≠ X2) (n32 : X3 ≠ X2) : ASeq Tryz.prog 149 [.ptr X1 0, .ptr X2 0, .ptr X3 0] ((splitB 32 l).map fun p => strA p) (fun q => q = X1 ∨ q = X2 ∨ q = X3) H := by
  refine ⟨fun q hq => by rcases hq with rfl | rfl | rfl <;> assumption, fun L J Jx H1 hL hpL hn hpr hJ hJx hY h0 => ?_⟩
  have g1 : H1.get X1 = some (.cells 9 [strA [32]]) := (hpr X1 (.inl rfl)).trans h1
  have g2 : H1.get X2 = some (.cells 9 [strA l]) := (hpr X2 (.inr (.inl rfl))).trans h2
  have g3 : H1.get X3 = some (.cells 3 [.v (.int .i64 0)]) := (hpr X3 (.inr (.inr rfl))).trans h3
  have m1 : X1 < H1.next := by omega
  have m2 : X2 < H1.next := by omega
  have m3 : X3 < H1.next := by omega
  clear h1 h2 h3 n1 n2 n3 hpr hn
  have hlen : ((splitB 32 l).map fun p => strA p).length = (splitB 32 l).length := by simp
  rw [hlen]
  have hY' : ∀ i H3 (hi : i < (splitB 32 l).length), J i H3 → H1.next ≤ H3.next → AYields Tryz.prog L (strA (splitB 32 l)[i]) H3 fun r H' => Held (fun q => q = X1 ∨ q = X2 ∨ q = X3) H3 H' ∧ ((r = .v (.bool true) ∧ J (i + 1) H') ∨ (r = .v (.bool false) ∧ Jx H')) := fun i H3 hi h1 h2 => by
    have := hY i H3 (by rw [hlen]; exact hi) h1 h2
    simpa using this
  generalize hps : splitB 32 l = ps at hY' ⊢
  refine ACalls.of_body tok Tryz.func149 rfl Tryz.ntmps149 (Nat.le_of_ble_eq_true rfl) (fun base => ?_)
  refine AW.seq_k (fun K1 hK1 => ?_)
  refine rg fun K hK => ?_
  refine st qJ15 <| st qJ13 <| st (by exact SD.s rfl rfl rfl qJ5) <| nt (hK _ _ ?_)
  clear hK K
  refine AW.cond_false rfl rfl (AW.skip ?_)
  refine hK1 _ _ ?_; try clear hK1 K1
  refine AW.seq_k (fun K5 hK5 => ?_)
  refine AW.block ?_
  refine AW.loop_at (ι := Nat × List UInt8) (fun _ => [(3, .ptr X3 0), (2, .ptr X2 0), (1, .ptr X1 0), (0, .yld L)])
    (fun x H' => ps.drop x.1 = splitB 32 x.2 ∧ x.2.length ≤ 1000000 ∧ J x.1 H' ∧ H1.next ≤ H'.next ∧ H'.get X1 = some (.cells 9 [strA [32]]) ∧ H'.get X2 = some (.cells 9 [strA x.2]) ∧ H'.get X3 = some (.cells 3 [.v (.int .i64 0)])) (fun x => x.2.length) (0, l) qJ11 ⟨hps.symm ▸ rfl, hl, h0, Nat.le_refl _, g1, g2, g3⟩ ?_
  rintro ⟨i, r⟩ H2 ⟨hdr, hrl, hj, hn2, e1, e2, e3⟩
  dsimp only at hdr hrl hj hn2 e1 e2 e3 ⊢
  have hi : i < ps.length := by
    rcases Nat.lt_or_ge i ps.length with h | h
    · exact h
    · rw [List.drop_eq_nil_of_le h] at hdr
      exact absurd hdr.symm (splitB_ne 32 r)
  refine AW.block ?_
  refine rg fun K hK => ?_
  refine st qJ15 <| st qJ15 <| st (by exact SD.s rfl rfl rfl (by exact AStepD.callf rfl en100 rfl (index_calls _ r 32))) <| st qI12 <| nt (hK _ _ ?_)
  clear hK K
  refine AW.seq_k (fun K6 hK6 => ?_)
  refine rg fun K hK => ?_
  refine st qI13 <| st (by exact SD.s rfl rfl rfl (by exact AStepD.lss rfl rfl rfl)) <| nt (hK _ _ ?_)
  clear hK K
  refine AW.cond _ rfl (fun hc => ?_) (fun hc => ?_)
  · have hno := split_none 32 r (index_none (by simpa using hc))
    rw [hno, List.drop_eq_getElem_cons hi, List.cons.injEq] at hdr
    have hlast : ps.length = i + 1 := by
      have := congrArg List.length hdr.2
      rw [List.length_drop, List.length_nil] at this
      omega
    refine AW.exit ?_
    refine hK5 _ _ ?_; try clear hK5 K5
    obtain ⟨hd1, hd2⟩ := hdr
    subst hd1
    refine AW.region ?_
    refine AL.step rfl rfl rfl qI8 ?_
    refine AL.step rfl rfl rfl qJ12 ?_
    refine AL.call rfl rfl rfl (AStep.yield rfl rfl (hY' i _ hi hj qJ7)) ?_
    rintro _ H3 ⟨hheld, ⟨rfl, hj3⟩ | ⟨rfl, hj3⟩⟩
    · refine AL.nil ?_
      exact RetQ.mk (.inl rfl) retA_nil (.inl (hlast ▸ hj3))
    · refine AL.nil ?_
      exact RetQ.mk (.inl rfl) retA_nil (.inr hj3)
  · (try simp only [Bool.or_eq_true, Bool.and_eq_true, Bool.or_eq_false_iff, Bool.and_eq_false_iff, Bool.not_eq_true', Bool.not_eq_false', decide_eq_true_eq, decide_eq_false_iff_not, Int.not_lt, Int.not_le] at hc)
    obtain ⟨o, ho⟩ := Int.eq_ofNat_of_zero_le (show 0 ≤ Lib.indexByte r 32 by simpa using hc)
    obtain ⟨hol, hsp⟩ := split_some ho
    rw [hsp, List.drop_eq_getElem_cons hi, List.cons.injEq] at hdr
    simp only [ho]
    refine AW.skip ?_
    refine hK6 _ _ ?_; try clear hK6 K6
    refine rg fun K hK => ?_
    refine st qJ15 <| st qI13 <| st qJ15 <| st (by exact SD.s rfl rfl rfl (by first | exact AStepD.add rfl rfl rfl (by first | exact IntWalk.i64_in _ (by omega) | exact IntWalk.i64_in _ (by simp only [Bool.or_eq_true, Bool.and_eq_true, Bool.or_eq_false_iff, Bool.and_eq_false_iff, Bool.not_eq_true', Bool.not_eq_false', decide_eq_true_eq, decide_eq_false_iff_not, Int.not_lt, Int.not_le, beq_iff_eq] at *; omega) | exact rfl) | exact AStepD.str_add rfl rfl rfl (by omega))) <| st (by exact SD.s rfl rfl rfl (by exact strA_to (n := o) tok rfl rfl rfl rfl rfl (by omega))) <| st qI12 <| nt (hK _ _ ?_)
    clear hK K
    refine AW.seq_k (fun K7 hK7 => ?_)
    refine AW.seq_region (fun K hK => ?_)
    refine AL.step rfl rfl rfl qI8 ?_
    refine AL.step rfl rfl rfl qI8 ?_
    rw [← hdr.1]
    refine AL.call rfl rfl rfl (AStep.yield rfl rfl (hY' i _ hi hj qJ7)) ?_
    rintro _ H3 ⟨hheld, ⟨rfl, hj3⟩ | ⟨rfl, hj3⟩⟩
    · have f1 := hheld.1 X1 (.inl rfl) (by omega)
      have f2 := hheld.1 X2 (.inr (.inl rfl)) (by omega)
      have f3 := hheld.1 X3 (.inr (.inr rfl)) (by omega)
      have f4 := hheld.2
      rw [e1] at f1
      rw [e2] at f2
      rw [e3] at f3
      refine AL.step rfl rfl rfl (by first | exact AStepD.not rfl rfl | exact AStepD.neg rfl rfl (by first | exact IntWalk.i64_in _ (by omega) | exact IntWalk.i64_in _ (by simp only [Bool.or_eq_true, Bool.and_eq_true, Bool.or_eq_false_iff, Bool.and_eq_false_iff, Bool.not_eq_true', Bool.not_eq_false', decide_eq_true_eq, decide_eq_false_iff_not, Int.not_lt, Int.not_le, beq_iff_eq] at *; omega) | exact rfl)) ?_
      refine AL.nil_then (hK _ _ ?_); clear hK K
      refine AW.cond_false rfl rfl (AW.skip ?_)
      refine hK7 _ _ ?_; clear hK7 K7
      refine AW.region ?_
      refine st qJ15 <| st qI13 <| st qJ15 <| st qJ13 <| st (by exact SD.s rfl rfl rfl (by exact AStepD.add (r := ((o + 1 : Nat) : Int)) rfl rfl rfl (by show IntKind.i64.wrap ((o : Int) + 1) = _; exact IntWalk.i64_in _ (by omega)))) <| st (by exact SD.s rfl rfl rfl (by exact strA_from (n := o + 1) tok rfl rfl rfl rfl rfl (by omega))) <| st0 (by exact ⟨rfl, rfl, qJ14⟩) <| AL.nil ?_
      refine ⟨(i + 1, r.drop (o + 1)), by show (r.drop (o + 1)).length < r.length; rw [List.length_drop]; omega, qJ11, hdr.2, by show (r.drop (o + 1)).length ≤ _; rw [List.length_drop]; omega, hJ _ _ _ hj3 ⟨fun q hq hnp => AHeap.get_set_ne _ _ (fun e => hnp (.inr (.inl e))), Nat.le_refl _⟩, qJ7, qJ9, qJ9, qJ9⟩
    · refine AL.step rfl rfl rfl (by first | exact AStepD.not rfl rfl | exact AStepD.neg rfl rfl (by first | exact IntWalk.i64_in _ (by omega) | exact IntWalk.i64_in _ (by simp only [Bool.or_eq_true, Bool.and_eq_true, Bool.or_eq_false_iff, Bool.and_eq_false_iff, Bool.not_eq_true', Bool.not_eq_false', decide_eq_true_eq, decide_eq_false_iff_not, Int.not_lt, Int.not_le, beq_iff_eq] at *; omega) | exact rfl)) ?_
      refine AL.nil_then (hK _ _ ?_); clear hK K
      refine AW.cond_true rfl rfl ?_
      refine AW.ret (RetQ.mk (.inr rfl) retA_nil (.inr hj3))
end Go.Proofs.YtcomjodfkcnjhaaGreatDoor

/- Atoi. -/

namespace Go.Proofs.YtcomjodfkcnjhaaGreatDoor
open Go.Ax
open Cel (c)
set_option linter.unusedSimpArgs false
set_option linter.unusedVariables false
open Cel (c)

def atoiV (l : List UInt8) : Int := match Lib.atoiAll l with | .ok v => v | .range => Lib.atoiSat l | _ => 0
def atoiB (l : List UInt8) : Bool := match Lib.atoiAll l with | .ok _ => false | _ => true
def atoiE (l : List UInt8) : AV := match Lib.atoiAll l with | .ok _ => .v .nilIface | _ => .iface 176 .any

theorem atoi_calls (H : AHeap) (l : List UInt8) (hl : l.length ≤ 1000000) : ACalls Tryz.prog 103 [strA l] H (fun r H' => r = .tup [.v (.int .i64 (atoiV l)), atoiE l] ∧ H' = H) := by
  refine ACalls.of_below fun ρ I w vs hc ha => ?_
  obtain ⟨v, rfl⟩ : ∃ v, vs = [v] := by
    have := ha.1
    match vs, this with
    | [v], _ => exact ⟨v, rfl⟩
  have hv := cv_v (ha.2 0 _ _ rfl rfl)
  subst hv
  have hsz := str_size l
  have htab : ∀ g, tabs g = some [.iface 198 .any] → ∃ p, w.cell? ⟨g, 0, none⟩ = some (.iface 198 p) := by
    intro g hg
    obtain ⟨arr, h1, h2, h3⟩ := hc.glob g _ hg
    obtain ⟨t, fz, h4⟩ := hc.imm _ _ h1
    have h0 : 0 < arr.size := by simpa using Nat.lt_of_lt_of_eq (Nat.zero_lt_one) h2.symm
    have hu := h3 0 _ _ rfl (List.getElem?_eq_getElem (by simpa using h0))
    cases hg2 : arr.toList[0]'(by simpa using h0) with
    | iface t' p =>
      rw [hg2] at hu
      cases hu with
      | iface _ =>
        refine ⟨p, ?_⟩
        rw [World.cell?]
        simp only [h4]
        have : arr[0] = .iface 198 p := by simpa using hg2
        simp [this, h0]
    | _ => rw [hg2] at hu; cases hu
  have hcv : ∀ (x : Value) (a : AV) (n : Int), CV ρ I a x → CV ρ I (.tup [.v (.int .i64 n), a]) (.tuple #[.int .i64 n, x]) := fun x a n hx =>
    CV.tup (vs := [.int .i64 n, x]) rfl fun i b u hb hu => by
      match i, hb, hu with
      | 0, hb, hu => cases hb; cases hu; exact .v _
      | 1, hb, hu => cases hb; cases hu; exact hx
  rcases hat : Lib.atoiAll l with v | _ | _
  · skip
    have := Any.strconv_Atoi_ok laysC172 (str l) (by omega) v (by rw [str_list]; exact hat) w
    refine this.mono fun e w' ⟨he, hw⟩ => ⟨_, he, ?_, ?_⟩
    · rw [atoiV, atoiE, hat]
      exact hcv _ _ _ (.v _)
    · rcases hw with rfl | ⟨t, rfl⟩
      · exact .refl _ _
      · exact Lib.bytesWorld_below _ _ _
  · skip
    obtain ⟨p, hp⟩ := htab 5 rfl
    have := Any.strconv_Atoi_syntax laysC172 (str l) (by omega) (by rw [str_list]; exact hat) _ w hp (.inr ⟨_, _, rfl⟩)
    refine this.mono fun e w' ⟨N, he, _, _, hw⟩ => ⟨_, he, ?_, hw⟩
    rw [atoiV, atoiE, hat]
    exact hcv _ _ _ (.iface (.any _))
  · skip
    obtain ⟨p, hp⟩ := htab 6 rfl
    have := Any.strconv_Atoi_range laysC172 (str l) (by omega) (by rw [str_list]; exact hat) _ w hp (.inr ⟨_, _, rfl⟩)
    rw [str_list] at this
    refine this.mono fun e w' ⟨N, he, _, _, hw⟩ => ⟨_, he, ?_, hw⟩
    rw [atoiV, atoiE, hat]
    exact hcv _ _ _ (.iface (.any _))
theorem err_neq {o : Oper} {T : Fr} {H : AHeap} {t yt : TypeId} {x : Operand} {l : List UInt8} {ms : Array (String × TypeId)} (ho : o.op = .binOp .neq t x (.const .nilIface) yt) (hx : aev T x = atoiE l) (hok : (tt t).ok = true) (hu : (tt t).und = .interface ms) : AStepD Tryz.prog o T H (.v (.bool (atoiB l))) H := by
  rw [atoiE] at hx
  rw [atoiB]
  rcases hat : Lib.atoiAll l with v | _ | _
  · skip
    rw [hat] at hx
    exact (AStepD.nilIface_nil tok hx rfl hok hu).2 ho
  · skip
    rw [hat] at hx
    exact (AStepD.iface_nil tok hx rfl hok hu).2 ho
  · skip
    rw [hat] at hx
    exact (AStepD.iface_nil tok hx rfl hok hu).2 ho
end Go.Proofs.YtcomjodfkcnjhaaGreatDoor
