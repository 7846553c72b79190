/- Sets of slots: Has, Of, Share. -/
import Derived.Test.YtcomjodfkcnjhaaGreatDoorCT
import Derived.Test.YtcomjodfkcnjhaaGreatDoorCL
set_option linter.unusedSimpArgs false
set_option linter.unusedVariables false
namespace Go.Proofs.YtcomjodfkcnjhaaGreatDoor
open Go.Ax
open Cel (c)
theorem qA1 {p : Prop} (h : p := by (conv => lhs; whnf); all_goals exact rfl) : p := h
theorem qA2 {p : Prop} (h : p := by exact AStepD.lss rfl rfl rfl) : p := h
theorem qA3 {p : Prop} (h : p := by intro h; first | (rw [h]; done) | (rw [h]; rfl) | (simp [h]; done) | (simp_all; done) | exact guard_true h) : p := h
theorem qA4 {p : Prop} (h : p := by first | exact AStepD.bv_shr rfl rfl rfl | exact AStepD.shr rfl rfl rfl (by omega) rfl) : p := h
theorem qA5 {p : Prop} (h : p := by repeat' (first | exact Keep.refl _ | apply Keep.new | apply Keep.set | apply Keep.del | (first | omega | (simp only [za, zb, zc]; omega)))) : p := h
theorem qA6 {p : Prop} (h : p := by first | exact AStepD.eql rfl rfl rfl | exact AStepD.str_eql rfl rfl rfl | exact (AStepD.ptr_nil tok (.inl ⟨_, _, rfl⟩) rfl rfl rfl).1 rfl | exact (AStepD.nil_nil tok rfl rfl rfl rfl).1 rfl | exact (AStepD.bool_eq tok rfl rfl rfl rfl).1 rfl | exact (AStepD.ptr_same tok rfl rfl rfl rfl rfl).1 rfl | exact (AStepD.iface_nil tok rfl rfl rfl rfl).1 rfl | exact (AStepD.nilIface_nil tok rfl rfl rfl rfl).1 rfl) : p := h
theorem qA7 {p : Prop} (h : p := by exact AStepD.assign' rfl qA1) : p := h
theorem qA8 {p : Prop} (h : p := by exact AStepD.move' rfl qA1) : p := h
theorem qA9 {p : Prop} (h : p := by exact (fun hb => by (repeat (first | apply UW.yes rfl (gpf hb) | apply UW.no)); exact UW.nil qA2)) : p := h
theorem qA10 {p : Prop} (h : p := by exact (fun _ hb => by (repeat (first | apply UW.yes rfl (gpf hb) | apply UW.no)); exact UW.nil qA2)) : p := h
theorem qA11 {p : Prop} (h : p := by first | exact AStepD.pick_true' rfl rfl qA1 | exact AStepD.pick_false' rfl rfl qA1 | exact AStepD.and rfl _ _ _ rfl rfl qA3 rfl | exact AStepD.and' rfl _ _ rfl rfl rfl | exact AStepD.or rfl _ _ _ rfl rfl rfl qA3 | exact AStepD.or' rfl _ _ rfl rfl rfl) : p := h
theorem qA12 {p : Prop} (h : p := by exact (fun hb => by (repeat (first | apply UW.yes rfl (gpf hb) | apply UW.no)); exact UW.nil qA4)) : p := h
theorem qA13 {p : Prop} (h : p := by exact (fun _ hb => by (repeat (first | apply UW.yes rfl (gpf hb) | apply UW.no)); exact UW.nil qA4)) : p := h
theorem qA14 {p : Prop} (h : p := by first | exact GW.yes rfl rfl rfl rfl rfl rfl rfl qA6 | exact GW.no rfl rfl rfl rfl rfl rfl rfl | exact GW.none rfl rfl rfl rfl rfl | exact GW.may rfl rfl rfl rfl rfl rfl (fun hb => by (repeat (first | apply UW.yes rfl (gpf hb) | apply UW.no)); exact UW.nil qA6) | exact GW.may2 rfl rfl rfl rfl rfl rfl (fun _ hb => by (repeat (first | apply UW.yes rfl (gpf hb) | apply UW.no)); exact UW.nil qA6)) : p := h
theorem qA15 {p : Prop} (h : p := by exact SD.s rfl rfl rfl qA7) : p := h
theorem qA16 {p : Prop} (h : p := by exact SD.s rfl rfl rfl qA8) : p := h
theorem qA17 {p : Prop} (h : p := by exact (fun hb => by (repeat (first | apply UW.yes rfl (gpf hb) | apply UW.no)); exact UW.nil qA8)) : p := h
theorem qA18 {p : Prop} (h : p := by exact (fun _ hb => by (repeat (first | apply UW.yes rfl (gpf hb) | apply UW.no)); exact UW.nil qA8)) : p := h
theorem qA19 {p : Prop} (h : p := by first | exact GW.yes rfl rfl rfl rfl rfl rfl rfl qA2 | exact GW.no rfl rfl rfl rfl rfl rfl rfl | exact GW.none rfl rfl rfl rfl rfl | exact GW.may rfl rfl rfl rfl rfl rfl qA9 | exact GW.may2 rfl rfl rfl rfl rfl rfl qA10) : p := h
theorem qA20 {p : Prop} (h : p := by exact SD.s rfl rfl rfl qA11) : p := h
theorem qA21 {p : Prop} (h : p := by first | exact GW.yes rfl rfl rfl rfl rfl rfl rfl qA4 | exact GW.no rfl rfl rfl rfl rfl rfl rfl | exact GW.none rfl rfl rfl rfl rfl | exact GW.may rfl rfl rfl rfl rfl rfl qA12 | exact GW.may2 rfl rfl rfl rfl rfl rfl qA13) : p := h
theorem qA22 {p : Prop} (h : p := by first | exact GW.yes rfl rfl rfl rfl rfl rfl rfl qA8 | exact GW.no rfl rfl rfl rfl rfl rfl rfl | exact GW.none rfl rfl rfl rfl rfl | exact GW.may rfl rfl rfl rfl rfl rfl qA17 | exact GW.may2 rfl rfl rfl rfl rfl rfl qA18) : p := h
set_option linter.unusedSimpArgs false
set_option linter.unusedVariables false
open Cel (c)

def hasS (s : BitVec 64) (i : Int) : Bool := decide (0 ≤ i) && decide (i < 64) && s.getLsbD i.toNat
theorem has_calls (H : AHeap) (s : BitVec 64) (i : Int) : ACalls Tryz.prog 68 [u64A s, .v (.int .i64 i)] H (fun r H' => r = .v (.bool (hasS s i)) ∧ H' = H) := by
  refine ACalls.quiet_keep ?_ (.v _)
  by_cases h0 : 0 ≤ i
  · obtain ⟨n, rfl⟩ := Int.eq_ofNat_of_zero_le h0
    refine ACalls.of_body tok Tryz.func68 rfl Tryz.ntmps68 (Nat.le_of_ble_eq_true rfl) (fun base => ?_)
    refine rg fun K hK => ?_
    refine st qA15 <| nt (hK _ _ ?_)
    clear hK K
    refine rg fun K hK => ?_
    refine st qA16 <| st (by exact SD.s rfl rfl rfl (by exact AStepD.bool (AStepD.geq rfl rfl rfl) (c := true) (by simp))) <| st qA16 <| st (GW.p (l := [1]) qA22) <| st (GW.p (l := [8]) qA19) <| st qA20 <| st qA16 <| st (GW.p (l := [0]) qA22) <| st (GW.p (l := [1]) qA22) <| st (GW.p (l := [12, 13]) qA21) <| st (GW.p (l := [14]) (by first | exact GW.yes rfl rfl rfl rfl rfl rfl rfl (by first | exact AStepD.bv_and (b := 1#64) rfl rfl rfl | exact AStepD.bits rfl (by simp) rfl rfl rfl) | exact GW.no rfl rfl rfl rfl rfl rfl rfl | exact GW.none rfl rfl rfl rfl rfl | exact GW.may rfl rfl rfl rfl rfl rfl (fun hb => by (repeat (first | apply UW.yes rfl (gpf hb) | apply UW.no)); exact UW.nil (by first | exact AStepD.bv_and (b := 1#64) rfl rfl rfl | exact AStepD.bits rfl (by simp) rfl rfl rfl)) | exact GW.may2 rfl rfl rfl rfl rfl rfl (fun _ hb => by (repeat (first | apply UW.yes rfl (gpf hb) | apply UW.no)); exact UW.nil (by first | exact AStepD.bv_and (b := 1#64) rfl rfl rfl | exact AStepD.bits rfl (by simp) rfl rfl rfl)))) <| st (GW.p (l := [15]) (by first | exact GW.yes rfl rfl rfl rfl rfl rfl rfl (by exact AStepD.bool (AStepD.eql rfl rfl rfl) (bv_bit s n)) | exact GW.no rfl rfl rfl rfl rfl rfl rfl | exact GW.none rfl rfl rfl rfl rfl | exact GW.may rfl rfl rfl rfl rfl rfl (fun hb => by (repeat (first | apply UW.yes rfl (gpf hb) | apply UW.no)); exact UW.nil (by exact AStepD.bool (AStepD.eql rfl rfl rfl) (bv_bit s n))) | exact GW.may2 rfl rfl rfl rfl rfl rfl (fun _ hb => by (repeat (first | apply UW.yes rfl (gpf hb) | apply UW.no)); exact UW.nil (by exact AStepD.bool (AStepD.eql rfl rfl rfl) (bv_bit s n))))) <| st qA20 <| st qA15 <| nt (hK _ _ ?_)
    clear hK K
    refine AW.ret (RetQ.mk (.inr rfl) (retA_tmp rfl qA1 retA_nil) ⟨?_, qA5⟩)
    show AV.v (.bool _) = .v (.bool _)
    simp [hasS]
  · refine ACalls.of_body tok Tryz.func68 rfl Tryz.ntmps68 (Nat.le_of_ble_eq_true rfl) (fun base => ?_)
    refine rg fun K hK => ?_
    refine st qA15 <| nt (hK _ _ ?_)
    clear hK K
    refine rg fun K hK => ?_
    refine st qA16 <| st (by exact SD.s rfl rfl rfl (by exact AStepD.bool (AStepD.geq rfl rfl rfl) (c := false) (by simpa using h0))) <| st qA16 <| st (GW.p (l := [1]) qA22) <| st (GW.p (l := [8]) qA19) <| st qA20 <| st qA16 <| st (GW.p (l := [0]) qA22) <| st (GW.p (l := [1]) qA22) <| st (GW.p (l := [12, 13]) qA21) <| st (GW.p (l := [14]) (by first | exact GW.yes rfl rfl rfl rfl rfl rfl rfl (by first | exact AStepD.bv_and (b := 1#64) rfl rfl rfl | exact AStepD.bits rfl (by simp) rfl rfl rfl) | exact GW.no rfl rfl rfl rfl rfl rfl rfl | exact GW.none rfl rfl rfl rfl rfl | exact GW.may rfl rfl rfl rfl rfl rfl (fun hb => by (repeat (first | apply UW.yes rfl (gpf hb) | apply UW.no)); exact UW.nil (by first | exact AStepD.bv_and (b := 1#64) rfl rfl rfl | exact AStepD.bits rfl (by simp) rfl rfl rfl)) | exact GW.may2 rfl rfl rfl rfl rfl rfl (fun _ hb => by (repeat (first | apply UW.yes rfl (gpf hb) | apply UW.no)); exact UW.nil (by first | exact AStepD.bv_and (b := 1#64) rfl rfl rfl | exact AStepD.bits rfl (by simp) rfl rfl rfl)))) <| st (GW.p (l := [15]) qA14) <| st qA20 <| st qA15 <| nt (hK _ _ ?_)
    clear hK K
    refine AW.ret (RetQ.mk (.inr rfl) (retA_tmp rfl qA1 retA_nil) ⟨?_, qA5⟩)
    show AV.v (.bool _) = .v (.bool _)
    simp [hasS, h0]

instance : Cel Int := ⟨1, fun n => [.v (.int .i64 n)], fun _ => rfl, fun _ z hz => (by simp only [List.mem_singleton] at hz; subst hz; rfl), fun _ z hz => (by simp only [List.mem_singleton] at hz; subst hz; exact .v _)⟩

def rangeB (a b : Nat) : BitVec 64 := (List.range' a (b - a)).foldl (fun s i => s ||| (1#64 <<< i)) 0#64
theorem rangeB_next (a i : Nat) (h : a ≤ i) : rangeB a (i + 1) = rangeB a i ||| (1#64 <<< i) := by
  rw [rangeB, rangeB, show i + 1 - a = (i - a) + 1 by omega, List.range'_1_concat, List.foldl_append, show a + (i - a) = i by omega]; rfl
theorem rangeB_nil (a : Nat) : rangeB a a = 0#64 := by rw [rangeB, Nat.sub_self]; rfl
end Go.Proofs.YtcomjodfkcnjhaaGreatDoor

/- Sets of slots, plainly: their members, one by one. -/

namespace Go.Proofs.YtcomjodfkcnjhaaGreatDoor
open Go.Ax
open Cel (c)
set_option linter.unusedSimpArgs false

def memN (s : BitVec 64) : List Nat := (List.range 64).filter s.getLsbD
def memS (s : BitVec 64) : List Int := (memN s).map fun (n : Nat) => (n : Int)
theorem memS_zero : memS 0#64 = [] := by decide +kernel
theorem memS_length (s : BitVec 64) : (memS s).length ≤ 64 := by
  rw [memS, List.length_map, memN]
  exact Nat.le_trans (List.length_filter_le _ _) (by simp)
theorem filter_first {p q : Nat → Bool} {k n : Nat} (hk : k < n) (h1 : ∀ j, j < k → p j = false) (h2 : p k = true) (h3 : ∀ j, q j = (p j && decide (j ≠ k))) : (List.range n).filter p = k :: (List.range n).filter q := by
  have e : List.range n = List.range' 0 k ++ k :: List.range' (k + 1) (n - k - 1) := by
    rw [List.range_eq_range', show n = k + ((n - k - 1) + 1) by omega, ← List.range'_append_1, List.range'_succ]
    simp
  have z : ∀ j ∈ List.range' 0 k, p j = false := fun j hj => h1 j (by simp at hj; omega)
  have z1 : (List.range' 0 k).filter p = [] := List.filter_eq_nil_iff.2 fun j hj => by simp [z j hj]
  have z2 : (List.range' 0 k).filter q = [] := List.filter_eq_nil_iff.2 fun j hj => by simp [h3, z j hj]
  have z3 : (List.range' (k + 1) (n - k - 1)).filter p = (List.range' (k + 1) (n - k - 1)).filter q := List.filter_congr fun j hj => by
    simp at hj
    rw [h3, decide_eq_true (by omega), Bool.and_true]
  rw [e, List.filter_append, List.filter_append, z1, z2, List.nil_append, List.nil_append, List.filter_cons_of_pos h2, List.filter_cons_of_neg (by simp [h3]), z3]
theorem low (s : BitVec 64) (h : s ≠ 0#64) : ∃ k, k < 64 ∧ Lib.ctz 64 s.toNat = k ∧ (∀ j, j < k → s.getLsbD j = false) ∧ s.getLsbD k = true ∧ ∀ j, (s &&& (s - 1#64)).getLsbD j = (s.getLsbD j && decide (j ≠ k)) := by
  have h0 : s.toNat ≠ 0 := fun e => h (BitVec.eq_of_toNat_eq (by simpa using e))
  obtain ⟨m, hm, hk⟩ := Lib.ctzFrom_spec 64 s.toNat (by omega) s.isLt
  have e : Lib.ctz 64 s.toNat = Lib.ctzFrom 64 s.toNat := by simp [Lib.ctz, h0]
  rw [e]
  generalize Lib.ctzFrom 64 s.toNat = k at hm hk
  have hb : ∀ j, s.getLsbD j = (decide (j ≥ k) && (2 * m + 1).testBit (j - k)) := fun j => by
    rw [BitVec.getLsbD, hm, Nat.testBit_two_pow_mul]
  have hp : (s - 1#64).toNat = 2 ^ k * (2 * m) + (2 ^ k - 1) := by
    have := s.isLt
    have h2 : 0 < 2 ^ k := Nat.pow_pos (by omega)
    rw [BitVec.toNat_sub]
    have h3 : s.toNat = 2 ^ k * (2 * m) + 2 ^ k := by rw [hm, Nat.mul_add, Nat.mul_one]
    simp
    omega
  have hq : ∀ j, (s - 1#64).getLsbD j = if j < k then (2 ^ k - 1).testBit j else (2 * m).testBit (j - k) := fun j => by
    rw [BitVec.getLsbD, hp, Nat.testBit_two_pow_mul_add _ (by have : 0 < 2 ^ k := Nat.pow_pos (by omega); omega)]
  refine ⟨k, hk, rfl, fun j hj => ?_, ?_, fun j => ?_⟩
  · rw [hb, decide_eq_false (by omega), Bool.false_and]
  · rw [hb, decide_eq_true (by omega), Nat.sub_self]; simp
  · rw [BitVec.getLsbD_and, hq, hb]
    rcases Nat.lt_trichotomy j k with hj | rfl | hj
    · simp [show ¬ k ≤ j by omega]
    · simp
    · rw [if_neg (by omega), decide_eq_true (by omega : j ≠ k), decide_eq_true (by omega : j ≥ k)]
      obtain ⟨d, hd⟩ : ∃ d, j - k = d + 1 := ⟨j - k - 1, by omega⟩
      rw [hd, Nat.testBit_succ, Nat.testBit_succ, show (2 * m + 1) / 2 = m by omega, show 2 * m / 2 = m by omega]
      simp
theorem memS_low (s : BitVec 64) (h : s ≠ 0#64) : memS s = ((Lib.ctz 64 s.toNat : Nat) : Int) :: memS (s &&& (s - 1#64)) := by
  obtain ⟨k, hk, hc, h1, h2, h3⟩ := low s h
  rw [hc, memS, memN, filter_first hk h1 h2 h3]
  rfl
end Go.Proofs.YtcomjodfkcnjhaaGreatDoor

/- Sets of slots: List. -/

namespace Go.Proofs.YtcomjodfkcnjhaaGreatDoor
open Go.Ax
open Cel (c)
theorem qC1 {p : Prop} (h : p := by (conv => lhs; whnf); all_goals exact rfl) : p := h
theorem qC2 {p : Prop} (h : p := by (conv => lhs; whnf); all_goals first | exact rfl | (simp; done) | (simp; omega)) : p := h
theorem qC3 {p : Prop} (h : p := by first | omega | (simp; done) | (simp; omega) | (simp only [over, List.length_append, List.length_take, List.length_drop, *]; omega) | (simp_all; done) | (simp_all; omega)) : p := h
theorem qC4 {p : Prop} (h : p := by first | with_reducible assumption | exact Cel.one _ | exact flat_ones _ | exact ones_nil | (simp only [List.forall_mem_cons, List.not_mem_nil, false_implies, implies_true, and_true, one_v, one_ptr, one_ip, one_sl, one_slc, one_vec, one_map, one_func, one_iface, Value.oneCell', *]; done) | (simp [AV.one, Value.oneCell', *]; done)) : p := h
theorem qC5 {p : Prop} (h : p := by simp only [List.flatMap_cons, List.flatMap_nil, cells_v, cells_any, cells_ptr, cells_ip, cells_sl, cells_vec, cells_map, cells_func, cells_agg, cells_iface, List.cons_append, List.nil_append, List.append_nil]; all_goals exact rfl) : p := h
theorem qC6 {p : Prop} (h : p := by first | omega | (simp only [za, zb, zc, zd]; omega)) : p := h
theorem qC7 {p : Prop} (h : p := by (try simp only [za, zb, zc, zd, ne_eq]); omega) : p := h
theorem qC8 {p : Prop} (h : p := by first | exact Nat.le_of_ble_eq_true rfl | (simp; done) | (simp; omega) | (simp_all; omega)) : p := h
theorem qC9 {p : Prop} (h : p := by first | (simp only [Nat.zero_add, Nat.zero_mul, Nat.sub_zero, Nat.add_zero]; exact rfl) | exact rfl) : p := h
theorem qC10 {p : Prop} (h : p := by first | exact List.nil_append _ | exact rfl) : p := h
theorem qC11 {p : Prop} (h : p := by exact AStepD.assign' rfl qC1) : p := h
theorem qC12 {p : Prop} (h : p := by exact AStepD.move' rfl qC1) : p := h
theorem qC13 {p : Prop} (h : p := by repeat' (first | exact SubT.nil _ | refine SubT.cons_eq qC2 ?_)) : p := h
theorem qC14 {p : Prop} (h : p := by first | exact AStepD.buildSlice0 tok rfl rfl rfl rfl (show _ = 1 from rfl) | exact AStepD.buildSlice1 tok rfl rfl rfl rfl (show _ = 1 from rfl) qC1 qC1 qC3 (by decide) qC4 | exact AStepD.buildSlice_seq tok rfl rfl rfl rfl (show _ = 1 from rfl) (map_p qC1 map_n) rfl (by decide) (by decide) rfl qC5 qC4 | exact AStepD.buildSlice tok rfl rfl rfl rfl qC1 (by decide) (by decide) rfl qC4) : p := h
theorem qC15 {p : Prop} (h : p := by simp (disch := (first | omega | (exact Lst.lab_ne (by with_reducible assumption) qC6) | (exact Lst.lab_new (by with_reducible assumption) qC6) | (refine id ?_; simp only [za, zb, zc, zd]; done) | (simp only [za, zb, zc, zd]; omega))) only [z1, z2, z3, z4, z5, z6, z7, z8, z9, ne_eq]) : p := h
theorem qC16 {p : Prop} (h : p := by first | with_reducible assumption | (simp (disch := (first | omega | (exact Lst.lab_ne (by with_reducible assumption) qC6) | (exact Lst.lab_new (by with_reducible assumption) qC6) | (refine id ?_; simp only [za, zb, zc, zd]; done) | (simp only [za, zb, zc, zd]; omega))) only [z1, z2, z3, z4, z5, z6, z7, z8, z9, ne_eq, *]; done) | (simp (disch := (first | omega | (exact Lst.lab_ne (by with_reducible assumption) qC6) | (exact Lst.lab_new (by with_reducible assumption) qC6) | (refine id ?_; simp only [za, zb, zc, zd]; done) | (simp only [za, zb, zc, zd]; omega))) only [z1, z2, z3, z4, z5, z6, z7, z8, z9, ne_eq, *]; exact rfl)) : p := h
theorem qC17 {p : Prop} (h : p := by exact SD.s rfl rfl rfl qC11) : p := h
theorem qC18 {p : Prop} (h : p := by exact SD.s rfl rfl rfl qC12) : p := h
theorem qC19 {p : Prop} (h : p := by first | with_reducible assumption | exact (by assumption : ∀ o, Ax.Src _ _ _ _ _) _ | exact Ax.Src.vec | exact Ax.Src.nil | exact Ax.Src.all qC16 qC3 | exact Ax.Src.sl qC16 qC8) : p := h
set_option linter.unusedSimpArgs false
set_option linter.unusedVariables false
open Cel (c)

theorem tz_calls (H : AHeap) (s : BitVec 64) : ACalls Tryz.prog 65 [u64A s] H (fun r H' => r = .v (.int .i64 ((Lib.ctz 64 s.toNat : Nat) : Int)) ∧ H' = H) := by
  refine ACalls.of_below fun ρ I w vs hc ha => ?_
  obtain ⟨v, rfl⟩ : ∃ v, vs = [v] := by
    have := ha.1
    match vs, this with
    | [v], _ => exact ⟨v, rfl⟩
  have hv := cv_v (ha.2 0 _ _ rfl rfl)
  subst hv
  obtain ⟨arr, h1, h2, h3⟩ := hc.glob 0 _ rfl
  obtain ⟨t, fz, h4⟩ := hc.imm _ _ h1
  refine (Go.Proofs.Any7.bits_TrailingZeros64 lays7tz s.toNat s.isLt w fun _ j hj => ?_).mono fun e w' ⟨he, hw⟩ => ⟨_, he, .v _, hw ▸ .refl _ _⟩
  have e := (List.getElem?_eq_getElem (l := Lib.deBruijn64tab.map fun n => AV.v (.int .u8 (n : Nat))) (i := j) (by simpa using hj))
  have hja : j < arr.toList.length := by rw [h2]; simpa using hj
  have hu := cv_v (by
    have := h3 j _ _ e (List.getElem?_eq_getElem hja)
    rw [List.getElem_map] at this
    exact this)
  show w.cell? ⟨_, j, none⟩ = _
  rw [World.cell?]
  have h5 : w.heap[lays7tz_ren.g 1]? = _ := h4
  simp only [h5]
  have hja2 : j < arr.size := by simpa using hja
  rw [Array.getElem?_eq_getElem hja2]
  have hu2 : arr[j] = .int .u8 ((Lib.deBruijn64tab[j] : Nat) : Int) := by simpa using hu
  simp [hu2, hj]

theorem keep_delv {H H' H2 : AHeap} {α : Type} [Cel α] {t : TypeId} {b : Nat} {y : AV} {l : List α} (hy : Lst t b H2 y l) (hb : H.next ≤ b) (h : Keep H H') : Keep H (H'.delv y) :=
  ⟨by rw [zd]; exact h.1, fun q hq => (z9 H' (hy.lab_ne (Nat.lt_of_lt_of_le hq hb))).trans (h.2 q hq)⟩
theorem list_calls (H : AHeap) (s : BitVec 64) : ACalls Tryz.prog 27 [u64A s] H (fun r H' => r = vecA (memS s) ∧ H' = H) := by
  refine ACalls.quiet_keep ?_ (vecA_plain _)
  refine ACalls.lts fun hlt => ?_
  refine ACalls.of_body tok Tryz.func27 rfl Tryz.ntmps27 (Nat.le_of_ble_eq_true rfl) (fun base => ?_)
  refine rg fun K hK => ?_
  refine st qC17 <| nt (hK _ _ ?_)
  clear hK K
  refine rg fun K hK => ?_
  refine st qC17 <| nt (hK _ _ ?_)
  clear hK K
  refine AW.seq_k (fun K1 hK1 => ?_)
  refine rg fun K hK => ?_
  refine st qC18 <| st qC17 <| nt (hK _ _ ?_)
  clear hK K
  refine AW.block ?_
  refine AW.loop_at (ι := BitVec 64 × List Int × AV) (fun x => [(4, u64A x.1), (3, x.2.2)])
    (fun x H' => x.2.1 ++ memS x.1 = memS s ∧ Lst 3 H.next H' x.2.2 x.2.1 ∧ Keep H H') (fun x => (memS x.1).length) (s, [], .v (.slice none 0 0)) qC13 ⟨rfl, .nil, (by repeat' (first | exact Keep.refl _ | apply Keep.new | apply Keep.set | apply Keep.del | (first | omega | (simp only [za, zb, zc]; omega))))⟩ ?_
  rintro ⟨r, out, y⟩ H2 ⟨hout, hy, hk⟩
  dsimp only at hout hy ⊢
  have hkn := hk.1
  refine AW.lts fun hlt => ?_
  refine AW.seq_k (fun K2 hK2 => ?_)
  refine rg fun K hK => ?_
  refine st qC18 <| st (by exact SD.s rfl rfl rfl (by exact AStepD.bool (AStepD.neq (b := ((0#64).toNat : Nat)) rfl rfl rfl) (by simp only [ne_eq]; rw [decide_not, bv_eq, ← decide_not]))) <| nt (hK _ _ ?_)
  clear hK K
  refine AW.cond _ rfl (fun hc => ?_) (fun hc => ?_)
  · have hr : r ≠ 0#64 := by simpa using hc
    have hlow := memS_low r hr
    have hlen : out.length ≤ 64 := by
      have h1 := memS_length s
      rw [← hout, List.length_append] at h1
      omega
    have hy1 := hy.one
    refine AW.skip ?_
    refine hK2 _ _ ?_; try clear hK2 K2
    refine AW.seq_k (fun K3 hK3 => ?_)
    refine AW.block ?_
    refine AW.region ?_
    refine st qC18 <| st qC18 <| st (by exact SD.s rfl rfl rfl (by exact AStepD.callf rfl en65 rfl (tz_calls _ r))) <| st (by exact SD.s rfl rfl rfl qC14) <| st (by exact SD.s rfl rfl rfl (by first | exact AStepD.append_lst (bk := 64) tok rfl qC1 (by first | with_reducible assumption | exact Lst.keep (by with_reducible assumption) (fun D _ _ _ => qC15) qC7) rfl rfl rfl rfl rfl rfl (show _ = 1 from rfl) rfl rfl qC19 rfl qC3 qC4 qC3 qC3 qC9 qC10 | exact AStepD.append' (bk := 64) tok rfl rfl rfl rfl rfl rfl rfl rfl (show _ = 1 from rfl) rfl qC16 rfl qC3 qC19 qC3 qC4 qC3 qC3 qC9 qC10 | exact AStepD.append_nil' (bk := 64) tok rfl rfl rfl rfl rfl rfl rfl rfl (show _ = 1 from rfl) rfl qC19 qC3 qC3 qC3 qC3)) <| st qC17 <| AL.nil ?_
    refine hK3 _ _ ?_; try clear hK3 K3
    refine AW.region ?_
    refine st qC18 <| st qC18 <| st (by exact SD.s rfl rfl rfl (by exact AStepD.bv_pred rfl rfl rfl hr)) <| st (by exact SD.s rfl rfl rfl (by first | exact AStepD.bv_and rfl rfl rfl | exact AStepD.bits rfl (by simp) rfl rfl rfl)) <| st qC17 <| AL.nil ?_
    refine ⟨(r &&& (r - 1#64), out ++ [((Lib.ctz 64 r.toNat : Nat) : Int)], _), by show (memS _).length < (memS r).length; rw [hlow]; simp, qC13, ?_, Lst.mk qC7 qC7 qC16 (by rw [flat_append, flat_one]; rfl) (by rw [List.length_append]; rfl) rfl, keep_delv hy (Nat.le_refl _) (by repeat' (first | exact Keep.refl _ | with_reducible assumption | apply Keep.new | apply Keep.set | apply Keep.del | (first | omega | (simp only [za, zb, zc]; omega))))⟩
    show (out ++ [_]) ++ memS _ = memS s
    rw [List.append_assoc, ← hout, hlow]; rfl
  · have hr : r = 0#64 := by simpa using hc
    subst hr
    rw [memS_zero, List.append_nil] at hout
    subst hout
    refine AW.exit ?_
    refine hK1 _ _ ?_; try clear hK1 K1
    refine rg fun K hK => ?_
    refine st qC18 <| st qC17 <| nt (hK _ _ ?_)
    clear hK K
    refine AW.vecL (s := 2) hy rfl ?_
    refine AW.ret (RetQ.mk (.inr rfl) (retA_tmp rfl qC1 retA_nil) ⟨?_, ?_⟩)
    · rfl
    · exact keep_delv hy (Nat.le_refl _) hk
end Go.Proofs.YtcomjodfkcnjhaaGreatDoor

/- Texts of sets, plainly: the runs of a set, and their text. -/

namespace Go.Proofs.YtcomjodfkcnjhaaGreatDoor
open Go.Ax
open Cel (c)
set_option linter.unusedSimpArgs false

def str (l : List UInt8) : ByteArray := ⟨l.toArray⟩
theorem str_append (a b : List UInt8) : str a ++ str b = str (a ++ b) := by
  apply ByteArray.ext
  simp [str]
theorem str_list (l : List UInt8) : (str l).data.toList = l := by simp [str]
theorem str_inj {a b : List UInt8} : str a = str b ↔ a = b := ⟨fun h => by rw [← str_list a, h, str_list], fun h => by rw [h]⟩
theorem str_of (b : ByteArray) : b = str b.data.toList := by
  apply ByteArray.ext
  simp [str]
theorem str_size (l : List UInt8) : (str l).size = l.length := by simp [str, ByteArray.size]
abbrev strA (l : List UInt8) : AV := .v (.string (str l))
instance : Cel (List UInt8) := ⟨1, fun l => [strA l], fun _ => rfl, fun _ z hz => (by simp only [List.mem_singleton] at hz; subst hz; rfl), fun _ z hz => (by simp only [List.mem_singleton] at hz; subst hz; exact .v _)⟩

def segs (f : Nat → Bool) : Nat → List (Nat × Nat)
  | 0 => []
  | n + 1 => if f (63 - n) then
      match segs f n with
      | (a, b) :: t => if a = 64 - n then (63 - n, b) :: t else (63 - n, 63 - n) :: (a, b) :: t
      | [] => [(63 - n, 63 - n)]
    else segs f n
def Good : Nat → List (Nat × Nat) → Prop
  | _, [] => True
  | lo, (a, b) :: t => lo ≤ a ∧ a ≤ b ∧ b < 64 ∧ Good (b + 2) t
theorem Good.mono : ∀ {l : List (Nat × Nat)} {a b : Nat}, Good b l → a ≤ b → Good a l
  | [], _, _, _, _ => trivial
  | (_, _) :: _, _, _, h, hab => ⟨Nat.le_trans hab h.1, h.2⟩
theorem segs_good (f : Nat → Bool) : ∀ n, n ≤ 64 → Good (64 - n) (segs f n) ∧ ∀ a b t, segs f n = (a, b) :: t → f a = true
  | 0, _ => ⟨trivial, fun _ _ _ h => by cases h⟩
  | n + 1, hn => by
    obtain ⟨h1, h2⟩ := segs_good f n (by omega)
    rw [segs]
    by_cases hf : f (63 - n) = true
    · rw [if_pos hf]
      cases hs : segs f n with
      | nil => exact ⟨⟨by omega, by omega, by omega, trivial⟩, fun a b t h => by cases h; exact hf⟩
      | cons x t =>
        obtain ⟨a, b⟩ := x
        rw [hs] at h1
        obtain ⟨g1, g2, g3, g4⟩ := h1
        simp only
        split
        · exact ⟨⟨by omega, by omega, g3, g4⟩, fun a b t h => by cases h; exact hf⟩
        · exact ⟨⟨by omega, by omega, by omega, by omega, g2, g3, g4⟩, fun a b t h => by cases h; exact hf⟩
    · rw [if_neg hf]
      exact ⟨h1.mono (by omega), h2⟩
theorem segs_skip (f : Nat → Bool) {i : Nat} (hi : i < 64) (h : f i = false) : segs f (64 - i) = segs f (64 - (i + 1)) := by
  rw [show 64 - i = (63 - i) + 1 by omega, segs, show 63 - (63 - i) = i by omega, h, show 64 - (i + 1) = 63 - i by omega]
  simp
theorem segs_run (f : Nat → Bool) : ∀ (d i b : Nat), d = b - i → i ≤ b → b < 64 → (∀ j, i ≤ j → j ≤ b → f j = true) → f (b + 1) = false → segs f (64 - i) = (i, b) :: segs f (64 - (b + 1))
  | 0, i, b, hd, hib, hb, hr, hn => by
    obtain rfl : i = b := by omega
    rw [show 64 - i = (63 - i) + 1 by omega, segs, show 63 - (63 - i) = i by omega, if_pos (hr i (Nat.le_refl _) (Nat.le_refl _)), show 64 - (i + 1) = 63 - i by omega]
    cases hs : segs f (63 - i) with
    | nil => rfl
    | cons x t =>
      obtain ⟨a, b⟩ := x
      have ha := (segs_good f (63 - i) (by omega)).2 a b t hs
      simp only
      rw [if_neg]
      intro e
      rw [e, show 64 - (63 - i) = i + 1 by omega, hn] at ha
      cases ha
  | d + 1, i, b, hd, hib, hb, hr, hn => by
    have ih := segs_run f d (i + 1) b (by omega) (by omega) hb (fun j h1 h2 => hr j (by omega) h2) hn
    rw [show 64 - i = (63 - i) + 1 by omega, segs, show 63 - (63 - i) = i by omega, if_pos (hr i (Nat.le_refl _) hib)]
    rw [show 64 - (i + 1) = 63 - i by omega] at ih
    rw [ih]
    simp only
    rw [if_pos (by omega)]

def segT (x : Nat × Nat) : List UInt8 := if x.1 < x.2 then Lib.decDigits x.1 ++ (45 :: Lib.decDigits x.2) else Lib.decDigits x.1
def segsS (s : BitVec 64) : List (Nat × Nat) := segs s.getLsbD 64
def textS (s : BitVec 64) : List UInt8 := Lib.join ((segsS s).map segT) [32]
end Go.Proofs.YtcomjodfkcnjhaaGreatDoor
