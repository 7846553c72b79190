/- The lines of an administrator, plainly. -/
import Derived.Test.YtlkbckffeegikaaDoorCW4
import Derived.Lib.AtoiTie
import Derived.Lib.ItoaNum
set_option linter.unusedSimpArgs false
set_option linter.unusedVariables false
namespace Go.Proofs.YtlkbckffeegikaaDoor
open Go.Ax
open Cel (c)
set_option linter.unusedSimpArgs false
set_option linter.unusedVariables false

/-- A line that was read. -/
structure Ln where
  kind : Int
  id : Int
  set : BitVec 64
  key : List UInt8
deriving DecidableEq
instance : Cel Ln := ⟨4, fun l => [.v (.int .i64 l.kind), .v (.int .i64 l.id), u64A l.set, strA l.key], fun _ => rfl,
  fun _ z hz => (by simp only [List.mem_cons, List.not_mem_nil, or_false] at hz; rcases hz with rfl | rfl | rfl | rfl <;> rfl),
  fun _ z hz => (by simp only [List.mem_cons, List.not_mem_nil, or_false] at hz; rcases hz with rfl | rfl | rfl | rfl <;> exact .v _)⟩
def zL : Ln := ⟨0, 0, 0#64, []⟩
/-- A first word, its kind, and what stands behind it. -/
structure Wd where
  name : List UInt8
  kind : Nat
  args : Nat
deriving DecidableEq
instance : Cel Wd := ⟨3, fun w => [strA w.name, .v (.int .i64 (w.kind : Nat)), .v (.int .i64 (w.args : Nat))], fun _ => rfl,
  fun _ z hz => (by simp only [List.mem_cons, List.not_mem_nil, or_false] at hz; rcases hz with rfl | rfl | rfl <;> rfl),
  fun _ z hz => (by simp only [List.mem_cons, List.not_mem_nil, or_false] at hz; rcases hz with rfl | rfl | rfl <;> exact .v _)⟩
def wordsL : List Wd := [⟨[77, 69, 69, 84], 1, 1⟩, ⟨[70, 79, 82, 71, 69, 84], 2, 1⟩, ⟨[65, 68, 68, 83, 76, 79, 84, 83], 3, 2⟩, ⟨[68, 69, 76, 83, 76, 79, 84, 83], 4, 2⟩, ⟨[82, 69, 80, 76, 73, 67, 65, 84, 69], 5, 1⟩,
  ⟨[84, 65, 75, 69, 79, 86, 69, 82], 6, 0⟩, ⟨[66, 85, 77, 80], 7, 0⟩, ⟨[79, 70, 70, 83, 69, 84], 8, 1⟩, ⟨[82, 69, 83, 69, 84], 9, 0⟩, ⟨[75, 69, 89, 83, 76, 79, 84], 11, 3⟩, ⟨[77, 89, 73, 68], 12, 0⟩,
  ⟨[78, 79, 68, 69, 83], 13, 0⟩, ⟨[83, 76, 79, 84, 83], 14, 0⟩, ⟨[73, 78, 70, 79], 15, 0⟩, ⟨[67, 79, 85, 78, 84], 16, 1⟩]
/-- A letter made big. -/
def bigB (b : UInt8) : UInt8 := if 97 ≤ b.toNat ∧ b.toNat ≤ 122 then UInt8.ofNat (b.toNat - 32) else b
def bigL (l : List UInt8) : List UInt8 := l.map bigB
/-- What stands behind a first word, read; none if it is not what the word asks. -/
def argsO (k : Nat) (more : Bool) (rest : List UInt8) : Option (Int × BitVec 64 × List UInt8) :=
  if k = 0 then (if more then none else some (0, 0#64, []))
  else if k = 1 then (if more && !atoiB rest && decide (rest.length ≤ 15) && decide (Lib.itoa (atoiV rest) = rest) && decide (0 ≤ atoiV rest) then some (atoiV rest, 0#64, []) else none)
  else if k = 2 then (if more && (parseO rest).isSome && decide (parseS rest ≠ 0#64) then some (0, parseS rest, []) else none)
  else (if more then some (0, 0#64, rest) else none)
/-- A text as a line; none with its error. -/
def cmdO (l : List UInt8) : Ln × Int :=
  if 8192 < l.length then (zL, 12) else
  match wordsL.find? (fun w => decide (w.name = bigL (cutB 32 l).1)) with
  | none => (zL, 61)
  | some w => match argsO w.args (cutB 32 l).2.2 (cutB 32 l).2.1 with
    | none => (zL, 62)
    | some (i, s, k) => (⟨w.kind, i, s, k⟩, 0)
/-- A line as a text. -/
def argT (k : Nat) (l : Ln) : List UInt8 := if k = 1 then 32 :: Lib.itoa l.id else if k = 2 then 32 :: textS l.set else if k = 3 then 32 :: l.key else []
def txtT (l : Ln) : Option (List UInt8) := (wordsL.find? fun w => decide ((w.kind : Int) = l.kind)).map fun w => w.name ++ argT w.args l
def txtO (l : Ln) : Option (List UInt8) := match txtT l with
  | none => none
  | some t => if cmdO t = (l, 0) then some t else none
end Go.Proofs.YtlkbckffeegikaaDoor

/- Numbers in a line, plainly: the reference's number is the program's. -/

namespace Go.Proofs.YtlkbckffeegikaaDoor
open Go.Ax
open Cel (c)
set_option linter.unusedSimpArgs false
set_option linter.unusedVariables false

def isD (b : UInt8) : Bool := decide (48 ≤ b.toNat) && decide (b.toNat ≤ 57)
def valF (acc : Nat) : List UInt8 → Nat
  | [] => acc
  | b :: r => valF (10 * acc + (b.toNat - 48)) r
theorem valF_snoc (l : List UInt8) (b : UInt8) : ∀ acc, valF acc (l ++ [b]) = 10 * valF acc l + (b.toNat - 48) := by
  induction l with
  | nil => intro acc; rfl
  | cons c r ih => intro acc; exact ih _
/-- Digits without a nought ahead. -/
def okN (l : List UInt8) : Bool := decide (0 < l.length) && l.all isD && (decide (l.length = 1) || decide (l.head? ≠ some 48))
/-- A number of at most fifteen digits; -1: there is none. -/
def numR (l : List UInt8) : Int := if okN l && decide (l.length ≤ 15) then (valF 0 l : Nat) else -1
theorem isD_of {b : UInt8} (h : isD b = true) : 48 ≤ b.toNat ∧ b.toNat ≤ 57 := by
  simp only [isD, Bool.and_eq_true, decide_eq_true_eq] at h
  exact h
theorem byte_digit {b : UInt8} (h : isD b = true) : UInt8.ofNat (48 + (b.toNat - 48)) = b := by
  have := isD_of h
  rw [show 48 + (b.toNat - 48) = b.toNat by omega]
  simp
theorem valF_pos : ∀ (l : List UInt8) (acc : Nat), 0 < acc → 0 < valF acc l
  | [], _, h => h
  | b :: r, acc, h => valF_pos r _ (by omega)
theorem valF_lead {b : UInt8} {r : List UInt8} (hb : isD b = true) (h : b ≠ 48) : 0 < valF 0 (b :: r) := by
  have := isD_of hb
  have h2 : b.toNat ≠ 48 := fun e => h (UInt8.toNat_inj.1 e)
  exact valF_pos r _ (by omega)
/-- Digits are the digits of their value. -/
theorem dec_val : ∀ (n : Nat) (l : List UInt8), l.length = n → okN l = true → Lib.decDigits (valF 0 l) = l
  | 0, l, hn, h => by
    have : l = [] := List.eq_nil_of_length_eq_zero hn
    subst this
    simp [okN] at h
  | n + 1, l, hn, h => by
    obtain ⟨r, b, rfl⟩ : ∃ r b, l = r ++ [b] := ⟨l.dropLast, l.getLast (by intro e; rw [e] at hn; simp at hn), (List.dropLast_concat_getLast _).symm⟩
    simp only [okN, Bool.and_eq_true, decide_eq_true_eq, List.all_append, List.all_cons, List.all_nil, Bool.and_true, Bool.or_eq_true, List.length_append, List.length_singleton] at h
    obtain ⟨⟨_, h1, h2⟩, h3⟩ := h
    have hb := isD_of h2
    rw [valF_snoc]
    cases r with
    | nil =>
      show Lib.decDigits (10 * 0 + _) = _
      rw [Lib.decDigits_one (by omega), Nat.mul_zero, Nat.zero_add, byte_digit h2]; rfl
    | cons c r =>
      have hc : isD c = true := by simp only [List.all_cons, Bool.and_eq_true] at h1; exact h1.1
      have hne : c ≠ 48 := by
        rcases h3 with h3 | h3
        · simp at h3
        · intro e; subst e; simp at h3
      have hp := valF_lead (r := r) hc hne
      have ih := dec_val n (c :: r) (by simp at hn ⊢; omega) (by
        simp only [okN, Bool.and_eq_true, Bool.or_eq_true, decide_eq_true_eq]
        exact ⟨⟨by simp, h1⟩, .inr (by simpa using hne)⟩)
      generalize valF 0 (c :: r) = v at hp ih
      rw [Lib.decDigits, dif_neg (by omega), show (10 * v + (b.toNat - 48)) / 10 = v by omega, show (10 * v + (b.toNat - 48)) % 10 = b.toNat - 48 by omega, ih, byte_digit h2]
/-- The digits of a number. -/
theorem val_dec : ∀ (n : Nat), okN (Lib.decDigits n) = true ∧ valF 0 (Lib.decDigits n) = n ∧ (0 < n → (Lib.decDigits n).head? ≠ some 48) := by
  intro n
  induction n using Nat.strongRecOn with
  | _ n ih =>
    have hd : ∀ d, d < 10 → isD (UInt8.ofNat (48 + d)) = true ∧ (UInt8.ofNat (48 + d)).toNat = 48 + d := fun d hd => by
      have h1 : (UInt8.ofNat (48 + d)).toNat = 48 + d := UInt8.toNat_ofNat_of_lt' (show 48 + d < 256 by omega)
      exact ⟨by simp only [isD, h1, Bool.and_eq_true, decide_eq_true_eq]; omega, h1⟩
    by_cases h : n < 10
    · rw [Lib.decDigits_one h]
      obtain ⟨d1, d2⟩ := hd n h
      refine ⟨by rw [okN, List.all_cons, d1]; rfl, ?_, fun h0 e => ?_⟩
      · show 10 * 0 + ((UInt8.ofNat (48 + n)).toNat - 48) = n
        rw [d2]; omega
      · simp only [List.head?_cons, Option.some.injEq] at e
        have := congrArg UInt8.toNat e
        rw [d2] at this
        have h48 : (48 : UInt8).toNat = 48 := rfl
        omega
    · obtain ⟨i1, i2, i3⟩ := ih (n / 10) (by omega)
      have i4 := i3 (by omega)
      obtain ⟨d1, d2⟩ := hd (n % 10) (by omega)
      rw [Lib.decDigits, dif_neg h]
      have hl : 0 < (Lib.decDigits (n / 10)).length := by
        simp only [okN, Bool.and_eq_true, decide_eq_true_eq] at i1
        exact i1.1.1
      have hh : (Lib.decDigits (n / 10) ++ [UInt8.ofNat (48 + n % 10)]).head? = (Lib.decDigits (n / 10)).head? := by
        cases hq : Lib.decDigits (n / 10) with
        | nil => rw [hq] at hl; simp at hl
        | cons c r => rfl
      refine ⟨?_, ?_, fun _ => by rw [hh]; exact i4⟩
      · simp only [okN, Bool.and_eq_true, Bool.or_eq_true, decide_eq_true_eq, List.all_append, List.all_cons, List.all_nil, Bool.and_true] at i1 ⊢
        exact ⟨⟨by simp, i1.1.2, d1⟩, .inr (by rw [hh]; exact i4)⟩
      · rw [valF_snoc, i2, d2]; omega
theorem decFrom_val : ∀ (l : List UInt8) (acc : Nat), l.all isD = true → Lib.decFrom acc l = some (valF acc l)
  | [], _, _ => rfl
  | b :: r, acc, h => by
    simp only [List.all_cons, Bool.and_eq_true] at h
    have hb := isD_of h.1
    rw [Lib.decFrom, Lib.digitVal, if_pos hb]
    show Lib.decFrom (acc * 10 + (b.toNat - 48)) r = some (valF (10 * acc + (b.toNat - 48)) r)
    rw [Nat.mul_comm acc 10]
    exact decFrom_val r _ h.2
theorem atoi_dec {n : Nat} (h : (Lib.decDigits n).length ≤ 15) : Lib.atoiAll (Lib.decDigits n) = .ok (n : Int) := by
  obtain ⟨h1, h2, _⟩ := val_dec n
  rw [Lib.atoiAll_short _ (by omega)]
  generalize Lib.decDigits n = l at h h1 h2
  simp only [okN, Bool.and_eq_true, decide_eq_true_eq] at h1
  cases l with
  | nil => simp at h1
  | cons b r =>
    have hb := isD_of (by have := h1.1.2; simp only [List.all_cons, Bool.and_eq_true] at this; exact this.1 : isD b = true)
    have e1 : (b == 45) = false := by
      rw [beq_eq_false_iff_ne]
      intro e
      rw [e] at hb
      have h45 : (45 : UInt8).toNat = 45 := rfl
      omega
    have e2 : (b == 43) = false := by
      rw [beq_eq_false_iff_ne]
      intro e
      rw [e] at hb
      have h45 : (43 : UInt8).toNat = 43 := rfl
      omega
    rw [Lib.atoi, e1, e2]
    simp only [Bool.false_eq_true, if_false]
    rw [Lib.decNat, show (b :: r).isEmpty = false from rfl]
    simp only [Bool.false_eq_true, if_false]
    rw [decFrom_val _ _ h1.1.2, h2]
    rfl
/-- The program's test of a number is the reference's. -/
theorem num_same (rest : List UInt8) : (!atoiB rest && decide (rest.length ≤ 15) && decide (Lib.itoa (atoiV rest) = rest) && decide (0 ≤ atoiV rest)) = decide (0 ≤ numR rest) ∧ (0 ≤ numR rest → atoiV rest = numR rest) := by
  by_cases h : okN rest = true ∧ rest.length ≤ 15
  · obtain ⟨h1, h2⟩ := h
    have hn : numR rest = (valF 0 rest : Nat) := by rw [numR, h1, decide_eq_true h2]; rfl
    have hd := dec_val _ rest rfl h1
    have ha := atoi_dec (n := valF 0 rest) (by rw [hd]; exact h2)
    rw [hd] at ha
    have hv : atoiV rest = (valF 0 rest : Nat) := by rw [atoiV, ha]
    have hb : atoiB rest = false := by rw [atoiB, ha]
    rw [hn, hv, hb, decide_eq_true h2, Lib.itoa_nonneg, hd]
    simp
  · have hn : numR rest = -1 := by
      rw [numR, if_neg]
      simp only [Bool.and_eq_true, decide_eq_true_eq]
      exact h
    rw [hn]
    refine ⟨?_, fun h => by omega⟩
    rw [show decide ((0 : Int) ≤ -1) = false from rfl, ← Bool.not_eq_true]
    intro hc
    simp only [Bool.and_eq_true, decide_eq_true_eq] at hc
    obtain ⟨⟨⟨_, c2⟩, c3⟩, c4⟩ := hc
    obtain ⟨n, hnn⟩ := Int.eq_ofNat_of_zero_le c4
    rw [hnn, Lib.itoa_nonneg] at c3
    exact h ⟨c3 ▸ (val_dec n).1, c2⟩
end Go.Proofs.YtlkbckffeegikaaDoor

/- Walks: Itoa, Digits at any number, words, letters. -/

namespace Go.Proofs.YtlkbckffeegikaaDoor
open Go.Ax
open Cel (c)
theorem qW11 {p : Prop} (h : p := by (conv => lhs; whnf); all_goals exact rfl) : p := h
theorem qW12 {p : Prop} (h : p := by repeat' (first | exact Keep.refl _ | apply Keep.new | apply Keep.set | apply Keep.del | (first | omega | (simp only [za, zb, zc]; omega)))) : p := h
theorem qW13 {p : Prop} (h : p := by simp only [List.flatMap_cons, List.flatMap_nil, cells_v, cells_any, cells_ptr, cells_ip, cells_sl, cells_vec, cells_map, cells_func, cells_agg, cells_iface, List.cons_append, List.nil_append, List.append_nil]; all_goals exact rfl) : p := h
theorem qW14 {p : Prop} (h : p := by first | with_reducible assumption | exact Cel.one _ | exact flat_ones _ | exact ones_nil | (simp only [List.forall_mem_cons, List.not_mem_nil, false_implies, implies_true, and_true, one_v, one_ptr, one_ip, one_sl, one_slc, one_vec, one_map, one_func, one_iface, Value.oneCell', *]; done) | (simp [AV.one, Value.oneCell', *]; done)) : p := h
theorem qW15 {p : Prop} (h : p := by exact AStepD.assign' rfl qW11) : p := h
theorem qW16 {p : Prop} (h : p := by exact AStepD.move' rfl qW11) : p := h
theorem qW17 {p : Prop} (h : p := by first | exact AStepD.build_seq tok rfl rfl rfl (by decide) (map_p qW11 (map_p qW11 (map_p qW11 map_n))) (show _ = 3 from rfl) rfl qW13 qW14 | exact AStepD.build_arr_seq tok rfl rfl rfl rfl (map_p qW11 (map_p qW11 (map_p qW11 map_n))) (show _ = 3 from rfl) rfl qW13 qW14 | exact AStepD.build tok rfl rfl rfl (by decide) rfl qW14) : p := h
set_option linter.unusedSimpArgs false
set_option linter.unusedVariables false

theorem cvs_vals {ρ : Rho} {I : Imm} (f : Int → Value) : ∀ (zs : List Int) (vs : List Value), CVs ρ I (zs.map fun z => .v (f z)) vs → vs = zs.map f
  | [], vs, h => by
    have := h.1
    exact List.eq_nil_of_length_eq_zero (by simpa using this)
  | z :: r, [], h => by have := h.1; simp at this
  | z :: r, v :: vs, h => by
    have h0 := cv_v (h.2 0 _ _ rfl rfl)
    rw [List.map_cons, h0, cvs_vals f r vs ⟨by have := h.1; simpa using this, fun i a u ha hu => h.2 (i + 1) a u (by simpa using ha) (by simpa using hu)⟩]
theorem itoaG_calls (H : AHeap) (n : Int) (h0 : -9223372036854775808 ≤ n) (h1 : n ≤ 9223372036854775807) : ACalls Tryd.prog 19 [.v (.int .i64 n)] H (fun r H' => r = strA (Lib.itoa n) ∧ H' = H) := by
  refine ACalls.of_below fun ρ I w vs hc ha => ?_
  obtain ⟨v, rfl⟩ : ∃ v, vs = [v] := by
    have := ha.1
    match vs, this with
    | [v], _ => exact ⟨v, rfl⟩
  have hv := cv_v (ha.2 0 _ _ rfl rfl)
  subst hv
  obtain ⟨arr, g1, g2⟩ := hc.glob 3 _ rfl
  obtain ⟨t, fz, g4⟩ := hc.imm _ _ g1
  have g5 := cvs_vals (fun z => Value.int .u64 z) _ _ g2
  have htab : Lib.TabIs Tryd.prog w "internal/strconv.uint64pow10" .u64 Lib.pow10Tab := by
    unfold Lib.TabIs World.var?
    rw [show Tryd.prog.globalNamed "internal/strconv.uint64pow10" = some 3 by kernel_rfl]
    simp only [Option.bind_some, g4]
    rw [← g5]
  exact (Any.strconv_Itoa laysM171 n h0 h1 w htab).mono fun e w' ⟨he, k, os, hw⟩ => ⟨_, he, .v _, by
    subst hw
    exact ⟨rfl, rfl, rfl, by simp [Sort.grow, World.drewN], fun k hk => by simp only [Sort.grow]; rw [Array.getElem?_append_left (by simpa [World.drewN] using hk)]; rfl⟩⟩

theorem nDigits_le : ∀ (k u : Nat), u < 10 ^ (k + 1) → Lib.nDigits u ≤ k + 1
  | 0, u, h => by rw [Lib.nDigits_small (by simpa using h)]; omega
  | k + 1, u, h => by
    by_cases h10 : u < 10
    · rw [Lib.nDigits_small h10]; omega
    · have := nDigits_le k (u / 10) (by rw [Nat.pow_succ] at h; omega)
      rw [Lib.nDigits_big h10]; omega
theorem decL_len (n : Nat) (h : n ≤ 9223372036854775807) : (Lib.decDigits n).length ≤ 19 := by
  rw [Lib.decDigits_length]
  exact nDigits_le 18 n (by omega)
theorem digitsG_calls : ∀ (k : Nat) (H : AHeap) (i : Nat), (Lib.decDigits i).length ≤ k → i ≤ 9223372036854775807 → ACalls Tryd.prog 28 [.v (.int .i64 (i : Nat))] H (fun r H' => r = strA (Lib.decDigits i) ∧ H' = H)
  | 0, H, i, hk, hi => by
    have := (val_dec i).1
    simp only [okN, Bool.and_eq_true, decide_eq_true_eq] at this
    omega
  | k + 1, H, i, hk, hi => by
    by_cases h10 : i < 10
    · exact digit_calls H i h10
    have hj : Lib.decDigits i = Lib.decDigits (i / 10) ++ [UInt8.ofNat (48 + i % 10)] := by rw [Lib.decDigits, dif_neg h10]
    have hl := decL_len i hi
    have hlen := congrArg List.length hj
    rw [List.length_append, List.length_singleton] at hlen
    refine ACalls.quiet_keep ?_ (.v _)
    refine ACalls.of_body tok Tryd.func28 rfl Tryd.ntmps28 (Nat.le_of_ble_eq_true rfl) (fun base => ?_)
    refine AW.seq_region (fun K hK => ?_)
    refine AL.step rfl rfl rfl qW15 ?_
    refine AL.nil_then (hK _ _ ?_); clear hK K
    refine AW.seq_k (fun K1 hK1 => ?_)
    refine AW.seq_region (fun K hK => ?_)
    refine AL.step rfl rfl rfl qW16 ?_
    refine AL.step rfl rfl rfl (by exact AStepD.bool (AStepD.lss rfl rfl rfl) (c := false) (by simp; omega)) ?_
    refine AL.nil_then (hK _ _ ?_); clear hK K
    refine AW.cond_false rfl rfl (AW.skip ?_)
    refine hK1 _ _ ?_; try clear hK1 K1
    refine AW.seq_region (fun K hK => ?_)
    refine AL.step rfl rfl rfl qW16 ?_
    refine AL.step rfl rfl rfl (by exact AStepD.quo (r := ((i / 10 : Nat) : Int)) rfl rfl rfl (by omega) (by rw [div10]; exact IntWalk.i64_in _ (by omega))) ?_
    refine AL.step rfl rfl rfl (by exact AStepD.callf rfl en28 rfl (digitsG_calls k _ (i / 10) (by omega) (by omega))) ?_
    refine AL.step rfl rfl rfl qW16 ?_
    refine AL.step rfl rfl rfl (by exact AStepD.rem (r := ((i % 10 : Nat) : Int)) rfl rfl rfl (by omega) (mod10 i)) ?_
    refine AL.step rfl rfl rfl (by exact AStepD.callf rfl en28 rfl (digit_calls _ (i % 10) (by omega))) ?_
    refine AL.step rfl rfl rfl (by exact strA_add (Lib.decDigits (i / 10)) (Lib.decDigits (i % 10)) rfl rfl rfl (by rw [Lib.decDigits_one (by omega : i % 10 < 10)]; simp; omega)) ?_
    refine AL.step rfl rfl rfl qW15 ?_
    refine AL.nil_then (hK _ _ ?_); clear hK K
    refine AW.ret (RetQ.mk (.inr rfl) (retA_tmp rfl qW11 retA_nil) ⟨?_, qW12⟩)
    rw [hj, Lib.decDigits_one (by omega : i % 10 < 10)]; rfl

theorem words_calls (H : AHeap) : ACalls Tryd.prog 14 [] H (fun r H' => r = vecA wordsL ∧ H' = H) := by
  refine ACalls.quiet_keep ?_ (vecA_plain _)
  refine ACalls.of_body tok Tryd.func14 rfl Tryd.ntmps14 (Nat.le_of_ble_eq_true rfl) (fun base => ?_)
  refine AW.seq_region (fun K hK => ?_)
  refine AL.step rfl rfl rfl qW15 ?_
  refine AL.nil_then (hK _ _ ?_); clear hK K
  refine AW.seq_region (fun K hK => ?_)
  refine AL.step rfl rfl rfl qW17 ?_
  refine AL.step rfl rfl rfl qW17 ?_
  refine AL.step rfl rfl rfl qW17 ?_
  refine AL.step rfl rfl rfl qW17 ?_
  refine AL.step rfl rfl rfl qW17 ?_
  refine AL.step rfl rfl rfl qW17 ?_
  refine AL.step rfl rfl rfl qW17 ?_
  refine AL.step rfl rfl rfl qW17 ?_
  refine AL.step rfl rfl rfl qW17 ?_
  refine AL.step rfl rfl rfl qW17 ?_
  refine AL.step rfl rfl rfl qW17 ?_
  refine AL.step rfl rfl rfl qW17 ?_
  refine AL.step rfl rfl rfl qW17 ?_
  refine AL.step rfl rfl rfl qW17 ?_
  refine AL.step rfl rfl rfl qW17 ?_
  refine AL.step rfl rfl rfl (by exact AStepD.vec_flat (l := wordsL) (AStepD.buildSlice_seq tok rfl rfl rfl rfl (show _ = 3 from rfl) (map_p qW11 (map_p qW11 (map_p qW11 (map_p qW11 (map_p qW11 (map_p qW11 (map_p qW11 (map_p qW11 (map_p qW11 (map_p qW11 (map_p qW11 (map_p qW11 (map_p qW11 (map_p qW11 (map_p qW11 map_n))))))))))))))) rfl (by decide) (by decide) rfl qW13 qW14) rfl rfl rfl) ?_
  refine AL.step rfl rfl rfl qW15 ?_
  refine AL.nil_then (hK _ _ ?_); clear hK K
  exact AW.ret (RetQ.mk (.inr rfl) (retA_tmp rfl qW11 retA_nil) ⟨rfl, qW12⟩)
end Go.Proofs.YtlkbckffeegikaaDoor

/- Walks: big letters, the search for a word, numbers. -/

namespace Go.Proofs.YtlkbckffeegikaaDoor
open Go.Ax
open Cel (c)
theorem qW21 {p : Prop} (h : p := by first | exact IsSl.vec | exact IsSl.sl | exact IsSl.slc | exact IsSl.nil | with_reducible assumption) : p := h
theorem qW22 {p : Prop} (h : p := by (conv => lhs; whnf); all_goals first | exact rfl | (simp; done) | (simp; omega)) : p := h
theorem qW23 {p : Prop} (h : p := by first | omega | (simp only [za, zb, zc, zd]; omega)) : p := h
theorem qW24 {p : Prop} (h : p := by (try simp only [za, zb, zc, zd, ne_eq]); omega) : p := h
theorem qW25 {p : Prop} (h : p := by exact AStepD.lss rfl rfl rfl) : p := h
theorem qW26 {p : Prop} (h : p := by first | exact rfl | exact (Int.toNat_of_nonneg (by omega)).symm) : p := h
theorem qW27 {p : Prop} (h : p := by first | omega | (simp; done) | (simp; omega) | (simp only [over, List.length_append, List.length_take, List.length_drop, *]; omega) | (simp_all; done) | (simp_all; omega)) : p := h
theorem qW28 {p : Prop} (h : p := by first | (simp only [Nat.zero_add, Nat.zero_mul, Nat.sub_zero, Nat.add_zero]; exact rfl) | exact rfl) : p := h
theorem qW29 {p : Prop} (h : p := by exact AStepD.leq rfl rfl rfl) : p := h
theorem qW210 {p : Prop} (h : p := by intro h; first | (rw [h]; done) | (rw [h]; rfl) | (simp [h]; done) | (simp_all; done) | exact guard_true h) : p := h
theorem qW211 {p : Prop} (h : p := by first | exact one_cells (by with_reducible assumption) | exact qW11) : p := h
theorem qW212 {p : Prop} (h : p := by first | exact Nat.le_of_ble_eq_true rfl | (simp; done) | (simp; omega) | (simp_all; omega)) : p := h
theorem qW213 {p : Prop} (h : p := by first | ((with_reducible refine over_all ?_); exact rfl) | (simp only [over, List.take_succ_cons, List.take_zero, List.drop_succ_cons, List.drop_zero, List.length_cons, List.length_nil, List.nil_append, List.cons_append, Nat.reduceAdd, Nat.zero_add, List.drop_nil, List.append_nil]; exact rfl) | conv => lhs; whnf) : p := h
theorem qW214 {p : Prop} (h : p := by first | with_reducible assumption | (simp only [List.take_succ_cons, List.take_zero, List.drop_succ_cons, List.drop_zero]; exact rfl) | exact rfl) : p := h
theorem qW215 {p : Prop} (h : p := by first | exact rfl | with_reducible assumption | exact Lst.one (by assumption)) : p := h
theorem qW216 {p : Prop} (h : p := by simp only [Nat.reduceAdd]; exact rfl) : p := h
theorem qW217 {p : Prop} (h : p := by first | with_reducible assumption | exact rfl) : p := h
theorem qW218 {p : Prop} (h : p := by first | exact AStepD.eql rfl rfl rfl | exact AStepD.str_eql rfl rfl rfl | exact (AStepD.ptr_nil tok (.inl ⟨_, _, rfl⟩) rfl rfl rfl).1 rfl | exact (AStepD.nil_nil tok rfl rfl rfl rfl).1 rfl | exact (AStepD.bool_eq tok rfl rfl rfl rfl).1 rfl | exact (AStepD.iface_nil tok rfl rfl rfl rfl).1 rfl | exact (AStepD.nilIface_nil tok rfl rfl rfl rfl).1 rfl) : p := h
theorem qW219 {p : Prop} (h : p := by first | exact AStepD.build_seq tok rfl rfl rfl (by decide) (map_p qW11 (map_p qW11 (map_p qW11 (map_p qW11 map_n)))) (show _ = 4 from rfl) rfl qW13 qW14 | exact AStepD.build_arr_seq tok rfl rfl rfl rfl (map_p qW11 (map_p qW11 (map_p qW11 (map_p qW11 map_n)))) (show _ = 4 from rfl) rfl qW13 qW14 | exact AStepD.build tok rfl rfl rfl (by decide) rfl qW14) : p := h
theorem qW220 {p : Prop} (h : p := by first | exact AStepD.len_str tok rfl rfl rfl rfl | exact AStepD.len_sl tok rfl qW11 qW21 rfl rfl | exact AStepD.len_arr tok rfl rfl rfl) : p := h
theorem qW221 {p : Prop} (h : p := by repeat' (first | exact SubT.nil _ | refine SubT.cons_eq qW22 ?_)) : p := h
theorem qW222 {p : Prop} (h : p := by first | with_reducible assumption | (simp (disch := (first | omega | (exact Lst.lab_ne (by with_reducible assumption) qW23) | (exact Lst.lab_new (by with_reducible assumption) qW23) | (refine id ?_; simp only [za, zb, zc, zd]; done) | (simp only [za, zb, zc, zd]; omega))) only [z1, z2, z3, z4, z5, z6, z7, z8, z9, ne_eq, *]; done) | (simp (disch := (first | omega | (exact Lst.lab_ne (by with_reducible assumption) qW23) | (exact Lst.lab_new (by with_reducible assumption) qW23) | (refine id ?_; simp only [za, zb, zc, zd]; done) | (simp only [za, zb, zc, zd]; omega))) only [z1, z2, z3, z4, z5, z6, z7, z8, z9, ne_eq, *]; exact rfl)) : p := h
theorem qW223 {p : Prop} (h : p := by first | exact AStepD.indexAddr_flat tok rfl rfl rfl rfl rfl rfl rfl (show _ = 1 from rfl) rfl qW26 qW27 | exact AStepD.indexAddr_vec' tok rfl rfl rfl rfl rfl rfl (show _ = 1 from rfl) qW26 qW27 | exact AStepD.indexAddr_sl' tok rfl rfl rfl rfl rfl rfl (show _ = 1 from rfl) qW26 qW27 qW28 | exact AStepD.indexAddr_arr' tok rfl rfl rfl rfl rfl rfl (show _ = 1 from rfl) qW26 qW27 qW28) : p := h
theorem qW224 {p : Prop} (h : p := by first | exact AStepD.pick_true' rfl rfl qW11 | exact AStepD.pick_false' rfl rfl qW11 | exact AStepD.and rfl _ _ _ rfl rfl qW210 rfl | exact AStepD.and' rfl _ _ rfl rfl rfl | exact AStepD.or rfl _ _ _ rfl rfl rfl qW210 | exact AStepD.or' rfl _ _ rfl rfl rfl) : p := h
theorem qW225 {p : Prop} (h : p := by first | exact AStepD.indexAddr_flat tok rfl rfl rfl rfl rfl rfl rfl (show _ = 3 from rfl) rfl qW26 qW27 | exact AStepD.indexAddr_vec' tok rfl rfl rfl rfl rfl rfl (show _ = 3 from rfl) qW26 qW27 | exact AStepD.indexAddr_sl' tok rfl rfl rfl rfl rfl rfl (show _ = 3 from rfl) qW26 qW27 qW28 | exact AStepD.indexAddr_arr' tok rfl rfl rfl rfl rfl rfl (show _ = 3 from rfl) qW26 qW27 qW28) : p := h
theorem qW226 {p : Prop} (h : p := by first | exact AStepD.box1 rfl qW11 qW215 | exact AStepD.box rfl qW11 qW14) : p := h
theorem qW227 {p : Prop} (h : p := by first | exact Nat.zero_add 0 | exact (show _ + 0 = _ from qW216) | exact (show _ + 0 = _ + 0 from rfl) | exact rfl) : p := h
theorem qW228 {p : Prop} (h : p := by first | exact Nat.zero_add 1 | exact (show _ + 1 = _ from qW216) | exact (show _ + 1 = _ + 1 from rfl) | exact rfl) : p := h
theorem qW229 {p : Prop} (h : p := by first | exact AStepD.fieldAddr' tok rfl rfl rfl rfl rfl rfl rfl (by first | exact Nat.zero_add 2 | exact (show _ + 2 = _ from qW216) | exact (show _ + 2 = _ + 2 from rfl) | exact rfl) | exact AStepD.fieldAddr_ip' tok rfl rfl rfl rfl rfl rfl rfl (show List.drop 2 _ = _ from rfl)) : p := h
theorem qW230 {p : Prop} (h : p := by first | exact AStepD.fieldAddr' tok rfl rfl rfl rfl rfl rfl rfl (by first | exact Nat.zero_add 3 | exact (show _ + 3 = _ from qW216) | exact (show _ + 3 = _ + 3 from rfl) | exact rfl) | exact AStepD.fieldAddr_ip' tok rfl rfl rfl rfl rfl rfl rfl (show List.drop 3 _ = _ from rfl)) : p := h
theorem qW231 {p : Prop} (h : p := by exact AStepD.store' tok rfl rfl qW222 qW11 qW211 qW14 rfl qW11 rfl qW212 qW213) : p := h
theorem qW232 {p : Prop} (h : p := by first | exact AStepD.load_cel_ip tok rfl rfl rfl rfl (show _ = 3 from rfl) rfl | exact AStepD.load_agg tok rfl rfl rfl qW222 rfl (show _ = 3 from rfl) qW212 qW214 | exact AStepD.load_agg_ip tok rfl rfl rfl rfl (show _ = 3 from rfl) qW212 qW214) : p := h
theorem qW233 {p : Prop} (h : p := by first | exact AStepD.fieldAddr' tok rfl rfl rfl rfl rfl rfl rfl qW227 | exact AStepD.fieldAddr_ip' tok rfl rfl rfl rfl rfl rfl rfl List.drop_zero) : p := h
theorem qW234 {p : Prop} (h : p := by first | exact AStepD.load_one tok rfl rfl rfl rfl qW222 rfl qW217 | exact AStepD.load_one_ip tok rfl rfl rfl rfl rfl qW217) : p := h
theorem qW235 {p : Prop} (h : p := by first | exact AStepD.fieldAddr' tok rfl rfl rfl rfl rfl rfl rfl qW228 | exact AStepD.fieldAddr_ip' tok rfl rfl rfl rfl rfl rfl rfl (show List.drop 1 _ = _ from rfl)) : p := h
set_option linter.unusedSimpArgs false
set_option linter.unusedVariables false

instance : Cel UInt8 := ⟨1, fun b => [.v (.int .u8 (b.toNat : Int))], fun _ => rfl, fun _ z hz => (by simp only [List.mem_singleton] at hz; subst hz; rfl), fun _ z hz => (by simp only [List.mem_singleton] at hz; subst hz; exact .v _)⟩
theorem flat_bytes (l : List UInt8) : flat l = l.map fun b => .v (.int .u8 (b.toNat : Int)) := by
  induction l with
  | nil => rfl
  | cons a r ih => rw [flat_cons, ih]; rfl
theorem strA_bytes {o : Oper} {T : Fr} {H : AHeap} {x : Operand} {l : List UInt8} (ho : o.op = .convert 9 42 x) (hx : aev T x = strA l) (hl : l.length ≤ 1000000) : AStepD Tryd.prog o T H (.sl H.next 0 l.length 1) (H.new (.cells 5 (flat l))) := by
  have := AStepD.str_bytes (P := Tryd.prog) (H := H) (e := 5) tok ho hx rfl rfl rfl rfl rfl rfl rfl rfl (by rw [str_size]; unfold maxLen; omega)
  rw [str_size, str_list, ← flat_bytes] at this
  exact this
theorem strA_ofbytes {o : Oper} {T : Fr} {H : AHeap} {x : Operand} {bs : List UInt8} {L n : Nat} {ty : TypeId} (ho : o.op = .convert 42 9 x) (hx : aev T x = .sl L 0 n 1) (hH : H.get L = some (.cells ty (flat bs))) (hn : n = bs.length) : AStepD Tryd.prog o T H (strA bs) H := by
  subst hn
  exact AStepD.bytes_str (P := Tryd.prog) (H := H) (e := 5) (bs := bs) tok ho hx (Src.all hH (by rw [flat_length]; rfl)) (flat_bytes bs) rfl rfl rfl rfl rfl rfl rfl
theorem flat_put {α : Type} [Cel α] (h1 : Cel.n α = 1) (l : List α) (i : Nat) (h : i < l.length) (a : α) (z : AV) (hz : c a = [z]) : List.take (i * 1) (flat l) ++ [z] ++ List.drop (i * 1 + 1) (flat l) = flat (l.set i a) := by
  have := over_flat l i 0 h [z] a (by rw [h1]; exact Nat.le_refl 1) (by
    have h2 := Cel.len l[i]
    rw [h1] at h2
    match c l[i], h2 with
    | [q], _ => rw [hz]; rfl)
  rw [h1] at this
  exact this
theorem flat_at1 {α : Type} [Cel α] (h1 : Cel.n α = 1) (l : List α) (i : Nat) (h : i < l.length) (z : AV) (hz : c l[i] = [z]) : ((flat l).drop (i * 1)).take 1 = [z] := by
  have := flat_at l i h
  rw [h1, hz] at this
  exact this
theorem flat_len1 {α : Type} [Cel α] (h1 : Cel.n α = 1) (l : List α) : (flat l).length = l.length := by rw [flat_length, h1, Nat.mul_one]

theorem big_toNat (b : UInt8) : (bigB b).toNat = if 97 ≤ b.toNat ∧ b.toNat ≤ 122 then b.toNat - 32 else b.toNat := by
  rw [bigB]
  split
  · rename_i h
    exact UInt8.toNat_ofNat_of_lt' (show b.toNat - 32 < 256 by omega)
  · rfl
theorem big_len (l : List UInt8) : (bigL l).length = l.length := by simp [bigL]
/-- The letters made big so far. -/
def bigP (l : List UInt8) (i : Nat) : List UInt8 := bigL (l.take i) ++ l.drop i
theorem bigP_len (l : List UInt8) (i : Nat) (h : i ≤ l.length) : (bigP l i).length = l.length := by simp [bigP, bigL]; omega
theorem bigP_get (l : List UInt8) (i : Nat) (h : i < l.length) : (bigP l i)[i]'(by rw [bigP_len l i (by omega)]; exact h) = l[i] := by
  simp only [bigP]
  rw [List.getElem_append_right (by simp [bigL]; omega)]
  simp [bigL, Nat.min_eq_left (Nat.le_of_lt h)]
theorem bigP_next (l : List UInt8) (i : Nat) (h : i < l.length) : bigP l (i + 1) = (bigP l i).set i (bigB l[i]) := by
  have e : (bigL (l.take i)).length = i := by simp [bigL]; omega
  rw [bigP, bigP, List.set_append_right _ _ (by omega), e, Nat.sub_self, List.take_succ_eq_append_getElem h, List.drop_eq_getElem_cons h, List.set_cons_zero, bigL, List.map_append, List.append_assoc]
  rfl
theorem bigP_same (l : List UInt8) (i : Nat) (h : i < l.length) (hb : bigB l[i] = l[i]) : bigP l (i + 1) = bigP l i := by
  rw [bigP_next l i h, hb]
  have := bigP_get l i h
  conv => lhs; rw [← this]
  exact List.set_getElem_self _

set_option maxHeartbeats 1000000 in
theorem big_calls (H : AHeap) (l : List UInt8) (hl : l.length ≤ 1000000) : ACalls Tryd.prog 17 [strA l] H (fun r H' => r = strA (bigL l) ∧ H' = H) := by
  refine ACalls.quiet_keep ?_ (.v _)
  refine ACalls.of_body tok Tryd.func17 rfl Tryd.ntmps17 (Nat.le_of_ble_eq_true rfl) (fun base => ?_)
  refine AW.seq_region (fun K hK => ?_)
  refine AL.step rfl rfl rfl qW15 ?_
  refine AL.nil_then (hK _ _ ?_); clear hK K
  refine AW.seq_region (fun K hK => ?_)
  refine AL.step rfl rfl rfl qW16 ?_
  refine AL.step rfl rfl rfl (by exact strA_bytes rfl rfl hl) ?_
  refine AL.step rfl rfl rfl qW15 ?_
  refine AL.nil_then (hK _ _ ?_); clear hK K
  refine AW.seq_k (fun K1 hK1 => ?_)
  refine AW.seq_region (fun K hK => ?_)
  refine AL.step rfl rfl rfl qW16 ?_
  refine AL.step rfl rfl rfl qW220 ?_
  refine AL.step rfl rfl rfl qW16 ?_
  refine AL.nil_then (hK _ _ ?_); clear hK K
  refine AW.block ?_
  refine AW.loop_at (ι := Nat) (fun i => [(10, .v (.int .i64 (i : Nat))), (9, .v (.int .i64 (l.length : Nat))), (8, .sl H.next 0 l.length 1), (3, .sl H.next 0 l.length 1)])
    (fun i H' => i ≤ l.length ∧ H'.get H.next = some (.cells 5 (flat (bigP l i))) ∧ Keep H H' ∧ H.next < H'.next) (fun i => l.length - i) 0 qW221 ⟨Nat.zero_le _, qW222, qW12, qW24⟩ ?_
  rintro i H2 ⟨hi, g0, hk, hn⟩
  have hpl := bigP_len l i hi
  have hfl := flat_len1 (α := UInt8) rfl (bigP l i)
  refine AW.seq_region (fun K hK => ?_)
  refine AL.step rfl rfl rfl qW25 ?_
  refine AL.nil_then (hK _ _ ?_); clear hK K
  refine AW.seq_k (fun K2 hK2 => ?_)
  refine AW.cond _ rfl (fun hc => ?_) (fun hc => ?_)
  · have hil : i < l.length := by simpa using hc
    clear hc
    have hget := bigP_get l i hil
    have hbig := big_toNat l[i]
    refine AW.skip ?_
    refine hK2 _ _ ?_; try clear hK2 K2
    refine AW.seq_k (fun K3 hK3 => ?_)
    refine AW.block ?_
    refine AW.seq_region (fun K hK => ?_)
    refine AL.step rfl rfl rfl qW16 ?_
    refine AL.step rfl rfl rfl qW223 ?_
    refine AL.step rfl rfl rfl (by exact AStepD.load_cellAt (y := .v (.int .u8 (l[i].toNat : Int))) tok rfl rfl rfl rfl qW222 rfl (flat_at1 rfl _ i (by omega) _ (by rw [hget]; rfl))) ?_
    refine AL.step rfl rfl rfl qW15 ?_
    refine AL.step rfl rfl rfl qW15 ?_
    refine AL.nil_then (hK _ _ ?_); clear hK K
    refine AW.seq_region (fun K hK => ?_)
    refine AL.step rfl rfl rfl qW16 ?_
    refine AL.step rfl rfl rfl (by exact AStepD.geq rfl rfl rfl) ?_
    refine AL.step rfl rfl rfl qW16 ?_
    first | refine AL.gstep rfl rfl rfl rfl rfl rfl rfl qW16 ?_ | refine AL.gskip rfl rfl rfl rfl rfl rfl rfl ?_ | refine AL.gnone rfl rfl rfl rfl rfl ?_ | refine AL.gmay rfl rfl rfl rfl rfl rfl (fun hb => by (try (apply AStepD.uncond 5 rfl (gpf hb))); exact qW16) ?_ | refine AL.gmay2 rfl rfl rfl rfl rfl rfl (fun _ hb => by (try (apply AStepD.uncond 5 rfl (gpf hb))); exact qW16) ?_
    first | refine AL.gstep rfl rfl rfl rfl rfl rfl rfl qW29 ?_ | refine AL.gskip rfl rfl rfl rfl rfl rfl rfl ?_ | refine AL.gnone rfl rfl rfl rfl rfl ?_ | refine AL.gmay rfl rfl rfl rfl rfl rfl (fun hb => by (try (apply AStepD.uncond 18 rfl (gpf hb))); exact qW29) ?_ | refine AL.gmay2 rfl rfl rfl rfl rfl rfl (fun _ hb => by (try (apply AStepD.uncond 18 rfl (gpf hb))); exact qW29) ?_
    refine AL.step rfl rfl rfl qW224 ?_
    refine AL.nil_then (hK _ _ ?_); clear hK K
    refine AW.cond _ rfl (fun hc => ?_) (fun hc => ?_)
    · have hb : 97 ≤ l[i].toNat ∧ l[i].toNat ≤ 122 := by
        simp only [Bool.and_eq_true, decide_eq_true_eq] at hc
        omega
      rw [if_pos hb] at hbig
      clear hc
      refine AW.region ?_
      refine AL.step rfl rfl rfl qW16 ?_
      refine AL.step rfl rfl rfl qW16 ?_
      refine AL.step rfl rfl rfl qW16 ?_
      refine AL.step rfl rfl rfl (by exact AStepD.sub (r := ((l[i].toNat - 97 : Nat) : Int)) rfl rfl rfl (by rw [show (l[i].toNat : Int) - 97 = ((l[i].toNat - 97 : Nat) : Int) by omega]; exact IntWalk.u8_in _ (by omega))) ?_
      refine AL.step rfl rfl rfl (by exact AStepD.add (r := ((bigB l[i]).toNat : Int)) rfl rfl rfl (by rw [hbig, show ((l[i].toNat - 97 : Nat) : Int) + 65 = ((l[i].toNat - 32 : Nat) : Int) by omega]; exact IntWalk.u8_in _ (by omega))) ?_
      refine AL.step rfl rfl rfl qW223 ?_
      refine AL.step0 rfl rfl qW231 ?_
      refine AL.nil ?_
      refine hK3 _ _ ?_; try clear hK3 K3
      refine AW.region ?_
      refine AL.step rfl rfl rfl (by first | exact AStepD.add rfl rfl rfl (by first | exact IntWalk.i64_in _ (by omega) | exact IntWalk.i64_in _ (by simp only [Bool.or_eq_true, Bool.and_eq_true, Bool.or_eq_false_iff, Bool.and_eq_false_iff, Bool.not_eq_true', Bool.not_eq_false', decide_eq_true_eq, decide_eq_false_iff_not, Int.not_lt, Int.not_le, beq_iff_eq] at *; omega) | exact rfl) | exact AStepD.str_add rfl rfl rfl (by omega)) ?_
      refine AL.step rfl rfl rfl qW16 ?_
      refine AL.nil ?_
      refine ⟨i + 1, by omega, qW221, hil, ?_, (by repeat' (first | exact Keep.refl _ | with_reducible assumption | apply Keep.new | apply Keep.set | apply Keep.del | (first | omega | (simp only [za, zb, zc]; omega)))), qW24⟩
      rw [bigP_next l i hil, ← flat_put rfl (bigP l i) i (by omega) (bigB l[i]) _ rfl]
      exact qW222
    · have hb : ¬ (97 ≤ l[i].toNat ∧ l[i].toNat ≤ 122) := by
        simp only [Bool.and_eq_false_iff, decide_eq_false_iff_not] at hc
        omega
      have hsame : bigB l[i] = l[i] := by rw [bigB, if_neg hb]
      have hnx := bigP_same l i hil hsame
      refine AW.skip ?_
      refine hK3 _ _ ?_; try clear hK3 K3
      refine AW.region ?_
      refine AL.step rfl rfl rfl (by first | exact AStepD.add rfl rfl rfl (by first | exact IntWalk.i64_in _ (by omega) | exact IntWalk.i64_in _ (by simp only [Bool.or_eq_true, Bool.and_eq_true, Bool.or_eq_false_iff, Bool.and_eq_false_iff, Bool.not_eq_true', Bool.not_eq_false', decide_eq_true_eq, decide_eq_false_iff_not, Int.not_lt, Int.not_le, beq_iff_eq] at *; omega) | exact rfl) | exact AStepD.str_add rfl rfl rfl (by omega)) ?_
      refine AL.step rfl rfl rfl qW16 ?_
      refine AL.nil ?_
      exact ⟨i + 1, by omega, qW221, hil, by rw [hnx]; exact g0, hk, hn⟩
  · have hil : i = l.length := by
      have := of_decide_eq_false hc
      omega
    have hend : bigP l i = bigL l := by rw [bigP, hil, List.take_length, List.drop_length, List.append_nil]
    rw [hend] at g0
    refine AW.exit ?_
    refine hK1 _ _ ?_; try clear hK1 K1
    refine AW.seq_region (fun K hK => ?_)
    refine AL.step rfl rfl rfl qW16 ?_
    refine AL.step rfl rfl rfl (by exact strA_ofbytes (bs := bigL l) rfl rfl qW222 (by rw [big_len])) ?_
    refine AL.step rfl rfl rfl qW15 ?_
    refine AL.nil_then (hK _ _ ?_); clear hK K
    refine AW.ret (RetQ.mk (.inr rfl) (retA_tmp rfl qW11 retA_nil) ⟨rfl, hk⟩)

/-- Where the first stands of which p holds; -1: nowhere. -/
def idxF {α : Type} (p : α → Bool) (l : List α) : Int := match l.findIdx? p with | some k => (k : Nat) | none => -1
theorem idxF_at {α : Type} {p : α → Bool} {l : List α} {k : Nat} (hk : k < l.length) (h1 : p l[k] = true) (h2 : ∀ j (hj : j < l.length), j < k → p l[j] = false) : idxF p l = (k : Nat) := by
  have : l.findIdx? p = some k := List.findIdx?_eq_some_iff_getElem.2 ⟨hk, h1, fun j hj => by simp [h2 j (by omega) hj]⟩
  rw [idxF, this]
theorem idxF_no {α : Type} {p : α → Bool} {l : List α} (h : ∀ j (hj : j < l.length), p l[j] = false) : idxF p l = -1 := by
  have : l.findIdx? p = none := List.findIdx?_eq_none_iff.2 fun x hx => by
    obtain ⟨j, hj, rfl⟩ := List.mem_iff_getElem.1 hx
    simp [h j hj]
  rw [idxF, this]
theorem idxF_find {α : Type} (p : α → Bool) (l : List α) : (idxF p l = -1 ∧ l.find? p = none) ∨ ∃ (k : Nat) (hk : k < l.length), idxF p l = (k : Nat) ∧ l.find? p = some l[k] := by
  cases h : l.findIdx? p with
  | none =>
    left
    refine ⟨by rw [idxF, h], ?_⟩
    rw [List.findIdx?_eq_none_iff] at h
    exact List.find?_eq_none.2 fun x hx => by simp [h x hx]
  | some k =>
    right
    obtain ⟨hk, h1, h2⟩ := List.findIdx?_eq_some_iff_getElem.1 h
    refine ⟨k, hk, by rw [idxF, h], ?_⟩
    rw [List.find?_eq_some_iff_getElem]
    exact ⟨h1, k, hk, rfl, fun j hj => by simpa using h2 j hj⟩

theorem index2_calls (H : AHeap) (l : List Wd) (g : FuncId) (caps : List AV) (p : Wd → Bool) (he : Enters Tryd.prog g) (hlen : l.length ≤ 1000)
    (hp : ∀ a ∈ l, ACalls Tryd.prog g (.agg (c a) :: caps) H (fun v H' => v = .v (.bool (p a)) ∧ H' = H)) :
    ACalls Tryd.prog 15 [vecA l, .func (.func g) caps] H (fun r H' => r = .v (.int .i64 (idxF p l)) ∧ H' = H) := by
  refine ACalls.of_body tok Tryd.func15 rfl Tryd.ntmps15 (Nat.le_of_ble_eq_true rfl) (fun base => ?_)
  refine AW.seq_region (fun K hK => ?_)
  refine AL.step rfl rfl rfl qW15 ?_
  refine AL.nil_then (hK _ _ ?_); clear hK K
  refine AW.seq_k (fun K1 hK1 => ?_)
  refine AW.seq_region (fun K hK => ?_)
  refine AL.step rfl rfl rfl qW16 ?_
  refine AL.step rfl rfl rfl qW220 ?_
  refine AL.step rfl rfl rfl qW16 ?_
  refine AL.nil_then (hK _ _ ?_); clear hK K
  refine AW.block ?_
  refine AW.loop_at (ι := Nat) (fun i => [(8, .v (.int .i64 (i : Nat))), (7, .v (.int .i64 (l.length : Nat))), (1, .func (.func g) caps), (0, vecA l)])
    (fun i H' => i ≤ l.length ∧ H' = H ∧ ∀ j (hj : j < l.length), j < i → p l[j] = false) (fun i => l.length - i) 0 qW221 ⟨Nat.zero_le _, rfl, fun _ _ h => by omega⟩ ?_
  rintro i _ ⟨hi, rfl, hno⟩
  refine AW.seq_region (fun K hK => ?_)
  refine AL.step rfl rfl rfl qW25 ?_
  refine AL.nil_then (hK _ _ ?_); clear hK K
  refine AW.seq_k (fun K2 hK2 => ?_)
  refine AW.cond _ rfl (fun hc => ?_) (fun hc => ?_)
  · have hc := of_decide_eq_true hc
    have hil : i < l.length := by omega
    refine AW.skip ?_
    refine hK2 _ _ ?_; clear hK2 K2
    refine AW.seq_k (fun K3 hK3 => ?_)
    refine AW.block ?_
    refine AW.seq_region (fun K hK => ?_)
    refine AL.step rfl rfl rfl qW16 ?_
    refine AL.step rfl rfl rfl qW15 ?_
    refine AL.nil_then (hK _ _ ?_); clear hK K
    refine AW.seq_region (fun K hK => ?_)
    refine AL.step rfl rfl rfl qW16 ?_
    refine AL.step rfl rfl rfl qW16 ?_
    refine AL.step rfl rfl rfl qW16 ?_
    refine AL.step rfl rfl rfl qW225 ?_
    refine AL.step rfl rfl rfl qW232 ?_
    refine AL.step rfl rfl rfl (by exact AStepD.callv rfl rfl he rfl (hp _ (List.getElem_mem hil))) ?_
    refine AL.nil_then (hK _ _ ?_); clear hK K
    refine AW.cond _ rfl (fun hc => ?_) (fun hc => ?_)
    · refine AW.seq_region (fun K hK => ?_)
      refine AL.step rfl rfl rfl qW16 ?_
      refine AL.step rfl rfl rfl qW15 ?_
      refine AL.nil_then (hK _ _ ?_); clear hK K
      refine AW.ret (RetQ.mk (.inr rfl) (retA_tmp rfl qW11 retA_nil) ⟨?_, rfl⟩)
      rw [idxF_at hil hc hno]; rfl
    · refine AW.skip ?_
      refine hK3 _ _ ?_; clear hK3 K3
      refine AW.region ?_
      refine AL.step rfl rfl rfl (by first | exact AStepD.add rfl rfl rfl (by first | exact IntWalk.i64_in _ (by omega) | exact IntWalk.i64_in _ (by simp only [Bool.or_eq_true, Bool.and_eq_true, Bool.or_eq_false_iff, Bool.and_eq_false_iff, Bool.not_eq_true', Bool.not_eq_false', decide_eq_true_eq, decide_eq_false_iff_not, Int.not_lt, Int.not_le, beq_iff_eq] at *; omega) | exact rfl) | exact AStepD.str_add rfl rfl rfl (by omega)) ?_
      refine AL.step rfl rfl rfl qW16 ?_
      refine AL.nil ?_
      refine ⟨i + 1, by omega, qW221, hil, rfl, fun j hj hji => ?_⟩
      rcases Nat.lt_succ_iff_lt_or_eq.1 hji with h | rfl
      · exact hno j hj h
      · exact hc
  · have hc := of_decide_eq_false hc
    have hil : i = l.length := by omega
    refine AW.exit ?_
    refine hK1 _ _ ?_; try clear hK1 K1
    refine AW.seq_region (fun K hK => ?_)
    refine AL.step rfl rfl rfl qW15 ?_
    refine AL.nil_then (hK _ _ ?_); clear hK K
    refine AW.ret (RetQ.mk (.inr rfl) (retA_tmp rfl qW11 retA_nil) ⟨?_, rfl⟩)
    rw [idxF_no fun j hj => hno j hj (by omega)]; rfl

theorem isname_calls (H : AHeap) (a : Wd) (first : List UInt8) (X : Nat) (hf : first.length ≤ 1000000) (hX : H.get X = some (.cells 9 [strA first])) : ACalls Tryd.prog 16 [.agg (c a), .ptr X 0] H (fun v H' => v = .v (.bool (decide (a.name = bigL first))) ∧ H' = H) := by
  refine ACalls.quiet_keep ?_ (.v _)
  refine ACalls.lts fun hlt => ?_
  have hXn := hlt _ _ hX
  refine ACalls.of_body tok Tryd.func16 rfl Tryd.ntmps16 (Nat.le_of_ble_eq_true rfl) (fun base => ?_)
  refine AW.seq_region (fun K hK => ?_)
  refine AL.step rfl rfl rfl qW226 ?_
  refine AL.step rfl rfl rfl qW15 ?_
  refine AL.nil_then (hK _ _ ?_); clear hK K
  refine AW.seq_k (fun K hK => ?_)
  apply AW.draw mixed [_, _, _, _, _, _] [] [_] [(0, 0), (1, 0), (2, 0), (3, 0), (4, 0), (5, 0)] rfl rfl rfl (by simp only [List.getD_cons_zero, List.getD_cons_succ]; all_goals apply Eq.refl)
  · refine ⟨?_, ?_, ?_, ?_, ?_, ?_⟩
    · refine Ob.mk _ [2] 0 rfl rfl (restr_cons qW11 restr_nil) rfl ?_
      simp only [List.getD_cons_zero, List.getD_cons_succ]
      exact GStep.plain rfl qW233
    · refine Ob.mk _ [4] 0 rfl rfl (restr_cons qW11 restr_nil) rfl ?_
      simp only [List.getD_cons_zero, List.getD_cons_succ]
      exact GStep.plain rfl qW234
    · refine Ob.mk _ [1] 0 rfl rfl (restr_cons qW11 restr_nil) rfl ?_
      simp only [List.getD_cons_zero, List.getD_cons_succ]
      exact GStep.plain rfl qW234
    · refine Ob.mk _ [6] 0 rfl rfl (restr_cons qW11 restr_nil) rfl ?_
      simp only [List.getD_cons_zero, List.getD_cons_succ]
      exact GStep.plain rfl (by exact AStepD.callf rfl en17 rfl (big_calls _ first hf))
    · refine Ob.mk _ [5, 7] 0 rfl rfl (restr_cons qW11 (restr_cons qW11 restr_nil)) rfl ?_
      simp only [List.getD_cons_zero, List.getD_cons_succ]
      exact GStep.plain rfl (by exact AStepD.bool (AStepD.str_eql rfl rfl rfl) (c := decide (a.name = bigL first)) (by rw [str_list, str_list]))
    · refine Ob.mk _ [8] 0 rfl rfl (restr_cons qW11 restr_nil) rfl ?_
      simp only [List.getD_cons_zero, List.getD_cons_succ]
      exact GStep.plain rfl qW15
  refine hK _ _ ?_; clear hK K
  refine AW.frame (by simp only [frameAt, putA]; all_goals exact rfl) (by simp only [List.length_cons, List.length_nil, Nat.zero_add, Nat.reduceAdd, List.getD_cons_zero, List.getD_cons_succ]; all_goals apply Eq.refl) ?_
  refine AW.ret (RetQ.mk (.inr rfl) (retA_tmp rfl qW11 retA_nil) ⟨rfl, qW12⟩)

theorem iskind_calls (H : AHeap) (a : Wd) (l : Ln) (X : Nat) (hX : H.get X = some (.cells 26 (c l))) : ACalls Tryd.prog 26 [.agg (c a), .ptr X 0] H (fun v H' => v = .v (.bool (decide ((a.kind : Int) = l.kind))) ∧ H' = H) := by
  refine ACalls.quiet_keep ?_ (.v _)
  refine ACalls.lts fun hlt => ?_
  have hXn := hlt _ _ hX
  refine ACalls.of_body tok Tryd.func26 rfl Tryd.ntmps26 (Nat.le_of_ble_eq_true rfl) (fun base => ?_)
  refine AW.seq_region (fun K hK => ?_)
  refine AL.step rfl rfl rfl qW226 ?_
  refine AL.step rfl rfl rfl qW15 ?_
  refine AL.nil_then (hK _ _ ?_); clear hK K
  refine AW.seq_region (fun K hK => ?_)
  refine AL.step rfl rfl rfl qW235 ?_
  refine AL.step rfl rfl rfl qW234 ?_
  refine AL.step rfl rfl rfl qW233 ?_
  refine AL.step rfl rfl rfl qW234 ?_
  refine AL.step rfl rfl rfl qW218 ?_
  refine AL.step rfl rfl rfl qW15 ?_
  refine AL.nil_then (hK _ _ ?_); clear hK K
  refine AW.ret (RetQ.mk (.inr rfl) (retA_tmp rfl qW11 retA_nil) ⟨rfl, qW12⟩)

theorem line_calls (H : AHeap) (l : Ln) : ACalls Tryd.prog 10 [.agg (c l)] H (fun v H' => v = .agg (c l) ∧ H' = H) := by
  refine ACalls.quiet_keep ?_ (.agg (Cel.pl l))
  refine ACalls.of_body tok Tryd.func10 rfl Tryd.ntmps10 (Nat.le_of_ble_eq_true rfl) (fun base => ?_)
  refine AW.seq_region (fun K hK => ?_)
  refine AL.step rfl rfl rfl qW226 ?_
  refine AL.step rfl rfl rfl (by exact AStepD.alloc tok rfl rfl) ?_
  refine AL.nil_then (hK _ _ ?_); clear hK K
  refine AW.seq_region (fun K hK => ?_)
  refine AL.step rfl rfl rfl qW233 ?_
  refine AL.step rfl rfl rfl qW234 ?_
  refine AL.step rfl rfl rfl qW235 ?_
  refine AL.step rfl rfl rfl qW234 ?_
  refine AL.step rfl rfl rfl qW229 ?_
  refine AL.step rfl rfl rfl qW234 ?_
  refine AL.step rfl rfl rfl qW230 ?_
  refine AL.step rfl rfl rfl qW234 ?_
  refine AL.step rfl rfl rfl qW219 ?_
  refine AL.step0 rfl rfl qW231 ?_
  refine AL.nil_then (hK _ _ ?_); clear hK K
  refine AW.ret (RetQ.mk (.inr rfl) (by first | exact retA_agg rfl rfl rfl qW222 rfl (show _ = 4 from rfl) qW212 qW214 retA_nil | exact retA_one rfl rfl rfl rfl qW222 rfl qW217 retA_nil) ⟨rfl, qW12⟩)
end Go.Proofs.YtlkbckffeegikaaDoor

/- Walks: the reference's words and numbers. -/

namespace Go.Proofs.YtlkbckffeegikaaDoor
open Go.Ax
open Cel (c)
theorem qW31 {p : Prop} (h : p := by first | exact AStepD.neq rfl rfl rfl | exact AStepD.str_neq rfl rfl rfl | exact (AStepD.ptr_nil tok (.inl ⟨_, _, rfl⟩) rfl rfl rfl).2 rfl | exact (AStepD.nil_nil tok rfl rfl rfl rfl).2 rfl | exact (AStepD.bool_eq tok rfl rfl rfl rfl).2 rfl | exact (AStepD.iface_nil tok rfl rfl rfl rfl).2 rfl | exact (AStepD.nilIface_nil tok rfl rfl rfl rfl).2 rfl) : p := h
theorem qW32 {p : Prop} (h : p := by exact (fun hb => by (try (apply AStepD.uncond 0 rfl (gpf hb))); exact qW16)) : p := h
theorem qW33 {p : Prop} (h : p := by exact (fun _ hb => by (try (apply AStepD.uncond 0 rfl (gpf hb))); exact qW16)) : p := h
theorem qW34 {p : Prop} (h : p := by exact (fun hb => by (try (apply AStepD.uncond 16 rfl (gpf hb))); exact qW16)) : p := h
theorem qW35 {p : Prop} (h : p := by exact (fun _ hb => by (try (apply AStepD.uncond 16 rfl (gpf hb))); exact qW16)) : p := h
theorem qW36 {p : Prop} (h : p := by exact AStepD.gtr rfl rfl rfl) : p := h
theorem qW37 {p : Prop} (h : p := by exact (fun hb => by (try (apply AStepD.uncond 17 rfl (gpf hb))); (try (apply AStepD.uncond 20 rfl (gpf hb))); exact qW224)) : p := h
theorem qW38 {p : Prop} (h : p := by exact (fun _ hb => by (try (apply AStepD.uncond 17 rfl (gpf hb))); (try (apply AStepD.uncond 20 rfl (gpf hb))); exact qW224)) : p := h
theorem qW39 {p : Prop} (h : p := by exact AStepD.index_str tok rfl rfl rfl rfl rfl qW26 qW27) : p := h
theorem qW310 {p : Prop} (h : p := by exact (fun hb => by (try (apply AStepD.uncond 15 rfl (gpf hb))); exact qW218)) : p := h
theorem qW311 {p : Prop} (h : p := by exact (fun _ hb => by (try (apply AStepD.uncond 15 rfl (gpf hb))); exact qW218)) : p := h
theorem qW312 {p : Prop} (h : p := by exact (fun hb => by (try (apply AStepD.uncond 18 rfl (gpf hb))); exact qW220)) : p := h
theorem qW313 {p : Prop} (h : p := by exact (fun _ hb => by (try (apply AStepD.uncond 18 rfl (gpf hb))); exact qW220)) : p := h
theorem qW314 {p : Prop} (h : p := by exact (fun hb => by (try (apply AStepD.uncond 19 rfl (gpf hb))); exact qW36)) : p := h
theorem qW315 {p : Prop} (h : p := by exact (fun _ hb => by (try (apply AStepD.uncond 19 rfl (gpf hb))); exact qW36)) : p := h
theorem qW316 {p : Prop} (h : p := by exact (fun hb => by (try (apply AStepD.uncond 14 rfl (gpf hb))); exact qW39)) : p := h
theorem qW317 {p : Prop} (h : p := by exact (fun _ hb => by (try (apply AStepD.uncond 14 rfl (gpf hb))); exact qW39)) : p := h
set_option linter.unusedSimpArgs false
set_option linter.unusedVariables false

/-- The word of a kind. -/
def wordR (k : Int) : List UInt8 × Nat := match wordsL.find? (fun w => decide ((w.kind : Int) = k)) with | some w => (w.name, w.args) | none => ([], 0)
theorem wordR_none {k : Int} (h : ∀ w ∈ wordsL, (w.kind : Int) ≠ k) : wordR k = ([], 0) := by
  have : wordsL.find? (fun w => decide ((w.kind : Int) = k)) = none := List.find?_eq_none.2 fun w hw => by simpa using h w hw
  rw [wordR, this]
set_option maxHeartbeats 2000000 in
theorem word_calls (H : AHeap) (k : Int) : ACalls Tryd.prog 21 [.v (.int .i64 k)] H (fun r H' => r = .tup [strA (wordR k).1, .v (.int .i64 ((wordR k).2 : Nat))] ∧ H' = H) := by
  refine ACalls.quiet_keep ?_ (.tup (by simp only [List.forall_mem_cons]; exact ⟨.v _, .v _, fun _ h => absurd h List.not_mem_nil⟩))
  refine ACalls.of_body tok Tryd.func21 rfl Tryd.ntmps21 (Nat.le_of_ble_eq_true rfl) (fun base => ?_)
  refine AW.seq_region (fun K hK => ?_)
  refine AL.step rfl rfl rfl qW15 ?_
  refine AL.step rfl rfl rfl qW15 ?_
  refine AL.nil_then (hK _ _ ?_); clear hK K
  refine AW.seq_k (fun K1 hK1 => ?_)
  refine AW.seq_region (fun K hK => ?_)
  refine AL.step rfl rfl rfl qW16 ?_
  refine AL.nil_then (hK _ _ ?_); clear hK K
  refine AW.block ?_
  refine AW.seq_region (fun K hK => ?_)
  refine AL.step rfl rfl rfl qW218 ?_
  refine AL.step rfl rfl rfl qW15 ?_
  refine AL.nil_then (hK _ _ ?_); clear hK K
  refine AW.cond _ rfl (fun hc0 => ?_) (fun hc0 => ?_)
  · obtain rfl : k = 1 := of_decide_eq_true hc0
    refine AW.seq_region (fun K hK => ?_)
    refine AL.step rfl rfl rfl qW15 ?_
    refine AL.step rfl rfl rfl qW15 ?_
    refine AL.nil_then (hK _ _ ?_); clear hK K
    exact AW.ret (RetQ.mk (.inr rfl) (retA_tmp rfl qW11 (retA_tmp rfl qW11 retA_nil)) ⟨rfl, qW12⟩)
  have hn0 := of_decide_eq_false hc0
  clear hc0
  refine AW.seq_region (fun K hK => ?_)
  refine AL.step rfl rfl rfl qW218 ?_
  refine AL.step rfl rfl rfl qW15 ?_
  refine AL.nil_then (hK _ _ ?_); clear hK K
  refine AW.cond _ rfl (fun hc1 => ?_) (fun hc1 => ?_)
  · obtain rfl : k = 2 := of_decide_eq_true hc1
    refine AW.seq_region (fun K hK => ?_)
    refine AL.step rfl rfl rfl qW15 ?_
    refine AL.step rfl rfl rfl qW15 ?_
    refine AL.nil_then (hK _ _ ?_); clear hK K
    exact AW.ret (RetQ.mk (.inr rfl) (retA_tmp rfl qW11 (retA_tmp rfl qW11 retA_nil)) ⟨rfl, qW12⟩)
  have hn1 := of_decide_eq_false hc1
  clear hc1
  refine AW.seq_region (fun K hK => ?_)
  refine AL.step rfl rfl rfl qW218 ?_
  refine AL.step rfl rfl rfl qW15 ?_
  refine AL.nil_then (hK _ _ ?_); clear hK K
  refine AW.cond _ rfl (fun hc2 => ?_) (fun hc2 => ?_)
  · obtain rfl : k = 3 := of_decide_eq_true hc2
    refine AW.seq_region (fun K hK => ?_)
    refine AL.step rfl rfl rfl qW15 ?_
    refine AL.step rfl rfl rfl qW15 ?_
    refine AL.nil_then (hK _ _ ?_); clear hK K
    exact AW.ret (RetQ.mk (.inr rfl) (retA_tmp rfl qW11 (retA_tmp rfl qW11 retA_nil)) ⟨rfl, qW12⟩)
  have hn2 := of_decide_eq_false hc2
  clear hc2
  refine AW.seq_region (fun K hK => ?_)
  refine AL.step rfl rfl rfl qW218 ?_
  refine AL.step rfl rfl rfl qW15 ?_
  refine AL.nil_then (hK _ _ ?_); clear hK K
  refine AW.cond _ rfl (fun hc3 => ?_) (fun hc3 => ?_)
  · obtain rfl : k = 4 := of_decide_eq_true hc3
    refine AW.seq_region (fun K hK => ?_)
    refine AL.step rfl rfl rfl qW15 ?_
    refine AL.step rfl rfl rfl qW15 ?_
    refine AL.nil_then (hK _ _ ?_); clear hK K
    exact AW.ret (RetQ.mk (.inr rfl) (retA_tmp rfl qW11 (retA_tmp rfl qW11 retA_nil)) ⟨rfl, qW12⟩)
  have hn3 := of_decide_eq_false hc3
  clear hc3
  refine AW.seq_region (fun K hK => ?_)
  refine AL.step rfl rfl rfl qW218 ?_
  refine AL.step rfl rfl rfl qW15 ?_
  refine AL.nil_then (hK _ _ ?_); clear hK K
  refine AW.cond _ rfl (fun hc4 => ?_) (fun hc4 => ?_)
  · obtain rfl : k = 5 := of_decide_eq_true hc4
    refine AW.seq_region (fun K hK => ?_)
    refine AL.step rfl rfl rfl qW15 ?_
    refine AL.step rfl rfl rfl qW15 ?_
    refine AL.nil_then (hK _ _ ?_); clear hK K
    exact AW.ret (RetQ.mk (.inr rfl) (retA_tmp rfl qW11 (retA_tmp rfl qW11 retA_nil)) ⟨rfl, qW12⟩)
  have hn4 := of_decide_eq_false hc4
  clear hc4
  refine AW.seq_region (fun K hK => ?_)
  refine AL.step rfl rfl rfl qW218 ?_
  refine AL.step rfl rfl rfl qW15 ?_
  refine AL.nil_then (hK _ _ ?_); clear hK K
  refine AW.cond _ rfl (fun hc5 => ?_) (fun hc5 => ?_)
  · obtain rfl : k = 6 := of_decide_eq_true hc5
    refine AW.seq_region (fun K hK => ?_)
    refine AL.step rfl rfl rfl qW15 ?_
    refine AL.step rfl rfl rfl qW15 ?_
    refine AL.nil_then (hK _ _ ?_); clear hK K
    exact AW.ret (RetQ.mk (.inr rfl) (retA_tmp rfl qW11 (retA_tmp rfl qW11 retA_nil)) ⟨rfl, qW12⟩)
  have hn5 := of_decide_eq_false hc5
  clear hc5
  refine AW.seq_region (fun K hK => ?_)
  refine AL.step rfl rfl rfl qW218 ?_
  refine AL.step rfl rfl rfl qW15 ?_
  refine AL.nil_then (hK _ _ ?_); clear hK K
  refine AW.cond _ rfl (fun hc6 => ?_) (fun hc6 => ?_)
  · obtain rfl : k = 7 := of_decide_eq_true hc6
    refine AW.seq_region (fun K hK => ?_)
    refine AL.step rfl rfl rfl qW15 ?_
    refine AL.step rfl rfl rfl qW15 ?_
    refine AL.nil_then (hK _ _ ?_); clear hK K
    exact AW.ret (RetQ.mk (.inr rfl) (retA_tmp rfl qW11 (retA_tmp rfl qW11 retA_nil)) ⟨rfl, qW12⟩)
  have hn6 := of_decide_eq_false hc6
  clear hc6
  refine AW.seq_region (fun K hK => ?_)
  refine AL.step rfl rfl rfl qW218 ?_
  refine AL.step rfl rfl rfl qW15 ?_
  refine AL.nil_then (hK _ _ ?_); clear hK K
  refine AW.cond _ rfl (fun hc7 => ?_) (fun hc7 => ?_)
  · obtain rfl : k = 8 := of_decide_eq_true hc7
    refine AW.seq_region (fun K hK => ?_)
    refine AL.step rfl rfl rfl qW15 ?_
    refine AL.step rfl rfl rfl qW15 ?_
    refine AL.nil_then (hK _ _ ?_); clear hK K
    exact AW.ret (RetQ.mk (.inr rfl) (retA_tmp rfl qW11 (retA_tmp rfl qW11 retA_nil)) ⟨rfl, qW12⟩)
  have hn7 := of_decide_eq_false hc7
  clear hc7
  refine AW.seq_region (fun K hK => ?_)
  refine AL.step rfl rfl rfl qW218 ?_
  refine AL.step rfl rfl rfl qW15 ?_
  refine AL.nil_then (hK _ _ ?_); clear hK K
  refine AW.cond _ rfl (fun hc8 => ?_) (fun hc8 => ?_)
  · obtain rfl : k = 9 := of_decide_eq_true hc8
    refine AW.seq_region (fun K hK => ?_)
    refine AL.step rfl rfl rfl qW15 ?_
    refine AL.step rfl rfl rfl qW15 ?_
    refine AL.nil_then (hK _ _ ?_); clear hK K
    exact AW.ret (RetQ.mk (.inr rfl) (retA_tmp rfl qW11 (retA_tmp rfl qW11 retA_nil)) ⟨rfl, qW12⟩)
  have hn8 := of_decide_eq_false hc8
  clear hc8
  refine AW.seq_region (fun K hK => ?_)
  refine AL.step rfl rfl rfl qW218 ?_
  refine AL.step rfl rfl rfl qW15 ?_
  refine AL.nil_then (hK _ _ ?_); clear hK K
  refine AW.cond _ rfl (fun hc9 => ?_) (fun hc9 => ?_)
  · obtain rfl : k = 11 := of_decide_eq_true hc9
    refine AW.seq_region (fun K hK => ?_)
    refine AL.step rfl rfl rfl qW15 ?_
    refine AL.step rfl rfl rfl qW15 ?_
    refine AL.nil_then (hK _ _ ?_); clear hK K
    exact AW.ret (RetQ.mk (.inr rfl) (retA_tmp rfl qW11 (retA_tmp rfl qW11 retA_nil)) ⟨rfl, qW12⟩)
  have hn9 := of_decide_eq_false hc9
  clear hc9
  refine AW.seq_region (fun K hK => ?_)
  refine AL.step rfl rfl rfl qW218 ?_
  refine AL.step rfl rfl rfl qW15 ?_
  refine AL.nil_then (hK _ _ ?_); clear hK K
  refine AW.cond _ rfl (fun hc10 => ?_) (fun hc10 => ?_)
  · obtain rfl : k = 12 := of_decide_eq_true hc10
    refine AW.seq_region (fun K hK => ?_)
    refine AL.step rfl rfl rfl qW15 ?_
    refine AL.step rfl rfl rfl qW15 ?_
    refine AL.nil_then (hK _ _ ?_); clear hK K
    exact AW.ret (RetQ.mk (.inr rfl) (retA_tmp rfl qW11 (retA_tmp rfl qW11 retA_nil)) ⟨rfl, qW12⟩)
  have hn10 := of_decide_eq_false hc10
  clear hc10
  refine AW.seq_region (fun K hK => ?_)
  refine AL.step rfl rfl rfl qW218 ?_
  refine AL.step rfl rfl rfl qW15 ?_
  refine AL.nil_then (hK _ _ ?_); clear hK K
  refine AW.cond _ rfl (fun hc11 => ?_) (fun hc11 => ?_)
  · obtain rfl : k = 13 := of_decide_eq_true hc11
    refine AW.seq_region (fun K hK => ?_)
    refine AL.step rfl rfl rfl qW15 ?_
    refine AL.step rfl rfl rfl qW15 ?_
    refine AL.nil_then (hK _ _ ?_); clear hK K
    exact AW.ret (RetQ.mk (.inr rfl) (retA_tmp rfl qW11 (retA_tmp rfl qW11 retA_nil)) ⟨rfl, qW12⟩)
  have hn11 := of_decide_eq_false hc11
  clear hc11
  refine AW.seq_region (fun K hK => ?_)
  refine AL.step rfl rfl rfl qW218 ?_
  refine AL.step rfl rfl rfl qW15 ?_
  refine AL.nil_then (hK _ _ ?_); clear hK K
  refine AW.cond _ rfl (fun hc12 => ?_) (fun hc12 => ?_)
  · obtain rfl : k = 14 := of_decide_eq_true hc12
    refine AW.seq_region (fun K hK => ?_)
    refine AL.step rfl rfl rfl qW15 ?_
    refine AL.step rfl rfl rfl qW15 ?_
    refine AL.nil_then (hK _ _ ?_); clear hK K
    exact AW.ret (RetQ.mk (.inr rfl) (retA_tmp rfl qW11 (retA_tmp rfl qW11 retA_nil)) ⟨rfl, qW12⟩)
  have hn12 := of_decide_eq_false hc12
  clear hc12
  refine AW.seq_region (fun K hK => ?_)
  refine AL.step rfl rfl rfl qW218 ?_
  refine AL.step rfl rfl rfl qW15 ?_
  refine AL.nil_then (hK _ _ ?_); clear hK K
  refine AW.cond _ rfl (fun hc13 => ?_) (fun hc13 => ?_)
  · obtain rfl : k = 15 := of_decide_eq_true hc13
    refine AW.seq_region (fun K hK => ?_)
    refine AL.step rfl rfl rfl qW15 ?_
    refine AL.step rfl rfl rfl qW15 ?_
    refine AL.nil_then (hK _ _ ?_); clear hK K
    exact AW.ret (RetQ.mk (.inr rfl) (retA_tmp rfl qW11 (retA_tmp rfl qW11 retA_nil)) ⟨rfl, qW12⟩)
  have hn13 := of_decide_eq_false hc13
  clear hc13
  refine AW.seq_region (fun K hK => ?_)
  refine AL.step rfl rfl rfl qW218 ?_
  refine AL.step rfl rfl rfl qW15 ?_
  refine AL.nil_then (hK _ _ ?_); clear hK K
  refine AW.cond _ rfl (fun hc14 => ?_) (fun hc14 => ?_)
  · obtain rfl : k = 16 := of_decide_eq_true hc14
    refine AW.seq_region (fun K hK => ?_)
    refine AL.step rfl rfl rfl qW15 ?_
    refine AL.step rfl rfl rfl qW15 ?_
    refine AL.nil_then (hK _ _ ?_); clear hK K
    exact AW.ret (RetQ.mk (.inr rfl) (retA_tmp rfl qW11 (retA_tmp rfl qW11 retA_nil)) ⟨rfl, qW12⟩)
  have hn14 := of_decide_eq_false hc14
  clear hc14
  refine AW.skip ?_
  refine hK1 _ _ ?_; try clear hK1 K1
  have hno : wordR k = ([], 0) := wordR_none fun w hw e => by
    simp only [wordsL, List.mem_cons, List.not_mem_nil, or_false] at hw
    rcases hw with rfl | rfl | rfl | rfl | rfl | rfl | rfl | rfl | rfl | rfl | rfl | rfl | rfl | rfl | rfl
    all_goals (simp only at e; omega)
  refine AW.seq_region (fun K hK => ?_)
  refine AL.step rfl rfl rfl qW15 ?_
  refine AL.step rfl rfl rfl qW15 ?_
  refine AL.nil_then (hK _ _ ?_); clear hK K
  refine AW.ret (RetQ.mk (.inr rfl) (retA_tmp rfl qW11 (retA_tmp rfl qW11 retA_nil)) ⟨?_, qW12⟩)
  rw [hno]; rfl

theorem big_take (l : List UInt8) (i : Nat) : (bigL l).take i = bigL (l.take i) := by simp [bigL, List.map_take]
set_option maxHeartbeats 2000000 in
theorem alike_calls (H : AHeap) (a b : List UInt8) (ha : a.length ≤ 1000000) : ACalls Tryd.prog 22 [strA a, strA b] H (fun r H' => r = .v (.bool (decide (bigL a = b))) ∧ H' = H) := by
  refine ACalls.quiet_keep ?_ (.v _)
  refine ACalls.of_body tok Tryd.func22 rfl Tryd.ntmps22 (Nat.le_of_ble_eq_true rfl) (fun base => ?_)
  refine AW.seq_region (fun K hK => ?_)
  refine AL.step rfl rfl rfl qW15 ?_
  refine AL.nil_then (hK _ _ ?_); clear hK K
  refine AW.seq_k (fun K1 hK1 => ?_)
  refine AW.seq_region (fun K hK => ?_)
  refine AL.step rfl rfl rfl qW16 ?_
  refine AL.step rfl rfl rfl (by exact strA_len tok rfl rfl rfl rfl) ?_
  refine AL.step rfl rfl rfl qW16 ?_
  refine AL.step rfl rfl rfl (by exact strA_len tok rfl rfl rfl rfl) ?_
  refine AL.step rfl rfl rfl qW31 ?_
  refine AL.nil_then (hK _ _ ?_); clear hK K
  refine AW.cond _ rfl (fun hc => ?_) (fun hc => ?_)
  · have hne : a.length ≠ b.length := fun e => by
      have := of_decide_eq_true hc
      omega
    refine AW.seq_region (fun K hK => ?_)
    refine AL.step rfl rfl rfl qW15 ?_
    refine AL.nil_then (hK _ _ ?_); clear hK K
    refine AW.ret (RetQ.mk (.inr rfl) (retA_tmp rfl qW11 retA_nil) ⟨?_, qW12⟩)
    rw [decide_eq_false (fun e => hne (by rw [← e, big_len]))]; rfl
  have hlen : a.length = b.length := by
    have := of_decide_eq_false hc
    omega
  clear hc
  refine AW.skip ?_
  refine hK1 _ _ ?_; try clear hK1 K1
  refine AW.seq_k (fun K2 hK2 => ?_)
  refine AW.seq_region (fun K hK => ?_)
  refine AL.step rfl rfl rfl qW15 ?_
  refine AL.nil_then (hK _ _ ?_); clear hK K
  refine AW.block ?_
  refine AW.loop_at (ι := Nat) (fun i => [(5, .v (.int .i64 (i : Nat))), (1, strA b), (0, strA a)])
    (fun i H' => i ≤ a.length ∧ bigL (a.take i) = b.take i ∧ Keep H H') (fun i => a.length - i) 0 qW221 ⟨Nat.zero_le _, rfl, qW12⟩ ?_
  rintro i H2 ⟨hi, hs, hk⟩
  refine AW.seq_k (fun K3 hK3 => ?_)
  refine AW.seq_region (fun K hK => ?_)
  refine AL.step rfl rfl rfl qW16 ?_
  refine AL.step rfl rfl rfl qW16 ?_
  refine AL.step rfl rfl rfl (by exact strA_len tok rfl rfl rfl rfl) ?_
  refine AL.step rfl rfl rfl qW25 ?_
  refine AL.nil_then (hK _ _ ?_); clear hK K
  refine AW.cond _ rfl (fun hc => ?_) (fun hc => ?_)
  · have hil : i < a.length := by simpa using hc
    have hib : i < b.length := by omega
    clear hc
    have hbig := big_toNat a[i]
    have hga : at8 a i = a[i].toNat := by rw [at8, List.getD_eq_getElem?_getD, List.getElem?_eq_getElem hil]; rfl
    have hgb : at8 b i = b[i].toNat := by rw [at8, List.getD_eq_getElem?_getD, List.getElem?_eq_getElem hib]; rfl
    have hnx : bigL (a.take (i + 1)) = bigL (a.take i) ++ [bigB a[i]] := by rw [List.take_succ_eq_append_getElem hil, bigL, List.map_append]; rfl
    have hnb : b.take (i + 1) = b.take i ++ [b[i]] := List.take_succ_eq_append_getElem hib
    refine AW.skip ?_
    refine hK3 _ _ ?_; try clear hK3 K3
    refine AW.seq_k (fun K4 hK4 => ?_)
    refine AW.block ?_
    refine AW.seq_region (fun K hK => ?_)
    refine AL.step rfl rfl rfl qW16 ?_
    refine AL.step rfl rfl rfl qW16 ?_
    refine AL.step rfl rfl rfl (by exact strA_index (i := i) tok rfl rfl rfl rfl rfl rfl hil) ?_
    refine AL.step rfl rfl rfl qW15 ?_
    refine AL.nil_then (hK _ _ ?_); clear hK K
    rw [hga]
    refine AW.seq_k (fun K5 hK5 => ?_)
    have hgo : ∀ T', SubT T' [(6, .v (.int .u8 ((bigB a[i]).toNat : Int))), (5, .v (.int .i64 (i : Nat))), (1, strA b), (0, strA a)] → K5 T' H2 := fun T' hT' => by
      refine hK5 _ _ ?_
      refine AW.sub hT' ?_
      clear hT' hK5 K5
      refine AW.seq_region (fun K hK => ?_)
      refine AL.step rfl rfl rfl qW16 ?_
      refine AL.step rfl rfl rfl qW16 ?_
      refine AL.step rfl rfl rfl qW16 ?_
      refine AL.step rfl rfl rfl (by exact strA_index (i := i) tok rfl rfl rfl rfl rfl rfl hib) ?_
      refine AL.step rfl rfl rfl (by exact AStepD.bool (AStepD.neq rfl rfl rfl) (c := decide (bigB a[i] ≠ b[i])) (decide_eq_decide.2 (by rw [hgb]; exact not_congr ⟨fun e => UInt8.toNat_inj.1 (by omega), fun e => by rw [e]⟩))) ?_
      refine AL.nil_then (hK _ _ ?_); clear hK K
      refine AW.cond _ rfl (fun hc => ?_) (fun hc => ?_)
      · have hne : bigB a[i] ≠ b[i] := of_decide_eq_true hc
        refine AW.seq_region (fun K hK => ?_)
        refine AL.step rfl rfl rfl qW15 ?_
        refine AL.nil_then (hK _ _ ?_); clear hK K
        refine AW.ret (RetQ.mk (.inr rfl) (retA_tmp rfl qW11 retA_nil) ⟨?_, hk⟩)
        rw [decide_eq_false]; rfl
        intro e
        have h1 := congrArg (fun q => q[i]?) e
        simp only [bigL, List.getElem?_map, List.getElem?_eq_getElem hil, List.getElem?_eq_getElem hib, Option.map_some, Option.some.injEq] at h1
        exact hne h1
      · have he : bigB a[i] = b[i] := by
          have := of_decide_eq_false hc
          exact Decidable.not_not.1 this
        refine AW.skip ?_
        refine hK4 _ _ ?_; try clear hK4 K4
        refine AW.region ?_
        refine AL.step rfl rfl rfl qW16 ?_
        refine AL.step rfl rfl rfl (by first | exact AStepD.add rfl rfl rfl (by first | exact IntWalk.i64_in _ (by omega) | exact IntWalk.i64_in _ (by simp only [Bool.or_eq_true, Bool.and_eq_true, Bool.or_eq_false_iff, Bool.and_eq_false_iff, Bool.not_eq_true', Bool.not_eq_false', decide_eq_true_eq, decide_eq_false_iff_not, Int.not_lt, Int.not_le, beq_iff_eq] at *; omega) | exact rfl) | exact AStepD.str_add rfl rfl rfl (by omega)) ?_
        refine AL.step rfl rfl rfl qW15 ?_
        refine AL.nil ?_
        exact ⟨i + 1, by omega, qW221, hil, by rw [hnx, hnb, hs, he], hk⟩
    refine AW.seq_region (fun K hK => ?_)
    refine AL.step rfl rfl rfl qW16 ?_
    refine AL.step rfl rfl rfl (by exact AStepD.geq rfl rfl rfl) ?_
    refine AL.step rfl rfl rfl qW16 ?_
    first | refine AL.gstep rfl rfl rfl rfl rfl rfl rfl qW16 ?_ | refine AL.gskip rfl rfl rfl rfl rfl rfl rfl ?_ | refine AL.gnone rfl rfl rfl rfl rfl ?_ | refine AL.gmay rfl rfl rfl rfl rfl rfl (fun hb => by (try (apply AStepD.uncond 6 rfl (gpf hb))); exact qW16) ?_ | refine AL.gmay2 rfl rfl rfl rfl rfl rfl (fun _ hb => by (try (apply AStepD.uncond 6 rfl (gpf hb))); exact qW16) ?_
    first | refine AL.gstep rfl rfl rfl rfl rfl rfl rfl qW29 ?_ | refine AL.gskip rfl rfl rfl rfl rfl rfl rfl ?_ | refine AL.gnone rfl rfl rfl rfl rfl ?_ | refine AL.gmay rfl rfl rfl rfl rfl rfl (fun hb => by (try (apply AStepD.uncond 24 rfl (gpf hb))); exact qW29) ?_ | refine AL.gmay2 rfl rfl rfl rfl rfl rfl (fun _ hb => by (try (apply AStepD.uncond 24 rfl (gpf hb))); exact qW29) ?_
    refine AL.step rfl rfl rfl qW224 ?_
    refine AL.nil_then (hK _ _ ?_); clear hK K
    refine AW.cond _ rfl (fun hc => ?_) (fun hc => ?_)
    · have hb : 97 ≤ a[i].toNat ∧ a[i].toNat ≤ 122 := by
        simp only [Bool.and_eq_true, decide_eq_true_eq] at hc
        omega
      rw [if_pos hb] at hbig
      clear hc
      refine AW.region ?_
      refine AL.step rfl rfl rfl qW16 ?_
      refine AL.step rfl rfl rfl (by exact AStepD.sub (r := ((bigB a[i]).toNat : Int)) rfl rfl rfl (by rw [hbig, show (a[i].toNat : Int) - 32 = ((a[i].toNat - 32 : Nat) : Int) by omega]; exact IntWalk.u8_in _ (by omega))) ?_
      refine AL.step rfl rfl rfl qW15 ?_
      refine AL.nil ?_
      exact hgo _ qW221
    · have hb : ¬ (97 ≤ a[i].toNat ∧ a[i].toNat ≤ 122) := by
        simp only [Bool.and_eq_false_iff, decide_eq_false_iff_not] at hc
        omega
      rw [if_neg hb] at hbig
      rw [hbig] at hgo
      refine AW.skip ?_
      exact hgo _ qW221
  · have hil : i = a.length := by
      have : ¬ i < a.length := by simpa using hc
      omega
    rw [hil, List.take_length, hlen, List.take_length] at hs
    refine AW.exit ?_
    refine hK2 _ _ ?_; try clear hK2 K2
    refine AW.seq_region (fun K hK => ?_)
    refine AL.step rfl rfl rfl qW15 ?_
    refine AL.nil_then (hK _ _ ?_); clear hK K
    refine AW.ret (RetQ.mk (.inr rfl) (retA_tmp rfl qW11 retA_nil) ⟨?_, hk⟩)
    rw [decide_eq_true hs]; rfl

theorem at8_elem {l : List UInt8} {i : Nat} (h : i < l.length) : at8 l i = l[i].toNat := by rw [at8, List.getD_eq_getElem?_getD, List.getElem?_eq_getElem h]; rfl
theorem valF_bound : ∀ (l : List UInt8) (acc k : Nat), l.all isD = true → acc < 10 ^ k → valF acc l < 10 ^ (k + l.length)
  | [], acc, k, _, h => h
  | b :: r, acc, k, hd, h => by
    simp only [List.all_cons, Bool.and_eq_true] at hd
    have hb := isD_of hd.1
    have := valF_bound r (10 * acc + (b.toNat - 48)) (k + 1) hd.2 (by rw [Nat.pow_succ]; omega)
    rw [List.length_cons, show k + (r.length + 1) = k + 1 + r.length by omega]
    exact this
set_option maxHeartbeats 2000000 in
theorem numR_calls (H : AHeap) (l : List UInt8) (hl : l.length ≤ 1000000) : ACalls Tryd.prog 23 [strA l] H (fun r H' => r = .v (.int .i64 (numR l)) ∧ H' = H) := by
  refine ACalls.quiet_keep ?_ (.v _)
  have hhead : ∀ h : 0 < l.length, decide (((at8 l 0 : Nat) : Int) = 48) = decide (l.head? = some 48) := fun h => by
    cases l with
    | nil => simp at h
    | cons b r =>
      apply decide_eq_decide.2
      have h48 : (48 : UInt8).toNat = 48 := rfl
      show ((b.toNat : Nat) : Int) = 48 ↔ some b = some 48
      constructor
      · intro e; rw [UInt8.toNat_inj.1 (by omega : b.toNat = (48 : UInt8).toNat)]
      · intro e; cases e; rfl
  by_cases h15 : 0 < l.length ∧ l.length ≤ 15
  · refine ACalls.of_body tok Tryd.func23 rfl Tryd.ntmps23 (Nat.le_of_ble_eq_true rfl) (fun base => ?_)
    refine AW.seq_region (fun K hK => ?_)
    refine AL.step rfl rfl rfl qW15 ?_
    refine AL.nil_then (hK _ _ ?_); clear hK K
    refine AW.seq_k (fun K1 hK1 => ?_)
    obtain ⟨h1, h2⟩ := h15
    refine AW.seq_region (fun K hK => ?_)
    refine AL.step rfl rfl rfl qW16 ?_
    refine AL.step rfl rfl rfl (by exact strA_len tok rfl rfl rfl rfl) ?_
    refine AL.step rfl rfl rfl (by exact AStepD.bool (AStepD.lss rfl rfl rfl) (c := false) (decide_eq_false (by omega))) ?_
    refine AL.step rfl rfl rfl qW16 ?_
    first | refine AL.gstep rfl rfl rfl rfl rfl rfl rfl qW16 ?_ | refine AL.gskip rfl rfl rfl rfl rfl rfl rfl ?_ | refine AL.gnone rfl rfl rfl rfl rfl ?_ | refine AL.gmay rfl rfl rfl rfl rfl rfl qW32 ?_ | refine AL.gmay2 rfl rfl rfl rfl rfl rfl qW33 ?_
    first | refine AL.gstep rfl rfl rfl rfl rfl rfl rfl (by exact strA_len tok rfl rfl rfl rfl) ?_ | refine AL.gskip rfl rfl rfl rfl rfl rfl rfl ?_ | refine AL.gnone rfl rfl rfl rfl rfl ?_ | refine AL.gmay rfl rfl rfl rfl rfl rfl (fun hb => by (try (apply AStepD.uncond 9 rfl (gpf hb))); exact (by exact strA_len tok rfl rfl rfl rfl)) ?_ | refine AL.gmay2 rfl rfl rfl rfl rfl rfl (fun _ hb => by (try (apply AStepD.uncond 9 rfl (gpf hb))); exact (by exact strA_len tok rfl rfl rfl rfl)) ?_
    first | refine AL.gstep rfl rfl rfl rfl rfl rfl rfl (by exact AStepD.bool (AStepD.gtr rfl rfl rfl) (c := false) (decide_eq_false (by omega))) ?_ | refine AL.gskip rfl rfl rfl rfl rfl rfl rfl ?_ | refine AL.gnone rfl rfl rfl rfl rfl ?_ | refine AL.gmay rfl rfl rfl rfl rfl rfl (fun hb => by (try (apply AStepD.uncond 10 rfl (gpf hb))); exact (by exact AStepD.bool (AStepD.gtr rfl rfl rfl) (c := false) (decide_eq_false (by omega)))) ?_ | refine AL.gmay2 rfl rfl rfl rfl rfl rfl (fun _ hb => by (try (apply AStepD.uncond 10 rfl (gpf hb))); exact (by exact AStepD.bool (AStepD.gtr rfl rfl rfl) (c := false) (decide_eq_false (by omega)))) ?_
    refine AL.step rfl rfl rfl qW224 ?_
    refine AL.step rfl rfl rfl qW16 ?_
    first | refine AL.gstep rfl rfl rfl rfl rfl rfl rfl qW16 ?_ | refine AL.gskip rfl rfl rfl rfl rfl rfl rfl ?_ | refine AL.gnone rfl rfl rfl rfl rfl ?_ | refine AL.gmay rfl rfl rfl rfl rfl rfl qW32 ?_ | refine AL.gmay2 rfl rfl rfl rfl rfl rfl qW33 ?_
    first | refine AL.gstep rfl rfl rfl rfl rfl rfl rfl (by exact strA_index (i := 0) tok rfl rfl rfl rfl rfl rfl h1) ?_ | refine AL.gskip rfl rfl rfl rfl rfl rfl rfl ?_ | refine AL.gnone rfl rfl rfl rfl rfl ?_ | refine AL.gmay rfl rfl rfl rfl rfl rfl (fun hb => by (try (apply AStepD.uncond 14 rfl (gpf hb))); exact (by exact strA_index (i := 0) tok rfl rfl rfl rfl rfl rfl h1)) ?_ | refine AL.gmay2 rfl rfl rfl rfl rfl rfl (fun _ hb => by (try (apply AStepD.uncond 14 rfl (gpf hb))); exact (by exact strA_index (i := 0) tok rfl rfl rfl rfl rfl rfl h1)) ?_
    first | refine AL.gstep rfl rfl rfl rfl rfl rfl rfl (by exact AStepD.bool (AStepD.eql rfl rfl rfl) (hhead h1)) ?_ | refine AL.gskip rfl rfl rfl rfl rfl rfl rfl ?_ | refine AL.gnone rfl rfl rfl rfl rfl ?_ | refine AL.gmay rfl rfl rfl rfl rfl rfl (fun hb => by (try (apply AStepD.uncond 15 rfl (gpf hb))); exact (by exact AStepD.bool (AStepD.eql rfl rfl rfl) (hhead h1))) ?_ | refine AL.gmay2 rfl rfl rfl rfl rfl rfl (fun _ hb => by (try (apply AStepD.uncond 15 rfl (gpf hb))); exact (by exact AStepD.bool (AStepD.eql rfl rfl rfl) (hhead h1))) ?_
    first | refine AL.gstep rfl rfl rfl rfl rfl rfl rfl qW16 ?_ | refine AL.gskip rfl rfl rfl rfl rfl rfl rfl ?_ | refine AL.gnone rfl rfl rfl rfl rfl ?_ | refine AL.gmay rfl rfl rfl rfl rfl rfl qW34 ?_ | refine AL.gmay2 rfl rfl rfl rfl rfl rfl qW35 ?_
    first | refine AL.gstep rfl rfl rfl rfl rfl rfl rfl qW16 ?_ | refine AL.gskip rfl rfl rfl rfl rfl rfl rfl ?_ | refine AL.gnone rfl rfl rfl rfl rfl ?_ | refine AL.gmay rfl rfl rfl rfl rfl rfl qW32 ?_ | refine AL.gmay2 rfl rfl rfl rfl rfl rfl qW33 ?_
    first | refine AL.gstep rfl rfl rfl rfl rfl rfl rfl (by exact strA_len tok rfl rfl rfl rfl) ?_ | refine AL.gskip rfl rfl rfl rfl rfl rfl rfl ?_ | refine AL.gnone rfl rfl rfl rfl rfl ?_ | refine AL.gmay rfl rfl rfl rfl rfl rfl (fun hb => by (try (apply AStepD.uncond 18 rfl (gpf hb))); exact (by exact strA_len tok rfl rfl rfl rfl)) ?_ | refine AL.gmay2 rfl rfl rfl rfl rfl rfl (fun _ hb => by (try (apply AStepD.uncond 18 rfl (gpf hb))); exact (by exact strA_len tok rfl rfl rfl rfl)) ?_
    first | refine AL.gstep rfl rfl rfl rfl rfl rfl rfl qW36 ?_ | refine AL.gskip rfl rfl rfl rfl rfl rfl rfl ?_ | refine AL.gnone rfl rfl rfl rfl rfl ?_ | refine AL.gmay rfl rfl rfl rfl rfl rfl qW314 ?_ | refine AL.gmay2 rfl rfl rfl rfl rfl rfl qW315 ?_
    first | refine AL.gstep rfl rfl rfl rfl rfl rfl rfl qW224 ?_ | refine AL.gskip rfl rfl rfl rfl rfl rfl rfl ?_ | refine AL.gnone rfl rfl rfl rfl rfl ?_ | refine AL.gmay rfl rfl rfl rfl rfl rfl qW37 ?_ | refine AL.gmay2 rfl rfl rfl rfl rfl rfl qW38 ?_
    refine AL.step rfl rfl rfl qW224 ?_
    refine AL.nil_then (hK _ _ ?_); clear hK K
    refine AW.cond _ rfl (fun hc => ?_) (fun hc => ?_)
    · have hno : numR l = -1 := by
        rw [numR, if_neg]
        simp only [Bool.and_eq_true, decide_eq_true_eq] at hc
        simp only [okN, Bool.and_eq_true, Bool.or_eq_true, decide_eq_true_eq]
        rintro ⟨⟨_, e | e⟩, _⟩
        · omega
        · exact e hc.1
      clear hc
      refine AW.seq_region (fun K hK => ?_)
      refine AL.step rfl rfl rfl qW15 ?_
      refine AL.nil_then (hK _ _ ?_); clear hK K
      refine AW.ret (RetQ.mk (.inr rfl) (retA_tmp rfl qW11 retA_nil) ⟨?_, qW12⟩)
      rw [hno]; rfl
    have hlead : l.length = 1 ∨ l.head? ≠ some 48 := by
      simp only [Bool.and_eq_false_iff, decide_eq_false_iff_not] at hc
      rcases hc with hc | hc
      · exact .inr hc
      · exact .inl (by omega)
    clear hc hhead
    refine AW.skip ?_
    refine hK1 _ _ ?_; try clear hK1 K1
    refine AW.seq_region (fun K hK => ?_)
    refine AL.step rfl rfl rfl qW15 ?_
    refine AL.nil_then (hK _ _ ?_); clear hK K
    refine AW.seq_k (fun K2 hK2 => ?_)
    refine AW.seq_region (fun K hK => ?_)
    refine AL.step rfl rfl rfl qW15 ?_
    refine AL.nil_then (hK _ _ ?_); clear hK K
    refine AW.block ?_
    refine AW.loop_at (ι := Nat) (fun i => [(4, .v (.int .i64 (i : Nat))), (3, .v (.int .i64 (valF 0 (l.take i) : Nat))), (0, strA l)])
      (fun i H' => i ≤ l.length ∧ (l.take i).all isD = true ∧ Keep H H') (fun i => l.length - i) 0 qW221 ⟨Nat.zero_le _, rfl, qW12⟩ ?_
    rintro i H2 ⟨hi, hd, hk⟩
    refine AW.seq_k (fun K3 hK3 => ?_)
    refine AW.seq_region (fun K hK => ?_)
    refine AL.step rfl rfl rfl qW16 ?_
    refine AL.step rfl rfl rfl qW16 ?_
    refine AL.step rfl rfl rfl (by exact strA_len tok rfl rfl rfl rfl) ?_
    refine AL.step rfl rfl rfl qW25 ?_
    refine AL.nil_then (hK _ _ ?_); clear hK K
    refine AW.cond _ rfl (fun hc => ?_) (fun hc => ?_)
    · have hil : i < l.length := by simpa using hc
      clear hc
      have hnx : l.take (i + 1) = l.take i ++ [l[i]] := List.take_succ_eq_append_getElem hil
      have h8 := at8_elem hil
      refine AW.skip ?_
      refine hK3 _ _ ?_; try clear hK3 K3
      refine AW.seq_k (fun K4 hK4 => ?_)
      refine AW.block ?_
      refine AW.seq_k (fun K5 hK5 => ?_)
      refine AW.seq_region (fun K hK => ?_)
      refine AL.step rfl rfl rfl qW16 ?_
      refine AL.step rfl rfl rfl qW16 ?_
      refine AL.step rfl rfl rfl (by exact strA_index (i := i) tok rfl rfl rfl rfl rfl rfl hil) ?_
      refine AL.step rfl rfl rfl qW25 ?_
      refine AL.step rfl rfl rfl qW16 ?_
      first | refine AL.gstep rfl rfl rfl rfl rfl rfl rfl qW16 ?_ | refine AL.gskip rfl rfl rfl rfl rfl rfl rfl ?_ | refine AL.gnone rfl rfl rfl rfl rfl ?_ | refine AL.gmay rfl rfl rfl rfl rfl rfl qW32 ?_ | refine AL.gmay2 rfl rfl rfl rfl rfl rfl qW33 ?_
      first | refine AL.gstep rfl rfl rfl rfl rfl rfl rfl qW16 ?_ | refine AL.gskip rfl rfl rfl rfl rfl rfl rfl ?_ | refine AL.gnone rfl rfl rfl rfl rfl ?_ | refine AL.gmay rfl rfl rfl rfl rfl rfl (fun hb => by (try (apply AStepD.uncond 4 rfl (gpf hb))); exact qW16) ?_ | refine AL.gmay2 rfl rfl rfl rfl rfl rfl (fun _ hb => by (try (apply AStepD.uncond 4 rfl (gpf hb))); exact qW16) ?_
      first | refine AL.gstep rfl rfl rfl rfl rfl rfl rfl (by exact strA_index (i := i) tok rfl rfl rfl rfl rfl rfl hil) ?_ | refine AL.gskip rfl rfl rfl rfl rfl rfl rfl ?_ | refine AL.gnone rfl rfl rfl rfl rfl ?_ | refine AL.gmay rfl rfl rfl rfl rfl rfl (fun hb => by (try (apply AStepD.uncond 34 rfl (gpf hb))); (try (apply AStepD.uncond 35 rfl (gpf hb))); exact (by exact strA_index (i := i) tok rfl rfl rfl rfl rfl rfl hil)) ?_ | refine AL.gmay2 rfl rfl rfl rfl rfl rfl (fun _ hb => by (try (apply AStepD.uncond 34 rfl (gpf hb))); (try (apply AStepD.uncond 35 rfl (gpf hb))); exact (by exact strA_index (i := i) tok rfl rfl rfl rfl rfl rfl hil)) ?_
      first | refine AL.gstep rfl rfl rfl rfl rfl rfl rfl qW36 ?_ | refine AL.gskip rfl rfl rfl rfl rfl rfl rfl ?_ | refine AL.gnone rfl rfl rfl rfl rfl ?_ | refine AL.gmay rfl rfl rfl rfl rfl rfl (fun hb => by (try (apply AStepD.uncond 36 rfl (gpf hb))); exact qW36) ?_ | refine AL.gmay2 rfl rfl rfl rfl rfl rfl (fun _ hb => by (try (apply AStepD.uncond 36 rfl (gpf hb))); exact qW36) ?_
      refine AL.step rfl rfl rfl qW224 ?_
      refine AL.nil_then (hK _ _ ?_); clear hK K
      refine AW.cond _ rfl (fun hc => ?_) (fun hc => ?_)
      · have hno : numR l = -1 := by
          rw [numR, if_neg]
          simp only [Bool.or_eq_true, decide_eq_true_eq] at hc
          simp only [okN, Bool.and_eq_true, Bool.or_eq_true, decide_eq_true_eq, List.all_eq_true]
          rintro ⟨⟨⟨_, e⟩, _⟩, _⟩
          have := isD_of (e _ (List.getElem_mem hil))
          omega
        clear hc
        refine AW.seq_region (fun K hK => ?_)
        refine AL.step rfl rfl rfl qW15 ?_
        refine AL.nil_then (hK _ _ ?_); clear hK K
        refine AW.ret (RetQ.mk (.inr rfl) (retA_tmp rfl qW11 retA_nil) ⟨?_, hk⟩)
        rw [hno]; rfl
      · have hdig : 48 ≤ l[i].toNat ∧ l[i].toNat ≤ 57 := by
          simp only [Bool.or_eq_false_iff, decide_eq_false_iff_not] at hc
          omega
        have hb := valF_bound (l.take i) 0 0 hd (by decide)
        have hb2 : 10 ^ (0 + (l.take i).length) ≤ 10 ^ 14 := Nat.pow_le_pow_right (by decide) (by rw [List.length_take]; omega)
        have hb3 : (10 : Nat) ^ 14 = 100000000000000 := by decide
        have hv : valF 0 (l.take (i + 1)) = 10 * valF 0 (l.take i) + (l[i].toNat - 48) := by rw [hnx, valF_snoc]
        clear hc
        refine AW.skip ?_
        refine hK5 _ _ ?_; try clear hK5 K5
        refine AW.region ?_
        refine AL.step rfl rfl rfl qW16 ?_
        refine AL.step rfl rfl rfl (by exact AStepD.mul (r := ((10 * valF 0 (l.take i) : Nat) : Int)) rfl rfl rfl (by rw [Int.natCast_mul]; exact IntWalk.i64_in _ (by omega))) ?_
        refine AL.step rfl rfl rfl qW16 ?_
        refine AL.step rfl rfl rfl qW16 ?_
        refine AL.step rfl rfl rfl (by exact strA_index (i := i) tok rfl rfl rfl rfl rfl rfl hil) ?_
        refine AL.step rfl rfl rfl (by exact AStepD.sub (r := ((l[i].toNat - 48 : Nat) : Int)) rfl rfl rfl (by rw [h8, show ((l[i].toNat : Nat) : Int) - 48 = ((l[i].toNat - 48 : Nat) : Int) by omega]; exact IntWalk.u8_in _ (by omega))) ?_
        refine AL.step rfl rfl rfl (by exact AStepD.convert_int (r := ((l[i].toNat - 48 : Nat) : Int)) tok rfl rfl rfl rfl rfl (IntWalk.i64_in _ (by omega))) ?_
        refine AL.step rfl rfl rfl (by exact AStepD.add (r := ((valF 0 (l.take (i + 1)) : Nat) : Int)) rfl rfl rfl (by rw [hv, Int.natCast_add]; exact IntWalk.i64_in _ (by omega))) ?_
        refine AL.step rfl rfl rfl qW15 ?_
        refine AL.nil ?_
        refine hK4 _ _ ?_; try clear hK4 K4
        refine AW.region ?_
        refine AL.step rfl rfl rfl qW16 ?_
        refine AL.step rfl rfl rfl (by first | exact AStepD.add rfl rfl rfl (by first | exact IntWalk.i64_in _ (by omega) | exact IntWalk.i64_in _ (by simp only [Bool.or_eq_true, Bool.and_eq_true, Bool.or_eq_false_iff, Bool.and_eq_false_iff, Bool.not_eq_true', Bool.not_eq_false', decide_eq_true_eq, decide_eq_false_iff_not, Int.not_lt, Int.not_le, beq_iff_eq] at *; omega) | exact rfl) | exact AStepD.str_add rfl rfl rfl (by omega)) ?_
        refine AL.step rfl rfl rfl qW15 ?_
        refine AL.nil ?_
        refine ⟨i + 1, by omega, qW221, hil, ?_, hk⟩
        rw [hnx, List.all_append, hd]
        simp only [List.all_cons, List.all_nil, isD, Bool.and_true, Bool.true_and, Bool.and_eq_true, decide_eq_true_eq]
        exact hdig
    · have hil : i = l.length := by
        have : ¬ i < l.length := by simpa using hc
        omega
      rw [hil, List.take_length] at hd
      subst hil
      rw [List.take_length]
      have hyes : numR l = (valF 0 l : Nat) := by
        rw [numR, if_pos]
        simp only [okN, Bool.and_eq_true, Bool.or_eq_true, decide_eq_true_eq]
        exact ⟨⟨⟨h1, hd⟩, hlead⟩, h2⟩
      refine AW.exit ?_
      refine hK2 _ _ ?_; try clear hK2 K2
      refine AW.seq_region (fun K hK => ?_)
      refine AL.step rfl rfl rfl qW16 ?_
      refine AL.step rfl rfl rfl qW15 ?_
      refine AL.nil_then (hK _ _ ?_); clear hK K
      refine AW.ret (RetQ.mk (.inr rfl) (retA_tmp rfl qW11 retA_nil) ⟨?_, hk⟩)
      rw [hyes]; rfl
  · have hno : numR l = -1 := by
      rw [numR, if_neg]
      simp only [okN, Bool.and_eq_true, decide_eq_true_eq]
      rintro ⟨⟨⟨e, _⟩, _⟩, e2⟩
      exact h15 ⟨e, e2⟩
    by_cases h0 : 0 < l.length
    · refine ACalls.of_body tok Tryd.func23 rfl Tryd.ntmps23 (Nat.le_of_ble_eq_true rfl) (fun base => ?_)
      refine AW.seq_region (fun K hK => ?_)
      refine AL.step rfl rfl rfl qW15 ?_
      refine AL.nil_then (hK _ _ ?_); clear hK K
      refine AW.seq_k (fun K1 hK1 => ?_)
      refine AW.seq_region (fun K hK => ?_)
      refine AL.step rfl rfl rfl qW16 ?_
      refine AL.step rfl rfl rfl (by exact strA_len tok rfl rfl rfl rfl) ?_
      refine AL.step rfl rfl rfl (by exact AStepD.bool (AStepD.lss rfl rfl rfl) (c := false) (decide_eq_false (by omega))) ?_
      refine AL.step rfl rfl rfl qW16 ?_
      first | refine AL.gstep rfl rfl rfl rfl rfl rfl rfl qW16 ?_ | refine AL.gskip rfl rfl rfl rfl rfl rfl rfl ?_ | refine AL.gnone rfl rfl rfl rfl rfl ?_ | refine AL.gmay rfl rfl rfl rfl rfl rfl qW32 ?_ | refine AL.gmay2 rfl rfl rfl rfl rfl rfl qW33 ?_
      first | refine AL.gstep rfl rfl rfl rfl rfl rfl rfl (by exact strA_len tok rfl rfl rfl rfl) ?_ | refine AL.gskip rfl rfl rfl rfl rfl rfl rfl ?_ | refine AL.gnone rfl rfl rfl rfl rfl ?_ | refine AL.gmay rfl rfl rfl rfl rfl rfl (fun hb => by (try (apply AStepD.uncond 9 rfl (gpf hb))); exact (by exact strA_len tok rfl rfl rfl rfl)) ?_ | refine AL.gmay2 rfl rfl rfl rfl rfl rfl (fun _ hb => by (try (apply AStepD.uncond 9 rfl (gpf hb))); exact (by exact strA_len tok rfl rfl rfl rfl)) ?_
      first | refine AL.gstep rfl rfl rfl rfl rfl rfl rfl (by exact AStepD.bool (AStepD.gtr rfl rfl rfl) (c := true) (decide_eq_true (by omega))) ?_ | refine AL.gskip rfl rfl rfl rfl rfl rfl rfl ?_ | refine AL.gnone rfl rfl rfl rfl rfl ?_ | refine AL.gmay rfl rfl rfl rfl rfl rfl (fun hb => by (try (apply AStepD.uncond 10 rfl (gpf hb))); exact (by exact AStepD.bool (AStepD.gtr rfl rfl rfl) (c := true) (decide_eq_true (by omega)))) ?_ | refine AL.gmay2 rfl rfl rfl rfl rfl rfl (fun _ hb => by (try (apply AStepD.uncond 10 rfl (gpf hb))); exact (by exact AStepD.bool (AStepD.gtr rfl rfl rfl) (c := true) (decide_eq_true (by omega)))) ?_
      refine AL.step rfl rfl rfl qW224 ?_
      refine AL.step rfl rfl rfl qW16 ?_
      first | refine AL.gstep rfl rfl rfl rfl rfl rfl rfl qW16 ?_ | refine AL.gskip rfl rfl rfl rfl rfl rfl rfl ?_ | refine AL.gnone rfl rfl rfl rfl rfl ?_ | refine AL.gmay rfl rfl rfl rfl rfl rfl qW32 ?_ | refine AL.gmay2 rfl rfl rfl rfl rfl rfl qW33 ?_
      first | refine AL.gstep rfl rfl rfl rfl rfl rfl rfl qW39 ?_ | refine AL.gskip rfl rfl rfl rfl rfl rfl rfl ?_ | refine AL.gnone rfl rfl rfl rfl rfl ?_ | refine AL.gmay rfl rfl rfl rfl rfl rfl qW316 ?_ | refine AL.gmay2 rfl rfl rfl rfl rfl rfl qW317 ?_
      first | refine AL.gstep rfl rfl rfl rfl rfl rfl rfl qW218 ?_ | refine AL.gskip rfl rfl rfl rfl rfl rfl rfl ?_ | refine AL.gnone rfl rfl rfl rfl rfl ?_ | refine AL.gmay rfl rfl rfl rfl rfl rfl qW310 ?_ | refine AL.gmay2 rfl rfl rfl rfl rfl rfl qW311 ?_
      first | refine AL.gstep rfl rfl rfl rfl rfl rfl rfl qW16 ?_ | refine AL.gskip rfl rfl rfl rfl rfl rfl rfl ?_ | refine AL.gnone rfl rfl rfl rfl rfl ?_ | refine AL.gmay rfl rfl rfl rfl rfl rfl qW34 ?_ | refine AL.gmay2 rfl rfl rfl rfl rfl rfl qW35 ?_
      first | refine AL.gstep rfl rfl rfl rfl rfl rfl rfl qW16 ?_ | refine AL.gskip rfl rfl rfl rfl rfl rfl rfl ?_ | refine AL.gnone rfl rfl rfl rfl rfl ?_ | refine AL.gmay rfl rfl rfl rfl rfl rfl qW32 ?_ | refine AL.gmay2 rfl rfl rfl rfl rfl rfl qW33 ?_
      first | refine AL.gstep rfl rfl rfl rfl rfl rfl rfl qW220 ?_ | refine AL.gskip rfl rfl rfl rfl rfl rfl rfl ?_ | refine AL.gnone rfl rfl rfl rfl rfl ?_ | refine AL.gmay rfl rfl rfl rfl rfl rfl qW312 ?_ | refine AL.gmay2 rfl rfl rfl rfl rfl rfl qW313 ?_
      first | refine AL.gstep rfl rfl rfl rfl rfl rfl rfl qW36 ?_ | refine AL.gskip rfl rfl rfl rfl rfl rfl rfl ?_ | refine AL.gnone rfl rfl rfl rfl rfl ?_ | refine AL.gmay rfl rfl rfl rfl rfl rfl qW314 ?_ | refine AL.gmay2 rfl rfl rfl rfl rfl rfl qW315 ?_
      first | refine AL.gstep rfl rfl rfl rfl rfl rfl rfl qW224 ?_ | refine AL.gskip rfl rfl rfl rfl rfl rfl rfl ?_ | refine AL.gnone rfl rfl rfl rfl rfl ?_ | refine AL.gmay rfl rfl rfl rfl rfl rfl qW37 ?_ | refine AL.gmay2 rfl rfl rfl rfl rfl rfl qW38 ?_
      refine AL.step rfl rfl rfl qW224 ?_
      refine AL.nil_then (hK _ _ ?_); clear hK K
      refine AW.cond_true rfl rfl ?_
      refine AW.seq_region (fun K hK => ?_)
      refine AL.step rfl rfl rfl qW15 ?_
      refine AL.nil_then (hK _ _ ?_); clear hK K
      refine AW.ret (RetQ.mk (.inr rfl) (retA_tmp rfl qW11 retA_nil) ⟨?_, qW12⟩)
      rw [hno]; rfl
    · refine ACalls.of_body tok Tryd.func23 rfl Tryd.ntmps23 (Nat.le_of_ble_eq_true rfl) (fun base => ?_)
      refine AW.seq_region (fun K hK => ?_)
      refine AL.step rfl rfl rfl qW15 ?_
      refine AL.nil_then (hK _ _ ?_); clear hK K
      refine AW.seq_k (fun K1 hK1 => ?_)
      refine AW.seq_region (fun K hK => ?_)
      refine AL.step rfl rfl rfl qW16 ?_
      refine AL.step rfl rfl rfl (by exact strA_len tok rfl rfl rfl rfl) ?_
      refine AL.step rfl rfl rfl (by exact AStepD.bool (AStepD.lss rfl rfl rfl) (c := true) (decide_eq_true (by omega))) ?_
      refine AL.step rfl rfl rfl qW16 ?_
      first | refine AL.gstep rfl rfl rfl rfl rfl rfl rfl qW16 ?_ | refine AL.gskip rfl rfl rfl rfl rfl rfl rfl ?_ | refine AL.gnone rfl rfl rfl rfl rfl ?_ | refine AL.gmay rfl rfl rfl rfl rfl rfl qW32 ?_ | refine AL.gmay2 rfl rfl rfl rfl rfl rfl qW33 ?_
      first | refine AL.gstep rfl rfl rfl rfl rfl rfl rfl qW220 ?_ | refine AL.gskip rfl rfl rfl rfl rfl rfl rfl ?_ | refine AL.gnone rfl rfl rfl rfl rfl ?_ | refine AL.gmay rfl rfl rfl rfl rfl rfl (fun hb => by (try (apply AStepD.uncond 9 rfl (gpf hb))); exact qW220) ?_ | refine AL.gmay2 rfl rfl rfl rfl rfl rfl (fun _ hb => by (try (apply AStepD.uncond 9 rfl (gpf hb))); exact qW220) ?_
      first | refine AL.gstep rfl rfl rfl rfl rfl rfl rfl qW36 ?_ | refine AL.gskip rfl rfl rfl rfl rfl rfl rfl ?_ | refine AL.gnone rfl rfl rfl rfl rfl ?_ | refine AL.gmay rfl rfl rfl rfl rfl rfl (fun hb => by (try (apply AStepD.uncond 10 rfl (gpf hb))); exact qW36) ?_ | refine AL.gmay2 rfl rfl rfl rfl rfl rfl (fun _ hb => by (try (apply AStepD.uncond 10 rfl (gpf hb))); exact qW36) ?_
      refine AL.step rfl rfl rfl qW224 ?_
      refine AL.step rfl rfl rfl qW16 ?_
      first | refine AL.gstep rfl rfl rfl rfl rfl rfl rfl qW16 ?_ | refine AL.gskip rfl rfl rfl rfl rfl rfl rfl ?_ | refine AL.gnone rfl rfl rfl rfl rfl ?_ | refine AL.gmay rfl rfl rfl rfl rfl rfl qW32 ?_ | refine AL.gmay2 rfl rfl rfl rfl rfl rfl qW33 ?_
      first | refine AL.gstep rfl rfl rfl rfl rfl rfl rfl qW39 ?_ | refine AL.gskip rfl rfl rfl rfl rfl rfl rfl ?_ | refine AL.gnone rfl rfl rfl rfl rfl ?_ | refine AL.gmay rfl rfl rfl rfl rfl rfl qW316 ?_ | refine AL.gmay2 rfl rfl rfl rfl rfl rfl qW317 ?_
      first | refine AL.gstep rfl rfl rfl rfl rfl rfl rfl qW218 ?_ | refine AL.gskip rfl rfl rfl rfl rfl rfl rfl ?_ | refine AL.gnone rfl rfl rfl rfl rfl ?_ | refine AL.gmay rfl rfl rfl rfl rfl rfl qW310 ?_ | refine AL.gmay2 rfl rfl rfl rfl rfl rfl qW311 ?_
      first | refine AL.gstep rfl rfl rfl rfl rfl rfl rfl qW16 ?_ | refine AL.gskip rfl rfl rfl rfl rfl rfl rfl ?_ | refine AL.gnone rfl rfl rfl rfl rfl ?_ | refine AL.gmay rfl rfl rfl rfl rfl rfl qW34 ?_ | refine AL.gmay2 rfl rfl rfl rfl rfl rfl qW35 ?_
      first | refine AL.gstep rfl rfl rfl rfl rfl rfl rfl qW16 ?_ | refine AL.gskip rfl rfl rfl rfl rfl rfl rfl ?_ | refine AL.gnone rfl rfl rfl rfl rfl ?_ | refine AL.gmay rfl rfl rfl rfl rfl rfl qW32 ?_ | refine AL.gmay2 rfl rfl rfl rfl rfl rfl qW33 ?_
      first | refine AL.gstep rfl rfl rfl rfl rfl rfl rfl qW220 ?_ | refine AL.gskip rfl rfl rfl rfl rfl rfl rfl ?_ | refine AL.gnone rfl rfl rfl rfl rfl ?_ | refine AL.gmay rfl rfl rfl rfl rfl rfl qW312 ?_ | refine AL.gmay2 rfl rfl rfl rfl rfl rfl qW313 ?_
      first | refine AL.gstep rfl rfl rfl rfl rfl rfl rfl qW36 ?_ | refine AL.gskip rfl rfl rfl rfl rfl rfl rfl ?_ | refine AL.gnone rfl rfl rfl rfl rfl ?_ | refine AL.gmay rfl rfl rfl rfl rfl rfl qW314 ?_ | refine AL.gmay2 rfl rfl rfl rfl rfl rfl qW315 ?_
      first | refine AL.gstep rfl rfl rfl rfl rfl rfl rfl qW224 ?_ | refine AL.gskip rfl rfl rfl rfl rfl rfl rfl ?_ | refine AL.gnone rfl rfl rfl rfl rfl ?_ | refine AL.gmay rfl rfl rfl rfl rfl rfl qW37 ?_ | refine AL.gmay2 rfl rfl rfl rfl rfl rfl qW38 ?_
      refine AL.step rfl rfl rfl qW224 ?_
      refine AL.nil_then (hK _ _ ?_); clear hK K
      refine AW.cond_true rfl rfl ?_
      refine AW.seq_region (fun K hK => ?_)
      refine AL.step rfl rfl rfl qW15 ?_
      refine AL.nil_then (hK _ _ ?_); clear hK K
      refine AW.ret (RetQ.mk (.inr rfl) (retA_tmp rfl qW11 retA_nil) ⟨?_, qW12⟩)
      rw [hno]; rfl
end Go.Proofs.YtlkbckffeegikaaDoor
