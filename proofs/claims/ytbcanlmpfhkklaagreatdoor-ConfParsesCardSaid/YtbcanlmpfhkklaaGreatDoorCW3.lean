/- Sets and their runs, plainly: a set is its runs, runs that stand apart are those of a set, a text tells its set. -/
import Derived.Test.YtbcanlmpfhkklaaGreatDoorCW2
set_option linter.unusedSimpArgs false
set_option linter.unusedVariables false
namespace Go.Proofs.YtbcanlmpfhkklaaGreatDoor
open Go.Ax
open Cel (c)
set_option linter.unusedSimpArgs false
set_option linter.unusedVariables false

theorem one_bit (i j : Nat) : (1#64 <<< i).getLsbD j = (decide (j < 64) && decide (j = i)) := by
  rw [BitVec.getLsbD_shiftLeft]
  by_cases h1 : j < 64 <;> by_cases h2 : j = i
  · subst h2; simp [h1]
  · by_cases h3 : j < i
    · simp [h1, h2, h3]
    · have : j - i ≠ 0 := by omega
      simp [h1, h2, h3, BitVec.getLsbD_one, this]
  · simp [h1]
  · simp [h1]
theorem rangeB_bit (a b j : Nat) : (rangeB a b).getLsbD j = (decide (j < 64) && decide (a ≤ j) && decide (j < b)) := by
  rcases Nat.lt_or_ge b a with h | h
  · rw [rangeB, Nat.sub_eq_zero_of_le (by omega)]
    show (0#64).getLsbD j = _
    rw [BitVec.getLsbD_zero]
    by_cases h1 : a ≤ j
    · rw [decide_eq_false (by omega : ¬ j < b), Bool.and_false]
    · rw [decide_eq_false h1, Bool.and_false, Bool.false_and]
  · obtain ⟨d, rfl⟩ : ∃ d, b = a + d := ⟨b - a, by omega⟩
    clear h
    induction d with
    | zero =>
      rw [Nat.add_zero, rangeB_nil, BitVec.getLsbD_zero]
      by_cases h1 : a ≤ j
      · rw [decide_eq_false (by omega : ¬ j < a), Bool.and_false]
      · rw [decide_eq_false h1, Bool.and_false, Bool.false_and]
    | succ d ih =>
      rw [show a + (d + 1) = (a + d) + 1 by omega, rangeB_next _ _ (by omega), BitVec.getLsbD_or, ih, one_bit]
      by_cases h0 : j < 64
      · simp only [h0, decide_true, Bool.true_and]
        rw [← Bool.decide_and, ← Bool.decide_or, ← Bool.decide_and]
        exact decide_eq_decide.2 (by omega)
      · simp [h0]
def inR (l : List (Nat × Nat)) (j : Nat) : Bool := l.any fun x => decide (x.1 ≤ j) && decide (j ≤ x.2)
theorem inR_cons (x : Nat × Nat) (l : List (Nat × Nat)) (j : Nat) : inR (x :: l) j = ((decide (x.1 ≤ j) && decide (j ≤ x.2)) || inR l j) := rfl
theorem inR_append (l m : List (Nat × Nat)) (j : Nat) : inR (l ++ m) j = (inR l j || inR m j) := by simp [inR]
theorem inR_low : ∀ {l : List (Nat × Nat)} {lo j : Nat}, Good lo l → j < lo → inR l j = false
  | [], _, _, _, _ => rfl
  | (a, b) :: t, lo, j, ⟨h1, h2, h3, h4⟩, hj => by
    rw [inR_cons, inR_low h4 (by omega), decide_eq_false (by simp only; omega)]; rfl
theorem inR_high : ∀ {l : List (Nat × Nat)} {lo j : Nat}, Good lo l → 64 ≤ j → inR l j = false
  | [], _, _, _, _ => rfl
  | (a, b) :: t, lo, j, ⟨h1, h2, h3, h4⟩, hj => by
    rw [inR_cons, inR_high h4 hj, decide_eq_false (show ¬ j ≤ b by omega), Bool.and_false]; rfl
theorem good_eq : ∀ {l m : List (Nat × Nat)} {x y : Nat}, Good x l → Good y m → (∀ j, inR l j = inR m j) → l = m
  | [], [], _, _, _, _, _ => rfl
  | [], (a, b) :: t, _, _, _, ⟨_, h2, _, _⟩, h => by
    have := h a
    rw [inR_cons, decide_eq_true (Nat.le_refl a), decide_eq_true h2] at this
    cases this
  | (a, b) :: t, [], _, _, ⟨_, h2, _, _⟩, _, h => by
    have := h a
    rw [inR_cons, decide_eq_true (Nat.le_refl a), decide_eq_true h2] at this
    cases this
  | (a, b) :: t, (a', b') :: t', x, y, ⟨g1, g2, g3, g4⟩, ⟨g1', g2', g3', g4'⟩, h => by
    have hG : Good a ((a, b) :: t) := ⟨Nat.le_refl _, g2, g3, g4⟩
    have hG' : Good a' ((a', b') :: t') := ⟨Nat.le_refl _, g2', g3', g4'⟩
    have ea : a = a' := by
      rcases Nat.lt_trichotomy a a' with e | e | e
      · have := h a
        rw [inR_low hG' e, inR_cons, decide_eq_true (Nat.le_refl a), decide_eq_true g2] at this
        cases this
      · exact e
      · have := h a'
        rw [inR_low hG e, inR_cons, decide_eq_true (Nat.le_refl a'), decide_eq_true g2'] at this
        cases this
    subst ea
    have eb : b = b' := by
      rcases Nat.lt_trichotomy b b' with e | e | e
      · have := h (b + 1)
        rw [inR_cons, inR_cons, inR_low g4 (by omega), decide_eq_false (show ¬ b + 1 ≤ b by omega), decide_eq_true (show a ≤ b + 1 by omega), decide_eq_true (show b + 1 ≤ b' by omega)] at this
        cases this
      · exact e
      · have := h (b' + 1)
        rw [inR_cons, inR_cons, inR_low g4' (by omega), decide_eq_false (show ¬ b' + 1 ≤ b' by omega), decide_eq_true (show a ≤ b' + 1 by omega), decide_eq_true (show b' + 1 ≤ b by omega)] at this
        cases this
    subst eb
    have et : t = t' := good_eq g4 g4' fun j => by
      rcases Nat.lt_or_ge j (b + 2) with e | e
      · rw [inR_low g4 e, inR_low g4' e]
      · have := h j
        rwa [inR_cons, inR_cons, decide_eq_false (show ¬ j ≤ b by omega), Bool.and_false, Bool.false_or, Bool.false_or] at this
    rw [et]
def setB (l : List (Nat × Nat)) : BitVec 64 := l.foldl (fun s x => s ||| rangeB x.1 (x.2 + 1)) 0#64
theorem setB_fold (l : List (Nat × Nat)) (s : BitVec 64) (j : Nat) (hj : j < 64) : (l.foldl (fun s x => s ||| rangeB x.1 (x.2 + 1)) s).getLsbD j = (s.getLsbD j || inR l j) := by
  induction l generalizing s with
  | nil => simp [inR]
  | cons x t ih =>
    rw [List.foldl_cons, ih, BitVec.getLsbD_or, rangeB_bit, inR_cons, decide_eq_true hj, Bool.true_and, Bool.or_assoc]
    congr 2
    exact congrArg _ (decide_eq_decide.2 (by omega))
theorem setB_bit (l : List (Nat × Nat)) (j : Nat) (hj : j < 64) : (setB l).getLsbD j = inR l j := by
  rw [setB, setB_fold l _ j hj, BitVec.getLsbD_zero, Bool.false_or]
theorem segs_in (f : Nat → Bool) : ∀ n, n ≤ 64 → ∀ j, j < 64 → inR (segs f n) j = (decide (64 - n ≤ j) && f j)
  | 0, _, j, hj => by
    rw [decide_eq_false (by omega)]; rfl
  | n + 1, hn, j, hj => by
    have ih := segs_in f n (by omega) j hj
    rw [segs]
    by_cases hf : f (63 - n) = true
    · rw [if_pos hf]
      have key : (decide (64 - (n + 1) ≤ j) && f j) = ((decide (63 - n ≤ j) && decide (j ≤ 63 - n)) || (decide (64 - n ≤ j) && f j)) := by
        rcases Nat.lt_trichotomy j (63 - n) with e | e | e
        · rw [decide_eq_false (show ¬ 64 - (n + 1) ≤ j by omega), decide_eq_false (show ¬ 63 - n ≤ j by omega), decide_eq_false (show ¬ 64 - n ≤ j by omega)]; rfl
        · subst e; rw [hf, decide_eq_true (show 64 - (n + 1) ≤ 63 - n by omega), decide_eq_true (Nat.le_refl _)]; rfl
        · rw [decide_eq_true (show 64 - (n + 1) ≤ j by omega), decide_eq_false (show ¬ j ≤ 63 - n by omega), decide_eq_true (show 64 - n ≤ j by omega)]; simp
      have hg := (segs_good f n (by omega)).1
      cases hs : segs f n with
      | nil =>
        rw [hs] at ih
        simp only
        rw [inR_cons, key, ih]
      | cons x t =>
        obtain ⟨a, b⟩ := x
        rw [hs] at ih hg
        simp only
        split
        · rename_i e
          rw [key, ← ih, inR_cons, inR_cons]
          obtain ⟨g1, g2, g3, g4⟩ := hg
          rw [← Bool.or_assoc]
          congr 1
          rw [← Bool.decide_and, ← Bool.decide_and, ← Bool.decide_and, ← Bool.decide_or]
          exact decide_eq_decide.2 (by simp only; omega)
        · rw [key, ← ih, inR_cons]
    · rw [if_neg hf, ih]
      rcases Nat.lt_trichotomy j (63 - n) with e | e | e
      · rw [decide_eq_false (show ¬ 64 - (n + 1) ≤ j by omega), decide_eq_false (show ¬ 64 - n ≤ j by omega)]
      · subst e; rw [eq_false_of_ne_true hf, Bool.and_false, Bool.and_false]
      · rw [decide_eq_true (show 64 - (n + 1) ≤ j by omega), decide_eq_true (show 64 - n ≤ j by omega)]
theorem segsS_in (s : BitVec 64) (j : Nat) : inR (segsS s) j = s.getLsbD j := by
  rcases Nat.lt_or_ge j 64 with h | h
  · rw [segsS, segs_in _ 64 (Nat.le_refl _) j h]; simp
  · rw [inR_high (segsS_good s) h, BitVec.getLsbD_of_ge _ _ h]
theorem setB_segs (s : BitVec 64) : setB (segsS s) = s := by
  apply BitVec.eq_of_getLsbD_eq
  intro j hj
  rw [setB_bit _ _ hj, segsS_in]
theorem segs_setB {l : List (Nat × Nat)} {lo : Nat} (h : Good lo l) : segsS (setB l) = l :=
  good_eq (segsS_good _) h fun j => by
    rw [segsS_in]
    rcases Nat.lt_or_ge j 64 with e | e
    · rw [setB_bit _ _ e]
    · rw [inR_high h e, BitVec.getLsbD_of_ge _ _ e]
end Go.Proofs.YtbcanlmpfhkklaaGreatDoor

/- Reading a set's text, plainly. -/

namespace Go.Proofs.YtbcanlmpfhkklaaGreatDoor
open Go.Ax
open Cel (c)
set_option linter.unusedSimpArgs false
set_option linter.unusedVariables false

def partS (p : List UInt8) : Option (Nat × Nat) :=
  let b := if (cutB 45 p).2.2 then (cutB 45 p).2.1 else (cutB 45 p).1
  if atoiB (cutB 45 p).1 || atoiB b || decide (atoiV (cutB 45 p).1 < 0) || decide (atoiV b < atoiV (cutB 45 p).1) || decide (64 ≤ atoiV b) then none
  else some ((atoiV (cutB 45 p).1).toNat, (atoiV b).toNat)
def loopS : List (List UInt8) → BitVec 64 → Option (BitVec 64)
  | [], s => some s
  | p :: r, s => match partS p with
    | none => none
    | some (a, b) => loopS r (s ||| rangeB a (b + 1))
def parseO (l : List UInt8) : Option (BitVec 64) := if l = [] then some 0#64 else match loopS (splitB 32 l) 0#64 with
  | none => none
  | some s => if textS s = l then some s else none
def parseS (l : List UInt8) : BitVec 64 := (parseO l).getD 0#64
def parseE (l : List UInt8) : Int := if (parseO l).isSome then 0 else 60
theorem split_append (c : UInt8) (x y : List UInt8) : splitB c (x ++ c :: y) = splitB c x ++ splitB c y := by
  induction x with
  | nil => simp [splitB]
  | cons a r ih =>
    rw [List.cons_append, splitB, splitB, ih]
    split
    · rfl
    · have := splitB_ne c r
      cases hs : splitB c r with
      | nil => exact absurd hs this
      | cons u v => rfl
theorem split_len (c : UInt8) : ∀ (l p : List UInt8), p ∈ splitB c l → p.length ≤ l.length
  | [], p, h => by simp [splitB] at h; simp [h]
  | b :: r, p, h => by
    have ih := split_len c r
    rw [splitB] at h
    split at h
    · rcases List.mem_cons.1 h with rfl | h
      · simp
      · have := ih p h
        rw [List.length_cons]; omega
    · cases hs : splitB c r with
      | nil => exact absurd hs (splitB_ne c r)
      | cons x t =>
        rw [hs] at h ih
        rcases List.mem_cons.1 h with rfl | h
        · have := ih x (by simp)
          rw [List.length_cons, List.length_cons]; omega
        · have := ih p (by simp [h])
          rw [List.length_cons]; omega
theorem cut_len (c : UInt8) (l : List UInt8) : (cutB c l).1.length ≤ l.length ∧ (cutB c l).2.1.length ≤ l.length := by
  rw [cutB]
  split
  · simp
  · simp only [List.length_take, List.length_drop]
    omega
theorem split_join (c : UInt8) : ∀ (xs : List (List UInt8)), xs ≠ [] → (∀ x ∈ xs, c ∉ x) → splitB c (Lib.join xs [c]) = xs
  | [], h, _ => absurd rfl h
  | [x], _, h => by rw [Lib.join_one, split_none c x (h x (by simp))]
  | x :: y :: r, _, h => by
    rw [join_cons, List.singleton_append, split_append, split_none c x (h x (by simp)), split_join c (y :: r) (by simp) fun z hz => h z (by simp at hz ⊢; exact .inr hz)]
    rfl
theorem join_append (c : UInt8) : ∀ (xs ys : List (List UInt8)), xs ≠ [] → ys ≠ [] → Lib.join (xs ++ ys) [c] = Lib.join xs [c] ++ c :: Lib.join ys [c]
  | [], _, h, _ => absurd rfl h
  | [x], [], _, h => absurd rfl h
  | [x], y :: r, _, _ => by rw [Lib.join_one]; exact join_cons x y r [c]
  | x :: z :: r, ys, _, h => by
    have := join_append c (z :: r) ys (by simp) h
    rw [List.cons_append, List.cons_append, join_cons, join_cons, ← List.cons_append, this]
    simp
def dec2 (n : Nat) : List UInt8 := if n < 10 then [UInt8.ofNat (48 + n)] else [UInt8.ofNat (48 + n / 10), UInt8.ofNat (48 + n % 10)]
def segT2 (a b : Nat) : List UInt8 := if a < b then dec2 a ++ (45 :: dec2 b) else dec2 a
theorem segT_eq {a b : Nat} (ha : a < 64) (hb : b < 64) : segT (a, b) = segT2 a b := by
  rw [segT, segT2, dec_eq _ (by simp only; omega), dec_eq _ (by simp only; omega)]; rfl
theorem seg_check : ∀ a : Fin 64, ∀ b : Fin 64, a.1 ≤ b.1 → segT2 a.1 b.1 ≠ [] ∧ (32 : UInt8) ∉ segT2 a.1 b.1 ∧ partS (segT2 a.1 b.1) = some (a.1, b.1) := by
  decide +kernel
theorem seg_all (a : Nat) (ha : a < 64) (b : Nat) (hb : b < 64) (h : a ≤ b) : segT (a, b) ≠ [] ∧ (32 : UInt8) ∉ segT (a, b) ∧ partS (segT (a, b)) = some (a, b) := by
  rw [segT_eq ha hb]
  exact seg_check ⟨a, ha⟩ ⟨b, hb⟩ h
theorem seg_ok {l : List (Nat × Nat)} {lo : Nat} (h : Good lo l) {x : Nat × Nat} (hx : x ∈ l) : segT x ≠ [] ∧ (32 : UInt8) ∉ segT x ∧ partS (segT x) = some x := by
  obtain ⟨h1, h2⟩ := good_bound h x hx
  exact seg_all x.1 (by omega) x.2 h2 h1
theorem loopS_segs : ∀ (l : List (Nat × Nat)) (s : BitVec 64), (∀ x ∈ l, partS (segT x) = some x) → loopS (l.map segT) s = some (l.foldl (fun s x => s ||| rangeB x.1 (x.2 + 1)) s)
  | [], _, _ => rfl
  | (a, b) :: t, s, h => by
    rw [List.map_cons, loopS, h (a, b) (by simp)]
    exact loopS_segs t _ fun x hx => h x (by simp [hx])
theorem join_nil_iff {xs : List (List UInt8)} (h : ∀ x ∈ xs, x ≠ []) (hj : Lib.join xs [32] = []) : xs = [] := by
  match xs, h, hj with
  | [], _, _ => rfl
  | [x], h, hj =>
    rw [Lib.join_one] at hj
    exact absurd hj (h x (by simp))
  | x :: y :: r, h, hj =>
    rw [join_cons] at hj
    exact absurd (List.append_eq_nil_iff.1 hj).1 (h x (by simp))
theorem textS_nil {s : BitVec 64} (h : textS s = []) : segsS s = [] := by
  have := join_nil_iff (xs := (segsS s).map segT) (fun x hx => by
    obtain ⟨y, hy, rfl⟩ := List.mem_map.1 hx
    exact (seg_ok (segsS_good s) hy).1) h
  simpa using this
theorem split_text {s : BitVec 64} (h : segsS s ≠ []) : splitB 32 (textS s) = (segsS s).map segT :=
  split_join 32 _ (by simpa using h) fun x hx => by
    obtain ⟨y, hy, rfl⟩ := List.mem_map.1 hx
    exact (seg_ok (segsS_good s) hy).2.1
theorem parse_text (s : BitVec 64) : parseO (textS s) = some s := by
  rw [parseO]
  split
  · rename_i h
    have := textS_nil h
    rw [← setB_segs s, this]; rfl
  · rename_i h
    have hne : segsS s ≠ [] := fun e => h (by rw [textS, e]; exact Lib.join_nil _)
    rw [split_text hne, loopS_segs _ _ fun x hx => (seg_ok (segsS_good s) hx).2.2]
    have : (segsS s).foldl (fun s x => s ||| rangeB x.1 (x.2 + 1)) 0#64 = s := setB_segs s
    simp only [this, if_true]
theorem text_zero : textS 0#64 = [] := by
  have : segsS 0#64 = [] := by
    have := segs_setB (l := []) (lo := 0) trivial
    exact this
  rw [textS, this]; exact Lib.join_nil _
theorem text_of_parse {l : List UInt8} {s : BitVec 64} (h : parseO l = some s) : textS s = l := by
  rw [parseO] at h
  split at h
  · rename_i e
    cases h
    rw [e, text_zero]
  · split at h
    · cases h
    · split at h
      · cases h; assumption
      · cases h
theorem parse_iff {l : List UInt8} {s : BitVec 64} : parseO l = some s ↔ textS s = l := ⟨text_of_parse, fun h => h ▸ parse_text s⟩
theorem text_inj {s t : BitVec 64} (h : textS s = textS t) : s = t := by
  have := parse_text s
  rw [h, parse_text] at this
  exact (Option.some.inj this).symm
end Go.Proofs.YtbcanlmpfhkklaaGreatDoor

/- The walk of Parse. -/

namespace Go.Proofs.YtbcanlmpfhkklaaGreatDoor
open Go.Ax
open Cel (c)
theorem qM1 {p : Prop} (h : p := by exact AStepD.alloc tok rfl rfl) : p := h
theorem qM2 {p : Prop} (h : p := by (conv => lhs; whnf); all_goals exact rfl) : p := h
theorem qM3 {p : Prop} (h : p := by first | omega | (simp only [za, zb, zc, zd]; omega)) : p := h
theorem qM4 {p : Prop} (h : p := by first | with_reducible assumption | exact rfl) : p := h
theorem qM5 {p : Prop} (h : p := by first | with_reducible assumption | exact Cel.one _ | exact flat_ones _ | exact ones_nil | (simp only [List.forall_mem_cons, List.not_mem_nil, false_implies, implies_true, and_true, one_v, one_ptr, one_ip, one_sl, one_slc, one_vec, one_map, one_func, one_iface, Value.oneCell', *]; done) | (simp [AV.one, Value.oneCell', *]; done)) : p := h
theorem qM6 {p : Prop} (h : p := by first | exact Nat.le_of_ble_eq_true rfl | (simp; done) | (simp; omega) | (simp_all; omega)) : p := h
theorem qM7 {p : Prop} (h : p := by first | ((with_reducible refine over_all ?_); exact rfl) | (simp only [over, List.take_succ_cons, List.take_zero, List.drop_succ_cons, List.drop_zero, List.length_cons, List.length_nil, List.nil_append, List.cons_append, Nat.reduceAdd, Nat.zero_add, List.drop_nil, List.append_nil]; exact rfl) | conv => lhs; whnf) : p := h
theorem qM8 {p : Prop} (h : p := by first | with_reducible assumption | (simp only [List.take_succ_cons, List.take_zero, List.drop_succ_cons, List.drop_zero]; exact rfl) | exact rfl) : p := h
theorem qM9 {p : Prop} (h : p := by repeat' (first | exact Keep.refl _ | apply Keep.new | apply Keep.set | apply Keep.del | (first | omega | (simp only [za, zb, zc]; omega)))) : p := h
theorem qM10 {p : Prop} (h : p := by (try simp only [za, zb, zc, zd, ne_eq]); omega) : p := h
theorem qM11 {p : Prop} (h : p := by exact AStepD.extract rfl rfl rfl) : p := h
theorem qM12 {p : Prop} (h : p := by intro h; first | (rw [h]; done) | (rw [h]; rfl) | (simp [h]; done) | (simp_all; done) | exact guard_true h) : p := h
theorem qM13 {p : Prop} (h : p := by exact AStepD.lss rfl rfl rfl) : p := h
theorem qM14 {p : Prop} (h : p := by exact AStepD.geq rfl rfl rfl) : p := h
theorem qM15 {p : Prop} (h : p := by repeat' (first | exact Keep.refl _ | with_reducible assumption | apply Keep.new | apply Keep.set | apply Keep.del | (first | omega | (simp only [za, zb, zc]; omega)))) : p := h
theorem qM16 {p : Prop} (h : p := by (conv => lhs; whnf); all_goals first | exact rfl | (simp; done) | (simp; omega)) : p := h
theorem qM17 {p : Prop} (h : p := by exact SD.s rfl rfl rfl qM1) : p := h
theorem qM18 {p : Prop} (h : p := by exact AStepD.move' rfl qM2) : p := h
theorem qM19 {p : Prop} (h : p := by first | with_reducible assumption | (simp (disch := (first | omega | (exact Lst.lab_ne (by with_reducible assumption) qM3) | (exact Lst.lab_new (by with_reducible assumption) qM3) | (refine id ?_; simp only [za, zb, zc, zd]; done) | (simp only [za, zb, zc, zd]; omega))) only [z1, z2, z3, z4, z5, z6, z7, z8, z9, ne_eq, *]; done) | (simp (disch := (first | omega | (exact Lst.lab_ne (by with_reducible assumption) qM3) | (exact Lst.lab_new (by with_reducible assumption) qM3) | (refine id ?_; simp only [za, zb, zc, zd]; done) | (simp only [za, zb, zc, zd]; omega))) only [z1, z2, z3, z4, z5, z6, z7, z8, z9, ne_eq, *]; exact rfl)) : p := h
theorem qM20 {p : Prop} (h : p := by first | exact one_cells (by with_reducible assumption) | exact qM2) : p := h
theorem qM21 {p : Prop} (h : p := by exact AStepD.assign' rfl qM2) : p := h
theorem qM22 {p : Prop} (h : p := by exact SD.s rfl rfl rfl qM11) : p := h
theorem qM23 {p : Prop} (h : p := by first | exact AStepD.pick_true' rfl rfl qM2 | exact AStepD.pick_false' rfl rfl qM2 | exact AStepD.and rfl _ _ _ rfl rfl qM12 rfl | exact AStepD.and' rfl _ _ rfl rfl rfl | exact AStepD.or rfl _ _ _ rfl rfl rfl qM12 | exact AStepD.or' rfl _ _ rfl rfl rfl) : p := h
theorem qM24 {p : Prop} (h : p := by exact (fun hb => by (repeat (first | apply UW.yes rfl (gpf hb) | apply UW.no)); exact UW.nil qM13)) : p := h
theorem qM25 {p : Prop} (h : p := by exact (fun _ hb => by (repeat (first | apply UW.yes rfl (gpf hb) | apply UW.no)); exact UW.nil qM13)) : p := h
theorem qM26 {p : Prop} (h : p := by first | exact GW.yes rfl rfl rfl rfl rfl rfl rfl qM14 | exact GW.no rfl rfl rfl rfl rfl rfl rfl | exact GW.none rfl rfl rfl rfl rfl | exact GW.may rfl rfl rfl rfl rfl rfl (fun hb => by (repeat (first | apply UW.yes rfl (gpf hb) | apply UW.no)); exact UW.nil qM14) | exact GW.may2 rfl rfl rfl rfl rfl rfl (fun _ hb => by (repeat (first | apply UW.yes rfl (gpf hb) | apply UW.no)); exact UW.nil qM14)) : p := h
theorem qM27 {p : Prop} (h : p := by simp (disch := (first | omega | (exact Lst.lab_ne (by with_reducible assumption) qM3) | (exact Lst.lab_new (by with_reducible assumption) qM3) | (refine id ?_; simp only [za, zb, zc, zd]; done) | (simp only [za, zb, zc, zd]; omega))) only [z1, z2, z3, z4, z5, z6, z7, z8, z9, ne_eq]) : p := h
theorem qM28 {p : Prop} (h : p := by repeat' (first | exact SubT.nil _ | refine SubT.cons_eq qM16 ?_)) : p := h
theorem qM29 {p : Prop} (h : p := by exact SD.s rfl rfl rfl qM18) : p := h
theorem qM30 {p : Prop} (h : p := by first | exact AStepD.load_one tok rfl rfl rfl rfl qM19 rfl qM4 | exact AStepD.load_one_ip tok rfl rfl rfl rfl rfl qM4) : p := h
theorem qM31 {p : Prop} (h : p := by exact AStepD.store' tok rfl rfl qM19 qM2 qM20 qM5 rfl qM2 rfl qM6 qM7) : p := h
theorem qM32 {p : Prop} (h : p := by first | exact retA_agg rfl rfl rfl qM19 rfl (show _ = 1 from rfl) qM6 qM8 retA_nil | exact retA_one rfl rfl rfl rfl qM19 rfl qM4 retA_nil) : p := h
theorem qM33 {p : Prop} (h : p := by exact SD.s rfl rfl rfl qM21) : p := h
theorem qM34 {p : Prop} (h : p := by exact (fun hb => by (repeat (first | apply UW.yes rfl (gpf hb) | apply UW.no)); exact UW.nil qM18)) : p := h
theorem qM35 {p : Prop} (h : p := by exact (fun _ hb => by (repeat (first | apply UW.yes rfl (gpf hb) | apply UW.no)); exact UW.nil qM18)) : p := h
theorem qM36 {p : Prop} (h : p := by exact SD.s rfl rfl rfl qM23) : p := h
theorem qM37 {p : Prop} (h : p := by first | exact GW.yes rfl rfl rfl rfl rfl rfl rfl qM13 | exact GW.no rfl rfl rfl rfl rfl rfl rfl | exact GW.none rfl rfl rfl rfl rfl | exact GW.may rfl rfl rfl rfl rfl rfl qM24 | exact GW.may2 rfl rfl rfl rfl rfl rfl qM25) : p := h
theorem qM38 {p : Prop} (h : p := by exact SD.s rfl rfl rfl qM30) : p := h
theorem qM39 {p : Prop} (h : p := by first | exact retA_agg rfl rfl rfl qM19 rfl (show _ = 1 from rfl) qM6 qM8 qM32 | exact retA_one rfl rfl rfl rfl qM19 rfl qM4 qM32) : p := h
theorem qM40 {p : Prop} (h : p := by first | exact GW.yes rfl rfl rfl rfl rfl rfl rfl qM18 | exact GW.no rfl rfl rfl rfl rfl rfl rfl | exact GW.none rfl rfl rfl rfl rfl | exact GW.may rfl rfl rfl rfl rfl rfl qM34 | exact GW.may2 rfl rfl rfl rfl rfl rfl qM35) : p := h
set_option linter.unusedSimpArgs false
set_option linter.unusedVariables false
open Cel (c)

theorem str_nil (l : List UInt8) : decide ((str l).data.toList = (⟨#[]⟩ : ByteArray).data.toList) = decide (l = []) := by rw [str_list]

theorem parse_calls (H : AHeap) (l : List UInt8) (hl : l.length ≤ 1000000) : ACalls Tryz.prog 63 [strA l] H (fun r H' => r = .tup [u64A (parseS l), .v (.int .i64 (parseE l))] ∧ H' = H) := by
  refine ACalls.quiet_keep ?_ (.tup (by simp only [List.forall_mem_cons]; exact ⟨.v _, .v _, fun _ h => absurd h List.not_mem_nil⟩))
  refine ACalls.lts fun hlt => ?_
  refine ACalls.of_body tok Tryz.func63 rfl Tryz.ntmps63 (Nat.le_of_ble_eq_true rfl) (fun base => ?_)
  refine rg fun K hK => ?_
  refine st qM17 <| st qM17 <| nt (hK _ _ ?_)
  clear hK K
  refine rg fun K hK => ?_
  refine st qM17 <| nt (hK _ _ ?_)
  clear hK K
  rw [show AV.ofV (tt 61).zero = [.v (.int .u64 0)] from rfl, show AV.ofV (tt 35).zero = [.v (.int .i64 0)] from rfl]
  refine AW.seq_k (fun K1 hK1 => ?_)
  refine rg fun K hK => ?_
  refine st qM29 <| st (by exact SD.s rfl rfl rfl (by exact AStepD.bool (AStepD.str_eql rfl rfl rfl) (str_nil l))) <| nt (hK _ _ ?_)
  clear hK K
  refine AW.cond _ rfl (fun hc => ?_) (fun hc => ?_)
  · obtain rfl : l = [] := by simpa using hc
    refine rg fun K hK => ?_
    refine st qM38 <| st0 (by exact ⟨rfl, rfl, qM31⟩) <| st0 (by exact ⟨rfl, rfl, qM31⟩) <| nt (hK _ _ ?_)
    clear hK K
    refine AW.ret (RetQ.mk (.inr rfl) qM39 ⟨rfl, qM9⟩)
  have hne : l ≠ [] := by simpa using hc
  clear hc
  refine AW.skip ?_
  refine hK1 _ _ ?_; try clear hK1 K1
  refine AW.seq_k (fun K2 hK2 => ?_)
  refine AW.seq_region (fun K hK => ?_)
  refine AL.step rfl rfl rfl qM18 ?_
  refine AL.call rfl rfl rfl (AStep.callf rfl en86 (split_calls _ l)) ?_
  rintro y H1 ⟨rfl, rfl⟩
  
  refine AL.nil_then (hK _ _ ?_); clear hK K
  refine AW.block ?_
  unfold splitH
  refine AW.rangeFunc rfl en122 (by decide) (split_seq _ l hl (H.next + 3 + 1) (H.next + 3) (H.next + 3 + 2) qM19 qM19 qM19 qM10 qM10 qM10 (by omega) (by omega))
    (fun i H' => ∃ acc, loopS ((splitB 32 l).drop i) acc = loopS (splitB 32 l) 0#64 ∧ H'.get H.next = some (.cells 61 [.v (.int .u64 0)]) ∧ H'.get (H.next + 1) = some (.cells 35 [.v (.int .i64 0)]) ∧ H'.get (H.next + 2) = some (.cells 61 [u64A acc]) ∧ Keep H H' ∧ H.next + 6 ≤ H'.next)
    (fun e H' => e = .ret ∧ loopS (splitB 32 l) 0#64 = none ∧ H'.get H.next = some (.cells 61 [.v (.int .u64 0)]) ∧ H'.get (H.next + 1) = some (.cells 35 [.v (.int .i64 60)]) ∧ Keep H H' ∧ H.next + 6 ≤ H'.next) ?_ ?_ ?_ ?_ ?_ ?_
  · rintro i A B ⟨acc, p1, p2, p3, p4, hk, hn⟩ ⟨hs1, hs2⟩
    have hq : ∀ q, q < H.next + 3 → B.get q = A.get q := fun q hq => hs1 q (by omega) (by simp only [zc]; omega)
    exact ⟨acc, p1, (hq _ (by omega)).trans p2, (hq _ (by omega)).trans p3, (hq _ (by omega)).trans p4, ⟨by have := hk.1; omega, fun q hq2 => (hq q (by omega)).trans (hk.2 q hq2)⟩, by omega⟩
  · rintro e A B ⟨p0, p1, p2, p3, hk, hn⟩ ⟨hs1, hs2⟩
    have hq : ∀ q, q < H.next + 3 → B.get q = A.get q := fun q hq => hs1 q (by omega) (by simp only [zc]; omega)
    exact ⟨p0, p1, (hq _ (by omega)).trans p2, (hq _ (by omega)).trans p3, ⟨by have := hk.1; omega, fun q hq2 => (hq q (by omega)).trans (hk.2 q hq2)⟩, by omega⟩
  · exact ⟨0#64, rfl, qM19, qM19, qM19, qM9, qM10⟩
  · rintro L i A hi ⟨acc, p1, p2, p3, p4, hk, hn⟩ hnA
    have hi2 : i < (splitB 32 l).length := by simpa using hi
    simp only [List.getElem_map]
    rw [List.drop_eq_getElem_cons hi2, loopS] at p1
    have q3 : A.get (H.new (.cells 61 [.v (.int .u64 0)])).next = some (.cells 35 [.v (.int .i64 0)]) := p3
    have q4 : A.get ((H.new (.cells 61 [.v (.int .u64 0)])).new (.cells 35 [.v (.int .i64 0)])).next = some (.cells 61 [u64A acc]) := p4
    have hpl := split_len 32 l _ (List.getElem_mem hi2)
    generalize (splitB 32 l)[i] = p at p1 hpl ⊢
    replace hpl : p.length ≤ 1000000 := Nat.le_trans hpl hl
    have hcl : (cutB 45 p).1.length ≤ 1000000 := Nat.le_trans (cut_len 45 p).1 hpl
    refine AW.region ?_
    refine st qM33 <| AL.nil ?_
    refine AW.block ?_
    refine rg fun K hK => ?_
    refine st qM29 <| st (by exact SD.s rfl rfl rfl (by exact AStepD.callf rfl en61 rfl (cut_calls _ p 45 hpl))) <| st qM29 <| st qM22 <| st qM22 <| st qM22 <| st qM33 <| st qM33 <| st qM33 <| nt (hK _ _ ?_)
    clear hK K
    refine AW.seq_k (fun K4 hK4 => ?_)
    have hb : ∃ b, b = (if (cutB 45 p).2.2 then (cutB 45 p).2.1 else (cutB 45 p).1) := ⟨_, rfl⟩
    obtain ⟨b, hb⟩ := hb
    have hpt : partS p = if atoiB (cutB 45 p).1 || atoiB b || decide (atoiV (cutB 45 p).1 < 0) || decide (atoiV b < atoiV (cutB 45 p).1) || decide (64 ≤ atoiV b) then none else some ((atoiV (cutB 45 p).1).toNat, (atoiV b).toNat) := by rw [partS, hb]
    have hbl : b.length ≤ 1000000 := by
      rw [hb]
      split
      · exact Nat.le_trans (cut_len 45 p).2 hpl
      · exact hcl
    rw [hpt] at p1
    clear hpt
    generalize cutB 45 p = q at hb p1 hcl ⊢
    obtain ⟨x, z, two⟩ := q
    dsimp only at hb p1 hcl ⊢
    have hnA' : H.next + 6 ≤ A.next := hn
    have key : ∀ T', SubT T' [(7, strA b), (6, strA x), (4, .ptr (H.next + 2) 0), (3, .ptr (H.next + 1) 0), (2, .ptr H.next 0)] → K4 T' A := fun T' hT' => by
      refine hK4 _ _ ?_
      refine AW.sub hT' ?_
      clear hT' hK4 K4
      refine rg fun K hK => ?_
      refine st qM29 <| st (by exact SD.s rfl rfl rfl (by exact AStepD.callf rfl en85 rfl (atoi_calls _ x hcl))) <| st qM29 <| st qM22 <| st qM22 <| st qM33 <| st qM33 <| nt (hK _ _ ?_)
      clear hK K
      refine rg fun K hK => ?_
      refine st qM29 <| st (by exact SD.s rfl rfl rfl (by exact AStepD.callf rfl en85 rfl (atoi_calls _ b hbl))) <| st qM29 <| st qM22 <| st qM22 <| st qM33 <| st qM33 <| nt (hK _ _ ?_)
      clear hK K
      refine AW.seq_k (fun K5 hK5 => ?_)
      refine rg fun K hK => ?_
      refine st qM29 <| st (by exact SD.s rfl rfl rfl (by exact err_neq rfl rfl rfl rfl)) <| st qM29 <| st (GW.p (l := [12]) qM40) <| st (GW.p (l := [42]) (by first | exact GW.yes rfl rfl rfl rfl rfl rfl rfl (by exact err_neq rfl rfl rfl rfl) | exact GW.no rfl rfl rfl rfl rfl rfl rfl | exact GW.none rfl rfl rfl rfl rfl | exact GW.may rfl rfl rfl rfl rfl rfl (fun hb => by (repeat (first | apply UW.yes rfl (gpf hb) | apply UW.no)); exact UW.nil (by exact err_neq rfl rfl rfl rfl)) | exact GW.may2 rfl rfl rfl rfl rfl rfl (fun _ hb => by (repeat (first | apply UW.yes rfl (gpf hb) | apply UW.no)); exact UW.nil (by exact err_neq rfl rfl rfl rfl)))) <| st qM36 <| st qM29 <| st (GW.p (l := [9]) qM40) <| st (GW.p (l := [46]) qM37) <| st qM36 <| st qM29 <| st (GW.p (l := [11]) qM40) <| st (GW.p (l := [9]) qM40) <| st (GW.p (l := [50, 51]) qM37) <| st qM36 <| st qM29 <| st (GW.p (l := [11]) qM40) <| st (GW.p (l := [55]) qM26) <| st qM36 <| nt (hK _ _ ?_)
      clear hK K
      refine AW.cond _ rfl (fun hc => ?_) (fun hc => ?_)
      · rw [if_pos hc] at p1
        clear hc
        refine rg fun K hK => ?_
        refine st0 (by exact ⟨rfl, rfl, qM31⟩) <| st0 (by exact ⟨rfl, rfl, qM31⟩) <| nt (hK _ _ ?_)
        clear hK K
        refine AW.ret ⟨⟨fun q hq hlt => ?_, qM10⟩, rfl, p1.symm, qM19, qM19, qM15, qM10⟩
        have hq3 : H.next + 3 ≤ q := by
          simp only [zc] at hq
          omega
        have hq1 : q ≠ H.next := by omega
        have hq2 : q ≠ H.next + 1 := by omega
        exact qM27
      · rw [if_neg (by rw [hc]; simp)] at p1
        simp only [Bool.or_eq_false_iff, decide_eq_false_iff_not, Int.not_lt, Int.not_le] at hc
        obtain ⟨⟨⟨⟨_, _⟩, c3⟩, c4⟩, c5⟩ := hc
        obtain ⟨n, hn0⟩ := Int.eq_ofNat_of_zero_le c3
        obtain ⟨m, hm0⟩ := Int.eq_ofNat_of_zero_le (Int.le_trans c3 c4)
        rw [hn0, hm0] at c4
        rw [hm0] at c5
        rw [hn0, hm0, Int.toNat_natCast, Int.toNat_natCast] at p1
        simp only [hn0, hm0]
        clear hn0 hm0 c3 hcl hbl
        refine AW.skip ?_
        refine hK5 _ _ ?_; try clear hK5 K5
        refine rg fun K hK => ?_
        refine st qM29 <| st qM33 <| nt (hK _ _ ?_)
        clear hK K
        refine AW.block ?_
        refine AW.loop_at (ι := Nat) (fun k => [(13, .v (.int .i64 (k : Nat))), (11, .v (.int .i64 (m : Nat))), (4, .ptr (H.next + 2) 0)])
          (fun k H' => n ≤ k ∧ k ≤ m + 1 ∧ H'.get (H.next + 2) = some (.cells 61 [u64A (acc ||| rangeB n k)]) ∧ H'.get H.next = some (.cells 61 [.v (.int .u64 0)]) ∧ H'.get (H.next + 1) = some (.cells 35 [.v (.int .i64 0)]) ∧ Keep H H' ∧ A.next ≤ H'.next ∧ (∀ q, H.next + 3 ≤ q → q < A.next → H'.get q = A.get q))
          (fun k => m + 1 - k) n qM28 ⟨Nat.le_refl _, by omega, by rw [rangeB_nil, BitVec.or_zero]; exact q4, p2, q3, hk, Nat.le_refl _, fun _ _ _ => rfl⟩ ?_
        rintro k A2 ⟨k1, k2, g4, g2, g3, hk2, hn2, hold⟩
        refine AW.seq_k (fun K6 hK6 => ?_)
        refine rg fun K hK => ?_
        refine st qM29 <| st qM29 <| st (by exact SD.s rfl rfl rfl (by exact AStepD.leq rfl rfl rfl)) <| nt (hK _ _ ?_)
        clear hK K
        refine AW.cond _ rfl (fun hc => ?_) (fun hc => ?_)
        · have hkm : k ≤ m := by simpa using hc
          clear hc
          refine AW.skip ?_
          refine hK6 _ _ ?_; try clear hK6 K6
          refine AW.seq_k (fun K7 hK7 => ?_)
          refine AW.block ?_
          apply AW.draw mixed [_, _, _, _, _] [4] [_, _] [(0, 0), (1, 0), (2, 0), (3, 0), (4, 0)] rfl rfl rfl (by simp only [List.getD_cons_zero, List.getD_cons_succ]; all_goals apply Eq.refl)
          · refine ⟨?_, ?_, ?_, ?_, ?_⟩
            · refine Ob.mk _ [4] 0 rfl rfl (restr_cons qM2 restr_nil) rfl ?_
              simp only [List.getD_cons_zero, List.getD_cons_succ]
              exact GStep.plain rfl qM30
            · refine Ob.mk _ [13] 0 rfl rfl (restr_cons qM2 restr_nil) rfl ?_
              simp only [List.getD_cons_zero, List.getD_cons_succ]
              exact GStep.plain rfl qM18
            · refine Ob.mk _ [65] 0 rfl rfl (restr_cons qM2 restr_nil) rfl ?_
              simp only [List.getD_cons_zero, List.getD_cons_succ]
              exact GStep.plain rfl (by first | exact AStepD.bv_shl (a := 1#64) rfl rfl rfl | exact AStepD.shl rfl rfl rfl (by omega) rfl)
            · refine Ob.mk _ [64, 66] 0 rfl rfl (restr_cons qM2 (restr_cons qM2 restr_nil)) rfl ?_
              simp only [List.getD_cons_zero, List.getD_cons_succ]
              exact GStep.plain rfl (by first | exact AStepD.bv_or rfl rfl rfl | exact AStepD.bits rfl (by simp) rfl rfl rfl)
            · refine Ob.mk _ [4, 67] 1 rfl rfl (restr_cons qM2 (restr_cons qM2 restr_nil)) rfl ?_
              simp only [List.getD_cons_zero, List.getD_cons_succ]
              exact GStep.plain rfl qM31
          refine hK7 _ _ ?_; try clear hK7 K7
          refine AW.frame (by simp only [frameAt, putA]; all_goals exact rfl) (by simp only [List.length_cons, List.length_nil, Nat.zero_add, Nat.reduceAdd, List.getD_cons_zero, List.getD_cons_succ]; all_goals apply Eq.refl) ?_
          refine AW.region ?_
          refine st qM29 <| st (by exact SD.s rfl rfl rfl (by first | exact AStepD.add rfl rfl rfl (by first | exact IntWalk.i64_in _ (by omega) | exact IntWalk.i64_in _ (by simp only [Bool.or_eq_true, Bool.and_eq_true, Bool.or_eq_false_iff, Bool.and_eq_false_iff, Bool.not_eq_true', Bool.not_eq_false', decide_eq_true_eq, decide_eq_false_iff_not, Int.not_lt, Int.not_le, beq_iff_eq] at *; omega) | exact rfl) | exact AStepD.str_add rfl rfl rfl (by omega))) <| st qM33 <| AL.nil ?_
          refine ⟨k + 1, by omega, qM28, by omega, by omega, ?_, qM19, qM19, qM15, qM10, fun q h1 h2 => Eq.trans ?_ (hold q h1 h2)⟩
          · rw [rangeB_next _ _ k1, ← BitVec.or_assoc]
            exact qM19
          · have hq1 : q ≠ H.next + 2 := by omega
            exact qM27
        · have hkm : k = m + 1 := by
            have : ¬ k ≤ m := by simpa using hc
            omega
          subst hkm
          clear hc
          refine AW.exit ?_
          refine ⟨⟨fun q hq hlt => ?_, hn2⟩, acc ||| rangeB n (m + 1), p1, g2, g3, g4, hk2, by omega⟩
          refine hold q ?_ hlt
          simp only [zc] at hq
          omega
    refine rg fun K hK => ?_
    refine st qM29 <| st (by exact SD.s rfl rfl rfl (by first | exact AStepD.not rfl rfl | exact AStepD.neg rfl rfl (by first | exact IntWalk.i64_in _ (by omega) | exact IntWalk.i64_in _ (by simp only [Bool.or_eq_true, Bool.and_eq_true, Bool.or_eq_false_iff, Bool.and_eq_false_iff, Bool.not_eq_true', Bool.not_eq_false', decide_eq_true_eq, decide_eq_false_iff_not, Int.not_lt, Int.not_le, beq_iff_eq] at *; omega) | exact rfl))) <| nt (hK _ _ ?_)
    clear hK K
    refine AW.cond _ rfl (fun hc => ?_) (fun hc => ?_)
    · have hb2 : b = x := by rw [hb, if_neg (by simpa using hc)]
      refine AW.region ?_
      refine st qM29 <| st qM33 <| AL.nil ?_
      subst hb2
      exact key _ qM28
    · have hb2 : b = z := by rw [hb, if_pos (by simpa using hc)]
      refine AW.skip ?_
      subst hb2
      exact key _ qM28
  · rintro A ⟨acc, p1, p2, p3, p4, hk, hn⟩ hnA
    rw [List.length_map, List.drop_length] at p1
    have q3 : A.get (H.new (.cells 61 [.v (.int .u64 0)])).next = some (.cells 35 [.v (.int .i64 0)]) := p3
    have q4 : A.get ((H.new (.cells 61 [.v (.int .u64 0)])).new (.cells 35 [.v (.int .i64 0)])).next = some (.cells 61 [u64A acc]) := p4
    have hE : parseO l = if textS acc = l then some acc else none := by rw [parseO, if_neg hne, ← p1]; rfl
    clear p1 p3 p4
    refine hK2 _ _ ?_; clear hK2 K2
    refine AW.seq_k (fun K3 hK3 => ?_)
    refine rg fun K hK => ?_
    refine st qM38 <| st (by exact SD.s rfl rfl rfl (by exact AStepD.callf rfl en24 rfl (text_calls _ acc))) <| st qM29 <| st (by exact SD.s rfl rfl rfl (by exact AStepD.bool (AStepD.str_neq rfl rfl rfl) (c := decide (textS acc ≠ l)) (by rw [str_list, str_list]))) <| nt (hK _ _ ?_)
    clear hK K
    refine AW.cond _ rfl (fun hc => ?_) (fun hc => ?_)
    · refine rg fun K hK => ?_
      refine st0 (by exact ⟨rfl, rfl, qM31⟩) <| st0 (by exact ⟨rfl, rfl, qM31⟩) <| nt (hK _ _ ?_)
      clear hK K
      refine AW.ret (RetQ.mk (.inr rfl) qM39 ⟨?_, qM15⟩)
      rw [parseS, parseE, hE, if_neg (by simpa using hc)]; rfl
    · refine AW.skip ?_
      refine hK3 _ _ ?_; try clear hK3 K3
      refine rg fun K hK => ?_
      refine st qM38 <| st0 (by exact ⟨rfl, rfl, qM31⟩) <| st0 (by exact ⟨rfl, rfl, qM31⟩) <| nt (hK _ _ ?_)
      clear hK K
      refine AW.ret (RetQ.mk (.inr rfl) qM39 ⟨?_, qM15⟩)
      rw [parseS, parseE, hE, if_pos (by simpa using hc)]; rfl
  · rintro e A ⟨rfl, p1, p2, p3, hk, hn⟩ _ _
    have hE : parseO l = none := by rw [parseO, if_neg hne, p1]
    have p3' : A.get (H.new (.cells 61 [.v (.int .u64 0)])).next = some (.cells 35 [.v (.int .i64 60)]) := p3
    clear p1 p3
    refine RetQ.mk (.inr rfl) qM39 ⟨?_, hk⟩
    rw [parseS, parseE, hE]; rfl
end Go.Proofs.YtbcanlmpfhkklaaGreatDoor
