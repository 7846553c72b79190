/- Sets and their runs, plainly: a set is its runs, runs that stand apart are those of a set, a text tells its set. -/
import Derived.Test.YtcomjodfkcnjhaaGreatDoorCW2
set_option linter.unusedSimpArgs false
set_option linter.unusedVariables false
namespace Go.Proofs.YtcomjodfkcnjhaaGreatDoor
open Go.Ax
open Cel (c)
set_option linter.unusedSimpArgs false
set_option linter.unusedVariables false

theorem one_bit (i j : Nat) : (1#64 <<< i).getLsbD j = (decide (j < 64) && decide (j = i)) := by
  rw [BitVec.getLsbD_shiftLeft]
  by_cases h1 : j < 64 <;> by_cases h2 : j = i
  · subst h2; simp [h1]
  · by_cases h3 : j < i
    · simp [h1, h2, h3]
    · have : j - i ≠ 0 := by omega
      simp [h1, h2, h3, BitVec.getLsbD_one, this]
  · simp [h1]
  · simp [h1]
theorem rangeB_bit (a b j : Nat) : (rangeB a b).getLsbD j = (decide (j < 64) && decide (a ≤ j) && decide (j < b)) := by
  rcases Nat.lt_or_ge b a with h | h
  · rw [rangeB, Nat.sub_eq_zero_of_le (by omega)]
    show (0#64).getLsbD j = _
    rw [BitVec.getLsbD_zero]
    by_cases h1 : a ≤ j
    · rw [decide_eq_false (by omega : ¬ j < b), Bool.and_false]
    · rw [decide_eq_false h1, Bool.and_false, Bool.false_and]
  · obtain ⟨d, rfl⟩ : ∃ d, b = a + d := ⟨b - a, by omega⟩
    clear h
    induction d with
    | zero =>
      rw [Nat.add_zero, rangeB_nil, BitVec.getLsbD_zero]
      by_cases h1 : a ≤ j
      · rw [decide_eq_false (by omega : ¬ j < a), Bool.and_false]
      · rw [decide_eq_false h1, Bool.and_false, Bool.false_and]
    | succ d ih =>
      rw [show a + (d + 1) = (a + d) + 1 by omega, rangeB_next _ _ (by omega), BitVec.getLsbD_or, ih, one_bit]
      by_cases h0 : j < 64
      · simp only [h0, decide_true, Bool.true_and]
        rw [← Bool.decide_and, ← Bool.decide_or, ← Bool.decide_and]
        exact decide_eq_decide.2 (by omega)
      · simp [h0]
def inR (l : List (Nat × Nat)) (j : Nat) : Bool := l.any fun x => decide (x.1 ≤ j) && decide (j ≤ x.2)
theorem inR_cons (x : Nat × Nat) (l : List (Nat × Nat)) (j : Nat) : inR (x :: l) j = ((decide (x.1 ≤ j) && decide (j ≤ x.2)) || inR l j) := rfl
theorem inR_low : ∀ {l : List (Nat × Nat)} {lo j : Nat}, Good lo l → j < lo → inR l j = false
  | [], _, _, _, _ => rfl
  | (a, b) :: t, lo, j, ⟨h1, h2, h3, h4⟩, hj => by
    rw [inR_cons, inR_low h4 (by omega), decide_eq_false (by simp only; omega)]; rfl
theorem inR_high : ∀ {l : List (Nat × Nat)} {lo j : Nat}, Good lo l → 64 ≤ j → inR l j = false
  | [], _, _, _, _ => rfl
  | (a, b) :: t, lo, j, ⟨h1, h2, h3, h4⟩, hj => by
    rw [inR_cons, inR_high h4 hj, decide_eq_false (show ¬ j ≤ b by omega), Bool.and_false]; rfl
theorem good_eq : ∀ {l m : List (Nat × Nat)} {x y : Nat}, Good x l → Good y m → (∀ j, inR l j = inR m j) → l = m
  | [], [], _, _, _, _, _ => rfl
  | [], (a, b) :: t, _, _, _, ⟨_, h2, _, _⟩, h => by
    have := h a
    rw [inR_cons, decide_eq_true (Nat.le_refl a), decide_eq_true h2] at this
    cases this
  | (a, b) :: t, [], _, _, ⟨_, h2, _, _⟩, _, h => by
    have := h a
    rw [inR_cons, decide_eq_true (Nat.le_refl a), decide_eq_true h2] at this
    cases this
  | (a, b) :: t, (a', b') :: t', x, y, ⟨g1, g2, g3, g4⟩, ⟨g1', g2', g3', g4'⟩, h => by
    have hG : Good a ((a, b) :: t) := ⟨Nat.le_refl _, g2, g3, g4⟩
    have hG' : Good a' ((a', b') :: t') := ⟨Nat.le_refl _, g2', g3', g4'⟩
    have ea : a = a' := by
      rcases Nat.lt_trichotomy a a' with e | e | e
      · have := h a
        rw [inR_low hG' e, inR_cons, decide_eq_true (Nat.le_refl a), decide_eq_true g2] at this
        cases this
      · exact e
      · have := h a'
        rw [inR_low hG e, inR_cons, decide_eq_true (Nat.le_refl a'), decide_eq_true g2'] at this
        cases this
    subst ea
    have eb : b = b' := by
      rcases Nat.lt_trichotomy b b' with e | e | e
      · have := h (b + 1)
        rw [inR_cons, inR_cons, inR_low g4 (by omega), decide_eq_false (show ¬ b + 1 ≤ b by omega), decide_eq_true (show a ≤ b + 1 by omega), decide_eq_true (show b + 1 ≤ b' by omega)] at this
        cases this
      · exact e
      · have := h (b' + 1)
        rw [inR_cons, inR_cons, inR_low g4' (by omega), decide_eq_false (show ¬ b' + 1 ≤ b' by omega), decide_eq_true (show a ≤ b' + 1 by omega), decide_eq_true (show b' + 1 ≤ b by omega)] at this
        cases this
    subst eb
    have et : t = t' := good_eq g4 g4' fun j => by
      rcases Nat.lt_or_ge j (b + 2) with e | e
      · rw [inR_low g4 e, inR_low g4' e]
      · have := h j
        rwa [inR_cons, inR_cons, decide_eq_false (show ¬ j ≤ b by omega), Bool.and_false, Bool.false_or, Bool.false_or] at this
    rw [et]
def setB (l : List (Nat × Nat)) : BitVec 64 := l.foldl (fun s x => s ||| rangeB x.1 (x.2 + 1)) 0#64
theorem setB_fold (l : List (Nat × Nat)) (s : BitVec 64) (j : Nat) (hj : j < 64) : (l.foldl (fun s x => s ||| rangeB x.1 (x.2 + 1)) s).getLsbD j = (s.getLsbD j || inR l j) := by
  induction l generalizing s with
  | nil => simp [inR]
  | cons x t ih =>
    rw [List.foldl_cons, ih, BitVec.getLsbD_or, rangeB_bit, inR_cons, decide_eq_true hj, Bool.true_and, Bool.or_assoc]
    congr 2
    exact congrArg _ (decide_eq_decide.2 (by omega))
theorem setB_bit (l : List (Nat × Nat)) (j : Nat) (hj : j < 64) : (setB l).getLsbD j = inR l j := by
  rw [setB, setB_fold l _ j hj, BitVec.getLsbD_zero, Bool.false_or]
theorem segs_in (f : Nat → Bool) : ∀ n, n ≤ 64 → ∀ j, j < 64 → inR (segs f n) j = (decide (64 - n ≤ j) && f j)
  | 0, _, j, hj => by
    rw [decide_eq_false (by omega)]; rfl
  | n + 1, hn, j, hj => by
    have ih := segs_in f n (by omega) j hj
    rw [segs]
    by_cases hf : f (63 - n) = true
    · rw [if_pos hf]
      have key : (decide (64 - (n + 1) ≤ j) && f j) = ((decide (63 - n ≤ j) && decide (j ≤ 63 - n)) || (decide (64 - n ≤ j) && f j)) := by
        rcases Nat.lt_trichotomy j (63 - n) with e | e | e
        · rw [decide_eq_false (show ¬ 64 - (n + 1) ≤ j by omega), decide_eq_false (show ¬ 63 - n ≤ j by omega), decide_eq_false (show ¬ 64 - n ≤ j by omega)]; rfl
        · subst e; rw [hf, decide_eq_true (show 64 - (n + 1) ≤ 63 - n by omega), decide_eq_true (Nat.le_refl _)]; rfl
        · rw [decide_eq_true (show 64 - (n + 1) ≤ j by omega), decide_eq_false (show ¬ j ≤ 63 - n by omega), decide_eq_true (show 64 - n ≤ j by omega)]; simp
      have hg := (segs_good f n (by omega)).1
      cases hs : segs f n with
      | nil =>
        rw [hs] at ih
        simp only
        rw [inR_cons, key, ih]
      | cons x t =>
        obtain ⟨a, b⟩ := x
        rw [hs] at ih hg
        simp only
        split
        · rename_i e
          rw [key, ← ih, inR_cons, inR_cons]
          obtain ⟨g1, g2, g3, g4⟩ := hg
          rw [← Bool.or_assoc]
          congr 1
          rw [← Bool.decide_and, ← Bool.decide_and, ← Bool.decide_and, ← Bool.decide_or]
          exact decide_eq_decide.2 (by simp only; omega)
        · rw [key, ← ih, inR_cons]
    · rw [if_neg hf, ih]
      rcases Nat.lt_trichotomy j (63 - n) with e | e | e
      · rw [decide_eq_false (show ¬ 64 - (n + 1) ≤ j by omega), decide_eq_false (show ¬ 64 - n ≤ j by omega)]
      · subst e; rw [eq_false_of_ne_true hf, Bool.and_false, Bool.and_false]
      · rw [decide_eq_true (show 64 - (n + 1) ≤ j by omega), decide_eq_true (show 64 - n ≤ j by omega)]
theorem segsS_in (s : BitVec 64) (j : Nat) : inR (segsS s) j = s.getLsbD j := by
  rcases Nat.lt_or_ge j 64 with h | h
  · rw [segsS, segs_in _ 64 (Nat.le_refl _) j h]; simp
  · rw [inR_high (segsS_good s) h, BitVec.getLsbD_of_ge _ _ h]
theorem setB_segs (s : BitVec 64) : setB (segsS s) = s := by
  apply BitVec.eq_of_getLsbD_eq
  intro j hj
  rw [setB_bit _ _ hj, segsS_in]
theorem segs_setB {l : List (Nat × Nat)} {lo : Nat} (h : Good lo l) : segsS (setB l) = l :=
  good_eq (segsS_good _) h fun j => by
    rw [segsS_in]
    rcases Nat.lt_or_ge j 64 with e | e
    · rw [setB_bit _ _ e]
    · rw [inR_high h e, BitVec.getLsbD_of_ge _ _ e]
end Go.Proofs.YtcomjodfkcnjhaaGreatDoor

/- Reading a set's text, plainly. -/

namespace Go.Proofs.YtcomjodfkcnjhaaGreatDoor
open Go.Ax
open Cel (c)
set_option linter.unusedSimpArgs false
set_option linter.unusedVariables false

def partS (p : List UInt8) : Option (Nat × Nat) :=
  let b := if (cutB 45 p).2.2 then (cutB 45 p).2.1 else (cutB 45 p).1
  if atoiB (cutB 45 p).1 || atoiB b || decide (atoiV (cutB 45 p).1 < 0) || decide (atoiV b < atoiV (cutB 45 p).1) || decide (64 ≤ atoiV b) then none
  else some ((atoiV (cutB 45 p).1).toNat, (atoiV b).toNat)
def loopS : List (List UInt8) → BitVec 64 → Option (BitVec 64)
  | [], s => some s
  | p :: r, s => match partS p with
    | none => none
    | some (a, b) => loopS r (s ||| rangeB a (b + 1))
def parseO (l : List UInt8) : Option (BitVec 64) := if l = [] then some 0#64 else match loopS (splitB 32 l) 0#64 with
  | none => none
  | some s => if textS s = l then some s else none
def parseS (l : List UInt8) : BitVec 64 := (parseO l).getD 0#64
def parseE (l : List UInt8) : Int := if (parseO l).isSome then 0 else 60
theorem split_append (c : UInt8) (x y : List UInt8) : splitB c (x ++ c :: y) = splitB c x ++ splitB c y := by
  induction x with
  | nil => simp [splitB]
  | cons a r ih =>
    rw [List.cons_append, splitB, splitB, ih]
    split
    · rfl
    · have := splitB_ne c r
      cases hs : splitB c r with
      | nil => exact absurd hs this
      | cons u v => rfl
theorem split_len (c : UInt8) : ∀ (l p : List UInt8), p ∈ splitB c l → p.length ≤ l.length
  | [], p, h => by simp [splitB] at h; simp [h]
  | b :: r, p, h => by
    have ih := split_len c r
    rw [splitB] at h
    split at h
    · rcases List.mem_cons.1 h with rfl | h
      · simp
      · have := ih p h
        rw [List.length_cons]; omega
    · cases hs : splitB c r with
      | nil => exact absurd hs (splitB_ne c r)
      | cons x t =>
        rw [hs] at h ih
        rcases List.mem_cons.1 h with rfl | h
        · have := ih x (by simp)
          rw [List.length_cons, List.length_cons]; omega
        · have := ih p (by simp [h])
          rw [List.length_cons]; omega
theorem cut_len (c : UInt8) (l : List UInt8) : (cutB c l).1.length ≤ l.length ∧ (cutB c l).2.1.length ≤ l.length := by
  rw [cutB]
  split
  · simp
  · simp only [List.length_take, List.length_drop]
    omega
theorem split_join (c : UInt8) : ∀ (xs : List (List UInt8)), xs ≠ [] → (∀ x ∈ xs, c ∉ x) → splitB c (Lib.join xs [c]) = xs
  | [], h, _ => absurd rfl h
  | [x], _, h => by rw [Lib.join_one, split_none c x (h x (by simp))]
  | x :: y :: r, _, h => by
    rw [join_cons, List.singleton_append, split_append, split_none c x (h x (by simp)), split_join c (y :: r) (by simp) fun z hz => h z (by simp at hz ⊢; exact .inr hz)]
    rfl
theorem join_append (c : UInt8) : ∀ (xs ys : List (List UInt8)), xs ≠ [] → ys ≠ [] → Lib.join (xs ++ ys) [c] = Lib.join xs [c] ++ c :: Lib.join ys [c]
  | [], _, h, _ => absurd rfl h
  | [x], [], _, h => absurd rfl h
  | [x], y :: r, _, _ => by rw [Lib.join_one]; exact join_cons x y r [c]
  | x :: z :: r, ys, _, h => by
    have := join_append c (z :: r) ys (by simp) h
    rw [List.cons_append, List.cons_append, join_cons, join_cons, ← List.cons_append, this]
    simp
def dec2 (n : Nat) : List UInt8 := if n < 10 then [UInt8.ofNat (48 + n)] else [UInt8.ofNat (48 + n / 10), UInt8.ofNat (48 + n % 10)]
def segT2 (a b : Nat) : List UInt8 := if a < b then dec2 a ++ (45 :: dec2 b) else dec2 a
theorem segT_eq {a b : Nat} (ha : a < 64) (hb : b < 64) : segT (a, b) = segT2 a b := by
  rw [segT, segT2, dec_eq _ (by simp only; omega), dec_eq _ (by simp only; omega)]; rfl
theorem seg_check : ∀ a : Fin 64, ∀ b : Fin 64, a.1 ≤ b.1 → segT2 a.1 b.1 ≠ [] ∧ (32 : UInt8) ∉ segT2 a.1 b.1 ∧ partS (segT2 a.1 b.1) = some (a.1, b.1) := by
  decide +kernel
theorem seg_all (a : Nat) (ha : a < 64) (b : Nat) (hb : b < 64) (h : a ≤ b) : segT (a, b) ≠ [] ∧ (32 : UInt8) ∉ segT (a, b) ∧ partS (segT (a, b)) = some (a, b) := by
  rw [segT_eq ha hb]
  exact seg_check ⟨a, ha⟩ ⟨b, hb⟩ h
theorem seg_ok {l : List (Nat × Nat)} {lo : Nat} (h : Good lo l) {x : Nat × Nat} (hx : x ∈ l) : segT x ≠ [] ∧ (32 : UInt8) ∉ segT x ∧ partS (segT x) = some x := by
  obtain ⟨h1, h2⟩ := good_bound h x hx
  exact seg_all x.1 (by omega) x.2 h2 h1
theorem loopS_segs : ∀ (l : List (Nat × Nat)) (s : BitVec 64), (∀ x ∈ l, partS (segT x) = some x) → loopS (l.map segT) s = some (l.foldl (fun s x => s ||| rangeB x.1 (x.2 + 1)) s)
  | [], _, _ => rfl
  | (a, b) :: t, s, h => by
    rw [List.map_cons, loopS, h (a, b) (by simp)]
    exact loopS_segs t _ fun x hx => h x (by simp [hx])
theorem join_nil_iff {xs : List (List UInt8)} (h : ∀ x ∈ xs, x ≠ []) (hj : Lib.join xs [32] = []) : xs = [] := by
  match xs, h, hj with
  | [], _, _ => rfl
  | [x], h, hj =>
    rw [Lib.join_one] at hj
    exact absurd hj (h x (by simp))
  | x :: y :: r, h, hj =>
    rw [join_cons] at hj
    exact absurd (List.append_eq_nil_iff.1 hj).1 (h x (by simp))
theorem textS_nil {s : BitVec 64} (h : textS s = []) : segsS s = [] := by
  have := join_nil_iff (xs := (segsS s).map segT) (fun x hx => by
    obtain ⟨y, hy, rfl⟩ := List.mem_map.1 hx
    exact (seg_ok (segsS_good s) hy).1) h
  simpa using this
theorem split_text {s : BitVec 64} (h : segsS s ≠ []) : splitB 32 (textS s) = (segsS s).map segT :=
  split_join 32 _ (by simpa using h) fun x hx => by
    obtain ⟨y, hy, rfl⟩ := List.mem_map.1 hx
    exact (seg_ok (segsS_good s) hy).2.1
theorem parse_text (s : BitVec 64) : parseO (textS s) = some s := by
  rw [parseO]
  split
  · rename_i h
    have := textS_nil h
    rw [← setB_segs s, this]; rfl
  · rename_i h
    have hne : segsS s ≠ [] := fun e => h (by rw [textS, e]; exact Lib.join_nil _)
    rw [split_text hne, loopS_segs _ _ fun x hx => (seg_ok (segsS_good s) hx).2.2]
    have : (segsS s).foldl (fun s x => s ||| rangeB x.1 (x.2 + 1)) 0#64 = s := setB_segs s
    simp only [this, if_true]
theorem text_zero : textS 0#64 = [] := by
  have : segsS 0#64 = [] := by
    have := segs_setB (l := []) (lo := 0) trivial
    exact this
  rw [textS, this]; exact Lib.join_nil _
theorem text_of_parse {l : List UInt8} {s : BitVec 64} (h : parseO l = some s) : textS s = l := by
  rw [parseO] at h
  split at h
  · rename_i e
    cases h
    rw [e, text_zero]
  · split at h
    · cases h
    · split at h
      · cases h; assumption
      · cases h
theorem parse_iff {l : List UInt8} {s : BitVec 64} : parseO l = some s ↔ textS s = l := ⟨text_of_parse, fun h => h ▸ parse_text s⟩
theorem text_inj {s t : BitVec 64} (h : textS s = textS t) : s = t := by
  have := parse_text s
  rw [h, parse_text] at this
  exact (Option.some.inj this).symm
end Go.Proofs.YtcomjodfkcnjhaaGreatDoor

/- The walk of Parse. -/

namespace Go.Proofs.YtcomjodfkcnjhaaGreatDoor
open Go.Ax
open Cel (c)
theorem qM1 {p : Prop} (h : p := by exact AStepD.alloc tok rfl rfl) : p := h
theorem qM2 {p : Prop} (h : p := by (conv => lhs; whnf); all_goals exact rfl) : p := h
theorem qM3 {p : Prop} (h : p := by first | omega | (simp only [za, zb, zc, zd]; omega)) : p := h
theorem qM4 {p : Prop} (h : p := by first | with_reducible assumption | exact rfl) : p := h
theorem qM5 {p : Prop} (h : p := by first | with_reducible assumption | exact Cel.one _ | exact flat_ones _ | exact ones_nil | (simp only [List.forall_mem_cons, List.not_mem_nil, false_implies, implies_true, and_true, one_v, one_ptr, one_ip, one_sl, one_slc, one_vec, one_map, one_func, one_iface, Value.oneCell', *]; done) | (simp [AV.one, Value.oneCell', *]; done)) : p := h
theorem qM6 {p : Prop} (h : p := by first | exact Nat.le_of_ble_eq_true rfl | (simp; done) | (simp; omega) | (simp_all; omega)) : p := h
theorem qM7 {p : Prop} (h : p := by first | ((with_reducible refine over_all ?_); exact rfl) | (simp only [over, List.take_succ_cons, List.take_zero, List.drop_succ_cons, List.drop_zero, List.length_cons, List.length_nil, List.nil_append, List.cons_append, Nat.reduceAdd, Nat.zero_add, List.drop_nil, List.append_nil]; exact rfl) | conv => lhs; whnf) : p := h
theorem qM8 {p : Prop} (h : p := by first | with_reducible assumption | (simp only [List.take_succ_cons, List.take_zero, List.drop_succ_cons, List.drop_zero]; exact rfl) | exact rfl) : p := h
theorem qM9 {p : Prop} (h : p := by repeat' (first | exact Keep.refl _ | apply Keep.new | apply Keep.set | apply Keep.del | (first | omega | (simp only [za, zb, zc]; omega)))) : p := h
theorem qM10 {p : Prop} (h : p := by (try simp only [za, zb, zc, zd, ne_eq]); omega) : p := h
theorem qM11 {p : Prop} (h : p := by exact AStepD.extract rfl rfl rfl) : p := h
theorem qM12 {p : Prop} (h : p := by intro h; first | (rw [h]; done) | (rw [h]; rfl) | (simp [h]; done) | (simp_all; done) | exact guard_true h) : p := h
theorem qM13 {p : Prop} (h : p := by exact AStepD.lss rfl rfl rfl) : p := h
theorem qM14 {p : Prop} (h : p := by exact AStepD.geq rfl rfl rfl) : p := h
theorem qM15 {p : Prop} (h : p := by repeat' (first | exact Keep.refl _ | with_reducible assumption | apply Keep.new | apply Keep.set | apply Keep.del | (first | omega | (simp only [za, zb, zc]; omega)))) : p := h
theorem qM16 {p : Prop} (h : p := by (conv => lhs; whnf); all_goals first | exact rfl | (simp; done) | (simp; omega)) : p := h
theorem qM17 {p : Prop} (h : p := by exact SD.s rfl rfl rfl qM1) : p := h
theorem qM18 {p : Prop} (h : p := by exact AStepD.move' rfl qM2) : p := h
theorem qM19 {p : Prop} (h : p := by first | with_reducible assumption | (simp (disch := (first | omega | (exact Lst.lab_ne (by with_reducible assumption) qM3) | (exact Lst.lab_new (by with_reducible assumption) qM3) | (refine id ?_; simp only [za, zb, zc, zd]; done) | (simp only [za, zb, zc, zd]; omega))) only [z1, z2, z3, z4, z5, z6, z7, z8, z9, ne_eq, *]; done) | (simp (disch := (first | omega | (exact Lst.lab_ne (by with_reducible assumption) qM3) | (exact Lst.lab_new (by with_reducible assumption) qM3) | (refine id ?_; simp only [za, zb, zc, zd]; done) | (simp only [za, zb, zc, zd]; omega))) only [z1, z2, z3, z4, z5, z6, z7, z8, z9, ne_eq, *]; exact rfl)) : p := h
theorem qM20 {p : Prop} (h : p := by first | exact one_cells (by with_reducible assumption) | exact qM2) : p := h
theorem qM21 {p : Prop} (h : p := by exact AStepD.assign' rfl qM2) : p := h
theorem qM22 {p : Prop} (h : p := by exact SD.s rfl rfl rfl qM11) : p := h
theorem qM23 {p : Prop} (h : p := by first | exact AStepD.pick_true' rfl rfl qM2 | exact AStepD.pick_false' rfl rfl qM2 | exact AStepD.and rfl _ _ _ rfl rfl qM12 rfl | exact AStepD.and' rfl _ _ rfl rfl rfl | exact AStepD.or rfl _ _ _ rfl rfl rfl qM12 | exact AStepD.or' rfl _ _ rfl rfl rfl) : p := h
theorem qM24 {p : Prop} (h : p := by exact (fun hb => by (repeat (first | apply UW.yes rfl (gpf hb) | apply UW.no)); exact UW.nil qM13)) : p := h
theorem qM25 {p : Prop} (h : p := by exact (fun _ hb => by (repeat (first | apply UW.yes rfl (gpf hb) | apply UW.no)); exact UW.nil qM13)) : p := h
theorem qM26 {p : Prop} (h : p := by first | exact GW.yes rfl rfl rfl rfl rfl rfl rfl qM14 | exact GW.no rfl rfl rfl rfl rfl rfl rfl | exact GW.none rfl rfl rfl rfl rfl | exact GW.may rfl rfl rfl rfl rfl rfl (fun hb => by (repeat (first | apply UW.yes rfl (gpf hb) | apply UW.no)); exact UW.nil qM14) | exact GW.may2 rfl rfl rfl rfl rfl rfl (fun _ hb => by (repeat (first | apply UW.yes rfl (gpf hb) | apply UW.no)); exact UW.nil qM14)) : p := h
theorem qM27 {p : Prop} (h : p := by simp (disch := (first | omega | (exact Lst.lab_ne (by with_reducible assumption) qM3) | (exact Lst.lab_new (by with_reducible assumption) qM3) | (refine id ?_; simp only [za, zb, zc, zd]; done) | (simp only [za, zb, zc, zd]; omega))) only [z1, z2, z3, z4, z5, z6, z7, z8, z9, ne_eq]) : p := h
theorem qM28 {p : Prop} (h : p := by repeat' (first | exact SubT.nil _ | refine SubT.cons_eq qM16 ?_)) : p := h
theorem qM29 {p : Prop} (h : p := by exact SD.s rfl rfl rfl qM18) : p := h
theorem qM30 {p : Prop} (h : p := by first | exact AStepD.load_one tok rfl rfl rfl rfl qM19 rfl qM4 | exact AStepD.load_one_ip tok rfl rfl rfl rfl rfl qM4) : p := h
theorem qM31 {p : Prop} (h : p := by exact AStepD.store' tok rfl rfl qM19 qM2 qM20 qM5 rfl qM2 rfl qM6 qM7) : p := h
theorem qM32 {p : Prop} (h : p := by first | exact retA_agg rfl rfl rfl qM19 rfl (show _ = 1 from rfl) qM6 qM8 retA_nil | exact retA_one rfl rfl rfl rfl qM19 rfl qM4 retA_nil) : p := h
theorem qM33 {p : Prop} (h : p := by exact SD.s rfl rfl rfl qM21) : p := h
theorem qM34 {p : Prop} (h : p := by exact (fun hb => by (repeat (first | apply UW.yes rfl (gpf hb) | apply UW.no)); exact UW.nil qM18)) : p := h
theorem qM35 {p : Prop} (h : p := by exact (fun _ hb => by (repeat (first | apply UW.yes rfl (gpf hb) | apply UW.no)); exact UW.nil qM18)) : p := h
theorem qM36 {p : Prop} (h : p := by exact SD.s rfl rfl rfl qM23) : p := h
theorem qM37 {p : Prop} (h : p := by first | exact GW.yes rfl rfl rfl rfl rfl rfl rfl qM13 | exact GW.no rfl rfl rfl rfl rfl rfl rfl | exact GW.none rfl rfl rfl rfl rfl | exact GW.may rfl rfl rfl rfl rfl rfl qM24 | exact GW.may2 rfl rfl rfl rfl rfl rfl qM25) : p := h
theorem qM38 {p : Prop} (h : p := by exact SD.s rfl rfl rfl qM30) : p := h
theorem qM39 {p : Prop} (h : p := by first | exact retA_agg rfl rfl rfl qM19 rfl (show _ = 1 from rfl) qM6 qM8 qM32 | exact retA_one rfl rfl rfl rfl qM19 rfl qM4 qM32) : p := h
theorem qM40 {p : Prop} (h : p := by first | exact GW.yes rfl rfl rfl rfl rfl rfl rfl qM18 | exact GW.no rfl rfl rfl rfl rfl rfl rfl | exact GW.none rfl rfl rfl rfl rfl | exact GW.may rfl rfl rfl rfl rfl rfl qM34 | exact GW.may2 rfl rfl rfl rfl rfl rfl qM35) : p := h
set_option linter.unusedSimpArgs false
set_option linter.unusedVariables false
open Cel (c)

theorem str_nil (l : List UInt8) : decide ((str l).data.toList = (⟨#[]⟩ : ByteArray).data.toList) = decide (l = []) := by rw [str_list]

theorem parse_calls (H : AHeap) (l : List UInt8) (hl : l.length ≤ 1000000) : ACalls Tryz.prog 77 [strA l] H (fun r H' => r = .tup [u64A (parseS l), .v (.int .i64 (parseE l))] ∧ H' = H) := by
  refine ACalls.quiet_keep ?_ (.tup (by simp only [List.forall_mem_cons]; exact ⟨.v _, .v _, fun _ h => absurd h List.not_mem_nil⟩))
  refine ACalls.lts fun hlt => ?_
  refine ACalls.of_body tok Tryz.func77 rfl Tryz.ntmps77 (Nat.le_of_ble_eq_true rfl) (fun base => ?_)
  refine rg fun K hK => ?_
  refine st qM17 <| st qM17 <| nt (hK _ _ ?_)
  clear hK K
  refine rg fun K hK => ?_
  refine st qM17 <| nt (hK _ _ ?_)
  clear hK K
  rw [show AV.ofV (tt 68).zero = [.v (.int .u64 0)] from rfl, show AV.ofV (tt 35).zero = [.v (.int .i64 0)] from rfl]
  refine AW.seq_k (fun K1 hK1 => ?_)
  refine rg fun K hK => ?_
  refine st qM29 <| st (by exact SD.s rfl rfl rfl (by exact AStepD.bool (AStepD.str_eql rfl rfl rfl) (str_nil l))) <| nt (hK _ _ ?_)
  clear hK K
  refine AW.cond _ rfl (fun hc => ?_) (fun hc => ?_)
  · obtain rfl : l = [] := by simpa using hc
    refine rg fun K hK => ?_
    refine st qM38 <| st0 (by exact ⟨rfl, rfl, qM31⟩) <| st0 (by exact ⟨rfl, rfl, qM31⟩) <| nt (hK _ _ ?_)
    clear hK K
    refine AW.ret (RetQ.mk (.inr rfl) qM39 ⟨rfl, qM9⟩)
  have hne : l ≠ [] := by simpa using hc
  clear hc
  refine AW.skip ?_
  refine hK1 _ _ ?_; try clear hK1 K1
  refine AW.seq_k (fun K2 hK2 => ?_)
  refine AW.seq_region (fun K hK => ?_)
  refine AL.step rfl rfl rfl qM18 ?_
  refine AL.call rfl rfl rfl (AStep.callf rfl en104 (split_calls _ l)) ?_
  rintro y H1 ⟨rfl, rfl⟩
  
  refine AL.nil_then (hK _ _ ?_); clear hK K
  refine AW.block ?_
  unfold splitH
  refine AW.rangeFunc rfl en149 (by decide) (split_seq _ l hl (H.next + 3 + 1) (H.next + 3) (H.next + 3 + 2) qM19 qM19 qM19 qM10 qM10 qM10 (by omega) (by omega))
    (fun i H' => ∃ acc, loopS ((splitB 32 l).drop i) acc = loopS (splitB 32 l) 0#64 ∧ H'.get H.next = some (.cells 68 [.v (.int .u64 0)]) ∧ H'.get (H.next + 1) = some (.cells 35 [.v (.int .i64 0)]) ∧ H'.get (H.next + 2) = some (.cells 68 [u64A acc]) ∧ Keep H H' ∧ H.next + 6 ≤ H'.next)
    (fun e H' => e = .ret ∧ loopS (splitB 32 l) 0#64 = none ∧ H'.get H.next = some (.cells 68 [.v (.int .u64 0)]) ∧ H'.get (H.next + 1) = some (.cells 35 [.v (.int .i64 60)]) ∧ Keep H H' ∧ H.next + 6 ≤ H'.next) ?_ ?_ ?_ ?_ ?_ ?_
  · rintro i A B ⟨acc, p1, p2, p3, p4, hk, hn⟩ ⟨hs1, hs2⟩
    have hq : ∀ q, q < H.next + 3 → B.get q = A.get q := fun q hq => hs1 q (by omega) (by simp only [zc]; omega)
    exact ⟨acc, p1, (hq _ (by omega)).trans p2, (hq _ (by omega)).trans p3, (hq _ (by omega)).trans p4, ⟨by have := hk.1; omega, fun q hq2 => (hq q (by omega)).trans (hk.2 q hq2)⟩, by omega⟩
  · rintro e A B ⟨p0, p1, p2, p3, hk, hn⟩ ⟨hs1, hs2⟩
    have hq : ∀ q, q < H.next + 3 → B.get q = A.get q := fun q hq => hs1 q (by omega) (by simp only [zc]; omega)
    exact ⟨p0, p1, (hq _ (by omega)).trans p2, (hq _ (by omega)).trans p3, ⟨by have := hk.1; omega, fun q hq2 => (hq q (by omega)).trans (hk.2 q hq2)⟩, by omega⟩
  · exact ⟨0#64, rfl, qM19, qM19, qM19, qM9, qM10⟩
  · rintro L i A hi ⟨acc, p1, p2, p3, p4, hk, hn⟩ hnA
    have hi2 : i < (splitB 32 l).length := by simpa using hi
    simp only [List.getElem_map]
    rw [List.drop_eq_getElem_cons hi2, loopS] at p1
    have q3 : A.get (H.new (.cells 68 [.v (.int .u64 0)])).next = some (.cells 35 [.v (.int .i64 0)]) := p3
    have q4 : A.get ((H.new (.cells 68 [.v (.int .u64 0)])).new (.cells 35 [.v (.int .i64 0)])).next = some (.cells 68 [u64A acc]) := p4
    have hpl := split_len 32 l _ (List.getElem_mem hi2)
    generalize (splitB 32 l)[i] = p at p1 hpl ⊢
    replace hpl : p.length ≤ 1000000 := Nat.le_trans hpl hl
    have hcl : (cutB 45 p).1.length ≤ 1000000 := Nat.le_trans (cut_len 45 p).1 hpl
    refine AW.region ?_
    refine st qM33 <| AL.nil ?_
    refine AW.block ?_
    refine rg fun K hK => ?_
    refine st qM29 <| st (by exact SD.s rfl rfl rfl (by exact AStepD.callf rfl en75 rfl (cut_calls _ p 45 hpl))) <| st qM29 <| st qM22 <| st qM22 <| st qM22 <| st qM33 <| st qM33 <| st qM33 <| nt (hK _ _ ?_)
    clear hK K
    refine AW.seq_k (fun K4 hK4 => ?_)
    have hb : ∃ b, b = (if (cutB 45 p).2.2 then (cutB 45 p).2.1 else (cutB 45 p).1) := ⟨_, rfl⟩
    obtain ⟨b, hb⟩ := hb
    have hpt : partS p = if atoiB (cutB 45 p).1 || atoiB b || decide (atoiV (cutB 45 p).1 < 0) || decide (atoiV b < atoiV (cutB 45 p).1) || decide (64 ≤ atoiV b) then none else some ((atoiV (cutB 45 p).1).toNat, (atoiV b).toNat) := by rw [partS, hb]
    have hbl : b.length ≤ 1000000 := by
      rw [hb]
      split
      · exact Nat.le_trans (cut_len 45 p).2 hpl
      · exact hcl
    rw [hpt] at p1
    clear hpt
    generalize cutB 45 p = q at hb p1 hcl ⊢
    obtain ⟨x, z, two⟩ := q
    dsimp only at hb p1 hcl ⊢
    have hnA' : H.next + 6 ≤ A.next := hn
    have key : ∀ T', SubT T' [(7, strA b), (6, strA x), (4, .ptr (H.next + 2) 0), (3, .ptr (H.next + 1) 0), (2, .ptr H.next 0)] → K4 T' A := fun T' hT' => by
      refine hK4 _ _ ?_
      refine AW.sub hT' ?_
      clear hT' hK4 K4
      refine rg fun K hK => ?_
      refine st qM29 <| st (by exact SD.s rfl rfl rfl (by exact AStepD.callf rfl en103 rfl (atoi_calls _ x hcl))) <| st qM29 <| st qM22 <| st qM22 <| st qM33 <| st qM33 <| nt (hK _ _ ?_)
      clear hK K
      refine rg fun K hK => ?_
      refine st qM29 <| st (by exact SD.s rfl rfl rfl (by exact AStepD.callf rfl en103 rfl (atoi_calls _ b hbl))) <| st qM29 <| st qM22 <| st qM22 <| st qM33 <| st qM33 <| nt (hK _ _ ?_)
      clear hK K
      refine AW.seq_k (fun K5 hK5 => ?_)
      refine rg fun K hK => ?_
      refine st qM29 <| st (by exact SD.s rfl rfl rfl (by exact err_neq rfl rfl rfl rfl)) <| st qM29 <| st (GW.p (l := [12]) qM40) <| st (GW.p (l := [42]) (by first | exact GW.yes rfl rfl rfl rfl rfl rfl rfl (by exact err_neq rfl rfl rfl rfl) | exact GW.no rfl rfl rfl rfl rfl rfl rfl | exact GW.none rfl rfl rfl rfl rfl | exact GW.may rfl rfl rfl rfl rfl rfl (fun hb => by (repeat (first | apply UW.yes rfl (gpf hb) | apply UW.no)); exact UW.nil (by exact err_neq rfl rfl rfl rfl)) | exact GW.may2 rfl rfl rfl rfl rfl rfl (fun _ hb => by (repeat (first | apply UW.yes rfl (gpf hb) | apply UW.no)); exact UW.nil (by exact err_neq rfl rfl rfl rfl)))) <| st qM36 <| st qM29 <| st (GW.p (l := [9]) qM40) <| st (GW.p (l := [46]) qM37) <| st qM36 <| st qM29 <| st (GW.p (l := [11]) qM40) <| st (GW.p (l := [9]) qM40) <| st (GW.p (l := [50, 51]) qM37) <| st qM36 <| st qM29 <| st (GW.p (l := [11]) qM40) <| st (GW.p (l := [55]) qM26) <| st qM36 <| nt (hK _ _ ?_)
      clear hK K
      refine AW.cond _ rfl (fun hc => ?_) (fun hc => ?_)
      · rw [if_pos hc] at p1
        clear hc
        refine rg fun K hK => ?_
        refine st0 (by exact ⟨rfl, rfl, qM31⟩) <| st0 (by exact ⟨rfl, rfl, qM31⟩) <| nt (hK _ _ ?_)
        clear hK K
        refine AW.ret ⟨⟨fun q hq hlt => ?_, qM10⟩, rfl, p1.symm, qM19, qM19, qM15, qM10⟩
        have hq3 : H.next + 3 ≤ q := by
          simp only [zc] at hq
          omega
        have hq1 : q ≠ H.next := by omega
        have hq2 : q ≠ H.next + 1 := by omega
        exact qM27
      · rw [if_neg (by rw [hc]; simp)] at p1
        simp only [Bool.or_eq_false_iff, decide_eq_false_iff_not, Int.not_lt, Int.not_le] at hc
        obtain ⟨⟨⟨⟨_, _⟩, c3⟩, c4⟩, c5⟩ := hc
        obtain ⟨n, hn0⟩ := Int.eq_ofNat_of_zero_le c3
        obtain ⟨m, hm0⟩ := Int.eq_ofNat_of_zero_le (Int.le_trans c3 c4)
        rw [hn0, hm0] at c4
        rw [hm0] at c5
        rw [hn0, hm0, Int.toNat_natCast, Int.toNat_natCast] at p1
        simp only [hn0, hm0]
        clear hn0 hm0 c3 hcl hbl
        refine AW.skip ?_
        refine hK5 _ _ ?_; try clear hK5 K5
        refine rg fun K hK => ?_
        refine st qM29 <| st qM33 <| nt (hK _ _ ?_)
        clear hK K
        refine AW.block ?_
        refine AW.loop_at (ι := Nat) (fun k => [(13, .v (.int .i64 (k : Nat))), (11, .v (.int .i64 (m : Nat))), (4, .ptr (H.next + 2) 0)])
          (fun k H' => n ≤ k ∧ k ≤ m + 1 ∧ H'.get (H.next + 2) = some (.cells 68 [u64A (acc ||| rangeB n k)]) ∧ H'.get H.next = some (.cells 68 [.v (.int .u64 0)]) ∧ H'.get (H.next + 1) = some (.cells 35 [.v (.int .i64 0)]) ∧ Keep H H' ∧ A.next ≤ H'.next ∧ (∀ q, H.next + 3 ≤ q → q < A.next → H'.get q = A.get q))
          (fun k => m + 1 - k) n qM28 ⟨Nat.le_refl _, by omega, by rw [rangeB_nil, BitVec.or_zero]; exact q4, p2, q3, hk, Nat.le_refl _, fun _ _ _ => rfl⟩ ?_
        rintro k A2 ⟨k1, k2, g4, g2, g3, hk2, hn2, hold⟩
        refine AW.seq_k (fun K6 hK6 => ?_)
        refine rg fun K hK => ?_
        refine st qM29 <| st qM29 <| st (by exact SD.s rfl rfl rfl (by exact AStepD.leq rfl rfl rfl)) <| nt (hK _ _ ?_)
        clear hK K
        refine AW.cond _ rfl (fun hc => ?_) (fun hc => ?_)
        · have hkm : k ≤ m := by simpa using hc
          clear hc
          refine AW.skip ?_
          refine hK6 _ _ ?_; try clear hK6 K6
          refine AW.seq_k (fun K7 hK7 => ?_)
          refine AW.block ?_
          apply AW.draw mixed [_, _, _, _, _] [4] [_, _] [(0, 0), (1, 0), (2, 0), (3, 0), (4, 0)] rfl rfl rfl (by simp only [List.getD_cons_zero, List.getD_cons_succ]; all_goals apply Eq.refl)
          · refine ⟨?_, ?_, ?_, ?_, ?_⟩
            · refine Ob.mk _ [4] 0 rfl rfl (restr_cons qM2 restr_nil) rfl ?_
              simp only [List.getD_cons_zero, List.getD_cons_succ]
              exact GStep.plain rfl qM30
            · refine Ob.mk _ [13] 0 rfl rfl (restr_cons qM2 restr_nil) rfl ?_
              simp only [List.getD_cons_zero, List.getD_cons_succ]
              exact GStep.plain rfl qM18
            · refine Ob.mk _ [65] 0 rfl rfl (restr_cons qM2 restr_nil) rfl ?_
              simp only [List.getD_cons_zero, List.getD_cons_succ]
              exact GStep.plain rfl (by first | exact AStepD.bv_shl (a := 1#64) rfl rfl rfl | exact AStepD.shl rfl rfl rfl (by omega) rfl)
            · refine Ob.mk _ [64, 66] 0 rfl rfl (restr_cons qM2 (restr_cons qM2 restr_nil)) rfl ?_
              simp only [List.getD_cons_zero, List.getD_cons_succ]
              exact GStep.plain rfl (by first | exact AStepD.bv_or rfl rfl rfl | exact AStepD.bits rfl (by simp) rfl rfl rfl)
            · refine Ob.mk _ [4, 67] 1 rfl rfl (restr_cons qM2 (restr_cons qM2 restr_nil)) rfl ?_
              simp only [List.getD_cons_zero, List.getD_cons_succ]
              exact GStep.plain rfl qM31
          refine hK7 _ _ ?_; try clear hK7 K7
          refine AW.frame (by simp only [frameAt, putA]; all_goals exact rfl) (by simp only [List.length_cons, List.length_nil, Nat.zero_add, Nat.reduceAdd, List.getD_cons_zero, List.getD_cons_succ]; all_goals apply Eq.refl) ?_
          refine AW.region ?_
          refine st qM29 <| st (by exact SD.s rfl rfl rfl (by first | exact AStepD.add rfl rfl rfl (by first | exact IntWalk.i64_in _ (by omega) | exact IntWalk.i64_in _ (by simp only [Bool.or_eq_true, Bool.and_eq_true, Bool.or_eq_false_iff, Bool.and_eq_false_iff, Bool.not_eq_true', Bool.not_eq_false', decide_eq_true_eq, decide_eq_false_iff_not, Int.not_lt, Int.not_le, beq_iff_eq] at *; omega) | exact rfl) | exact AStepD.str_add rfl rfl rfl (by omega))) <| st qM33 <| AL.nil ?_
          refine ⟨k + 1, by omega, qM28, by omega, by omega, ?_, qM19, qM19, qM15, qM10, fun q h1 h2 => Eq.trans ?_ (hold q h1 h2)⟩
          · rw [rangeB_next _ _ k1, ← BitVec.or_assoc]
            exact qM19
          · have hq1 : q ≠ H.next + 2 := by omega
            exact qM27
        · have hkm : k = m + 1 := by
            have : ¬ k ≤ m := by simpa using hc
            omega
          subst hkm
          clear hc
          refine AW.exit ?_
          refine ⟨⟨fun q hq hlt => ?_, hn2⟩, acc ||| rangeB n (m + 1), p1, g2, g3, g4, hk2, by omega⟩
          refine hold q ?_ hlt
          simp only [zc] at hq
          omega
    refine rg fun K hK => ?_
    refine st qM29 <| st (by exact SD.s rfl rfl rfl (by first | exact AStepD.not rfl rfl | exact AStepD.neg rfl rfl (by first | exact IntWalk.i64_in _ (by omega) | exact IntWalk.i64_in _ (by simp only [Bool.or_eq_true, Bool.and_eq_true, Bool.or_eq_false_iff, Bool.and_eq_false_iff, Bool.not_eq_true', Bool.not_eq_false', decide_eq_true_eq, decide_eq_false_iff_not, Int.not_lt, Int.not_le, beq_iff_eq] at *; omega) | exact rfl))) <| nt (hK _ _ ?_)
    clear hK K
    refine AW.cond _ rfl (fun hc => ?_) (fun hc => ?_)
    · have hb2 : b = x := by rw [hb, if_neg (by simpa using hc)]
      refine AW.region ?_
      refine st qM29 <| st qM33 <| AL.nil ?_
      subst hb2
      exact key _ qM28
    · have hb2 : b = z := by rw [hb, if_pos (by simpa using hc)]
      refine AW.skip ?_
      subst hb2
      exact key _ qM28
  · rintro A ⟨acc, p1, p2, p3, p4, hk, hn⟩ hnA
    rw [List.length_map, List.drop_length] at p1
    have q3 : A.get (H.new (.cells 68 [.v (.int .u64 0)])).next = some (.cells 35 [.v (.int .i64 0)]) := p3
    have q4 : A.get ((H.new (.cells 68 [.v (.int .u64 0)])).new (.cells 35 [.v (.int .i64 0)])).next = some (.cells 68 [u64A acc]) := p4
    have hE : parseO l = if textS acc = l then some acc else none := by rw [parseO, if_neg hne, ← p1]; rfl
    clear p1 p3 p4
    refine hK2 _ _ ?_; clear hK2 K2
    refine AW.seq_k (fun K3 hK3 => ?_)
    refine rg fun K hK => ?_
    refine st qM38 <| st (by exact SD.s rfl rfl rfl (by exact AStepD.callf rfl en29 rfl (text_calls _ acc))) <| st qM29 <| st (by exact SD.s rfl rfl rfl (by exact AStepD.bool (AStepD.str_neq rfl rfl rfl) (c := decide (textS acc ≠ l)) (by rw [str_list, str_list]))) <| nt (hK _ _ ?_)
    clear hK K
    refine AW.cond _ rfl (fun hc => ?_) (fun hc => ?_)
    · refine rg fun K hK => ?_
      refine st0 (by exact ⟨rfl, rfl, qM31⟩) <| st0 (by exact ⟨rfl, rfl, qM31⟩) <| nt (hK _ _ ?_)
      clear hK K
      refine AW.ret (RetQ.mk (.inr rfl) qM39 ⟨?_, qM15⟩)
      rw [parseS, parseE, hE, if_neg (by simpa using hc)]; rfl
    · refine AW.skip ?_
      refine hK3 _ _ ?_; try clear hK3 K3
      refine rg fun K hK => ?_
      refine st qM38 <| st0 (by exact ⟨rfl, rfl, qM31⟩) <| st0 (by exact ⟨rfl, rfl, qM31⟩) <| nt (hK _ _ ?_)
      clear hK K
      refine AW.ret (RetQ.mk (.inr rfl) qM39 ⟨?_, qM15⟩)
      rw [parseS, parseE, hE, if_pos (by simpa using hc)]; rfl
  · rintro e A ⟨rfl, p1, p2, p3, hk, hn⟩ _ _
    have hE : parseO l = none := by rw [parseO, if_neg hne, p1]
    have p3' : A.get (H.new (.cells 68 [.v (.int .u64 0)])).next = some (.cells 35 [.v (.int .i64 60)]) := p3
    clear p1 p3
    refine RetQ.mk (.inr rfl) qM39 ⟨?_, hk⟩
    rw [parseS, parseE, hE]; rfl
end Go.Proofs.YtcomjodfkcnjhaaGreatDoor

/- The reference's reading of a text, plainly. -/

namespace Go.Proofs.YtcomjodfkcnjhaaGreatDoor
open Go.Ax
open Cel (c)
set_option linter.unusedSimpArgs false
set_option linter.unusedVariables false

def at8 (l : List UInt8) (i : Nat) : Nat := (l.getD i 0).toNat
def digB (l : List UInt8) (i : Nat) : Bool := decide (i < l.length) && decide (48 ≤ at8 l i) && decide (at8 l i ≤ 57)
def cntN (l : List UInt8) (p : Nat) : Nat := if digB l p then (if digB l (p + 1) then 2 else 1) else 0
def accN (l : List UInt8) (p : Nat) : Nat → Nat
  | 0 => 0
  | k + 1 => 10 * accN l p k + (at8 l (p + k) - 48)
def numBad (l : List UInt8) (p : Nat) : Bool := decide (cntN l p = 0) || decide (63 < accN l p (cntN l p)) || (decide (0 < cntN l p) && decide (at8 l p = 48) && decide (1 < cntN l p))
def numV (l : List UInt8) (p : Nat) : Int := if numBad l p then -1 else (accN l p (cntN l p) : Nat)
def numE (l : List UInt8) (p : Nat) : Nat := if numBad l p then p else p + cntN l p
theorem cnt_le (l : List UInt8) (p : Nat) : cntN l p ≤ 2 := by rw [cntN]; split <;> try split
                                                               all_goals omega
theorem dig_of {l : List UInt8} {p : Nat} (h : digB l p = true) : p < l.length ∧ 48 ≤ at8 l p ∧ at8 l p ≤ 57 := by
  simp only [digB, Bool.and_eq_true, decide_eq_true_eq] at h
  exact ⟨h.1.1, h.1.2, h.2⟩
theorem at8_get {l : List UInt8} {p : Nat} (h : p < l.length) : l[p] = UInt8.ofNat (at8 l p) := by
  rw [at8, List.getD_eq_getElem?_getD, List.getElem?_eq_getElem h, Option.getD_some]
  simp
theorem take_one {l : List UInt8} {p : Nat} (h : p < l.length) : l.take (p + 1) = l.take p ++ [UInt8.ofNat (at8 l p)] := by
  rw [List.take_succ_eq_append_getElem h, at8_get h]
theorem num_sound {l : List UInt8} {p : Nat} (h : 0 ≤ numV l p) : ∃ a : Nat, numV l p = a ∧ a < 64 ∧ p < numE l p ∧ numE l p ≤ l.length ∧ l.take (numE l p) = l.take p ++ Lib.decDigits a := by
  have hb : numBad l p = false := by
    cases e : numBad l p with
    | false => rfl
    | true => rw [numV, e] at h; simp at h
  rw [numV, numE, hb]
  simp only [Bool.false_eq_true, if_false]
  simp only [numBad, Bool.or_eq_false_iff, decide_eq_false_iff_not, Bool.and_eq_false_iff] at hb
  obtain ⟨⟨h1, h2⟩, h3⟩ := hb
  refine ⟨_, rfl, by omega, by omega, ?_⟩
  rw [cntN] at h1 h2 h3 ⊢
  by_cases d1 : digB l p = true
  · obtain ⟨c1, c2, c3⟩ := dig_of d1
    rw [if_pos d1] at h1 h2 h3 ⊢
    by_cases d2 : digB l (p + 1) = true
    · obtain ⟨e1, e2, e3⟩ := dig_of d2
      rw [if_pos d2] at h1 h2 h3 ⊢
      have hx : accN l p 2 = 10 * (at8 l p - 48) + (at8 l (p + 1) - 48) := by simp [accN]
      have hz : at8 l p ≠ 48 := by
        rcases h3 with (h3 | h3) | h3
        · omega
        · exact h3
        · omega
      refine ⟨by omega, ?_⟩
      rw [take_one e1, take_one c1, dec_eq _ (by omega), if_neg (by omega), hx, List.append_assoc,
        show 48 + (10 * (at8 l p - 48) + (at8 l (p + 1) - 48)) / 10 = at8 l p by omega, show 48 + (10 * (at8 l p - 48) + (at8 l (p + 1) - 48)) % 10 = at8 l (p + 1) by omega]
      rfl
    · rw [if_neg d2] at h1 h2 h3 ⊢
      have hx : accN l p 1 = at8 l p - 48 := by simp [accN]
      refine ⟨by omega, ?_⟩
      rw [take_one c1, dec_eq _ (by omega), if_pos (by omega), hx, show 48 + (at8 l p - 48) = at8 l p by omega]
  · rw [if_neg d1] at h1
    omega
theorem at8_app (u v : List UInt8) (i : Nat) : at8 (u ++ v) (u.length + i) = at8 v i := by
  rw [at8, at8, List.getD_eq_getElem?_getD, List.getD_eq_getElem?_getD, List.getElem?_append_right (by omega), Nat.add_sub_cancel_left]
theorem dig_app (u v : List UInt8) (i : Nat) : digB (u ++ v) (u.length + i) = digB v i := by
  rw [digB, digB, at8_app, List.length_append]
  congr 2
  exact decide_eq_decide.2 (by omega)
theorem num_app (u v : List UInt8) : numV (u ++ v) u.length = numV v 0 ∧ numE (u ++ v) u.length = u.length + numE v 0 := by
  have hc : cntN (u ++ v) u.length = cntN v 0 := by
    rw [cntN, cntN, ← dig_app u v 0, ← dig_app u v (0 + 1)]; rfl
  have ha : ∀ k, accN (u ++ v) u.length k = accN v 0 k := fun k => by
    induction k with
    | zero => rfl
    | succ k ih => rw [accN, accN, ih, at8_app, Nat.zero_add]
  have hb : numBad (u ++ v) u.length = numBad v 0 := by
    have := at8_app u v 0
    rw [Nat.add_zero] at this
    rw [numBad, numBad, hc, ha, this]
  refine ⟨by rw [numV, numV, hb, hc, ha], ?_⟩
  rw [numE, numE, hb, hc]
  split
  · rfl
  · rw [Nat.zero_add]
theorem num_check : ∀ a : Fin 64, numV (dec2 a.1) 0 = a.1 ∧ numE (dec2 a.1) 0 = (dec2 a.1).length ∧ (numV (dec2 a.1 ++ [32]) 0 = a.1 ∧ numE (dec2 a.1 ++ [32]) 0 = (dec2 a.1).length) ∧ (numV (dec2 a.1 ++ [45]) 0 = a.1 ∧ numE (dec2 a.1 ++ [45]) 0 = (dec2 a.1).length) := by
  decide +kernel
theorem num_of (u v : List UInt8) (a : Nat) (ha : a < 64) (hv : ∀ c r, v = c :: r → c = 32 ∨ c = 45) : numV (u ++ (Lib.decDigits a ++ v)) u.length = a ∧ numE (u ++ (Lib.decDigits a ++ v)) u.length = u.length + (Lib.decDigits a).length := by
  obtain ⟨h1, h2⟩ := num_app u (Lib.decDigits a ++ v)
  rw [h1, h2]
  have e : Lib.decDigits a = dec2 a := by rw [dec_eq _ (by omega)]; rfl
  rw [e]
  obtain ⟨k1, k2, k3⟩ := num_check ⟨a, ha⟩
  cases v with
  | nil => rw [List.append_nil]; exact ⟨k1, by rw [k2]⟩
  | cons c r =>
    obtain ⟨k4, k5⟩ : numV (dec2 a ++ [c]) 0 = a ∧ numE (dec2 a ++ [c]) 0 = (dec2 a).length := by
      rcases hv c r rfl with rfl | rfl
      · exact k3.1
      · exact k3.2
    have hlen : 1 ≤ (dec2 a).length ∧ (dec2 a).length ≤ 2 := by
      rw [dec2]; split <;> simp
    have hat : ∀ i, i ≤ (dec2 a).length → at8 (dec2 a ++ c :: r) i = at8 (dec2 a ++ [c]) i := fun i hi => by
      rw [at8, at8, List.getD_eq_getElem?_getD, List.getD_eq_getElem?_getD]
      rcases Nat.lt_or_ge i (dec2 a).length with h | h
      · rw [List.getElem?_append_left h, List.getElem?_append_left h]
      · obtain rfl : i = (dec2 a).length := by omega
        simp
    have hdg : ∀ i, i ≤ (dec2 a).length → digB (dec2 a ++ c :: r) i = digB (dec2 a ++ [c]) i := fun i hi => by
      rw [digB, digB, hat i hi]
      congr 2
      exact decide_eq_decide.2 (by simp; omega)
    have hcn : cntN (dec2 a ++ c :: r) 0 = cntN (dec2 a ++ [c]) 0 := by
      rw [cntN, cntN, hdg 0 (by omega), hdg (0 + 1) (by omega)]
    have hac : ∀ k, k ≤ 2 → k ≤ (dec2 a).length + 1 → accN (dec2 a ++ c :: r) 0 k = accN (dec2 a ++ [c]) 0 k := fun k hk hk2 => by
      induction k with
      | zero => rfl
      | succ k ih => rw [accN, accN, ih (by omega) (by omega), hat _ (by omega)]
    have hb : numBad (dec2 a ++ c :: r) 0 = numBad (dec2 a ++ [c]) 0 := by
      rw [numBad, numBad, hcn, hat 0 (by omega), hac _ (cnt_le _ _) (by have := cnt_le (dec2 a ++ [c]) 0; omega)]
    refine ⟨?_, ?_⟩
    · rw [← k4, numV, numV, hb, hcn, hac _ (cnt_le _ _) (by have := cnt_le (dec2 a ++ [c]) 0; omega)]
    · rw [← k5, numE, numE, hb, hcn]

def stepR (l : List UInt8) (p : Nat) (least : Nat) : Option (Nat × Nat × Nat) :=
  if decide (0 < p) && decide (at8 l p ≠ 32) then none else
  let p1 := if 0 < p then p + 1 else p
  if numV l p1 < least then none else
  if decide (numE l p1 < l.length) && decide (at8 l (numE l p1) = 45) then
    if numV l (numE l p1 + 1) ≤ numV l p1 then none else some ((numV l p1).toNat, (numV l (numE l p1 + 1)).toNat, numE l (numE l p1 + 1))
  else some ((numV l p1).toNat, (numV l p1).toNat, numE l p1)
structure Rd (l : List UInt8) (p least : Nat) (rs : List (Nat × Nat)) : Prop where
  le : p ≤ l.length
  txt : l.take p = Lib.join (rs.map segT) [32]
  good : Good 0 rs
  zero : rs = [] → p = 0 ∧ least = 0
  pos : rs ≠ [] → 0 < p
  last : ∀ t a b, Good 0 (rs ++ (a, b) :: t) ↔ (Good (b + 2) t ∧ least ≤ a ∧ a ≤ b ∧ b < 64)
  pre : ∀ s, textS s = l → ∃ t, segsS s = rs ++ t
def sepB (rs : List (Nat × Nat)) : List UInt8 := if rs = [] then [] else [32]
theorem join_snoc (rs : List (Nat × Nat)) (x : Nat × Nat) : Lib.join ((rs ++ [x]).map segT) [32] = Lib.join (rs.map segT) [32] ++ (sepB rs ++ segT x) := by
  rw [sepB]
  by_cases h : rs = []
  · subst h; rw [if_pos rfl, List.nil_append, List.map_cons, List.map_nil, Lib.join_one, Lib.join_nil, List.nil_append, List.nil_append]
  · rw [if_neg h, List.map_append, join_append 32 _ _ (by simpa using h) (by simp), List.map_cons, List.map_nil, Lib.join_one]; rfl
theorem good_snoc : ∀ (rs : List (Nat × Nat)) (lo : Nat) (x y : Nat × Nat) (t : List (Nat × Nat)), Good lo (rs ++ x :: y :: t) ↔ (Good lo (rs ++ [x]) ∧ x.2 + 2 ≤ y.1 ∧ y.1 ≤ y.2 ∧ y.2 < 64 ∧ Good (y.2 + 2) t)
  | [], lo, (a, b), (a', b'), t => by
    show (lo ≤ a ∧ a ≤ b ∧ b < 64 ∧ b + 2 ≤ a' ∧ a' ≤ b' ∧ b' < 64 ∧ Good (b' + 2) t) ↔ ((lo ≤ a ∧ a ≤ b ∧ b < 64 ∧ True) ∧ b + 2 ≤ a' ∧ a' ≤ b' ∧ b' < 64 ∧ Good (b' + 2) t)
    constructor
    · rintro ⟨h1, h2, h3, h4⟩; exact ⟨⟨h1, h2, h3, trivial⟩, h4⟩
    · rintro ⟨⟨h1, h2, h3, _⟩, h4⟩; exact ⟨h1, h2, h3, h4⟩
  | (c, d) :: rs, lo, x, y, t => by
    show (lo ≤ c ∧ c ≤ d ∧ d < 64 ∧ Good (d + 2) (rs ++ x :: y :: t)) ↔ ((lo ≤ c ∧ c ≤ d ∧ d < 64 ∧ Good (d + 2) (rs ++ [x])) ∧ _)
    rw [good_snoc rs (d + 2) x y t]
    constructor
    · rintro ⟨h1, h2, h3, h4, h5⟩; exact ⟨⟨h1, h2, h3, h4⟩, h5⟩
    · rintro ⟨⟨h1, h2, h3, h4⟩, h5⟩; exact ⟨h1, h2, h3, h4, h5⟩
theorem step_sound {l : List UInt8} {p least a b e : Nat} (h : stepR l p least = some (a, b, e)) : l.take e = l.take p ++ ((if 0 < p then [32] else []) ++ segT (a, b)) ∧ least ≤ a ∧ a ≤ b ∧ b < 64 ∧ e ≤ l.length ∧ p < e := by
  rw [stepR] at h
  split at h
  · cases h
  rename_i h0
  obtain ⟨p1, hp1⟩ : ∃ p1, p1 = (if 0 < p then p + 1 else p) := ⟨_, rfl⟩
  simp only [← hp1] at h
  have hpp : p ≤ p1 := by rw [hp1]; split <;> omega
  split at h
  · cases h
  rename_i h1
  obtain ⟨x, e1, e2, e3, e4, e5⟩ := num_sound (l := l) (p := p1) (by omega)
  have ht : l.take p1 = l.take p ++ (if 0 < p then [32] else []) := by
    by_cases c : 0 < p
    · rw [if_pos c] at hp1 ⊢
      simp only [Bool.and_eq_true, decide_eq_true_eq, not_and, ne_eq, Decidable.not_not] at h0
      have h32 := h0 c
      subst hp1
      rw [take_one (by omega), h32]; rfl
    · rw [if_neg c] at hp1 ⊢
      rw [hp1, List.append_nil]
  split at h
  · rename_i h2
    simp only [Bool.and_eq_true, decide_eq_true_eq] at h2
    split at h
    · cases h
    rename_i h3
    obtain ⟨y, f1, f2, f3, f4, f5⟩ := num_sound (l := l) (p := numE l p1 + 1) (by omega)
    rw [e1, f1] at h h3
    simp only [Int.toNat_natCast, Option.some.injEq, Prod.mk.injEq] at h
    obtain ⟨rfl, rfl, rfl⟩ := h
    refine ⟨?_, by omega, by omega, f2, f4, by omega⟩
    rw [f5, take_one h2.1, h2.2, e5, ht, segT, if_pos (show x < y by omega)]
    simp
  · rw [e1] at h
    simp only [Int.toNat_natCast, Option.some.injEq, Prod.mk.injEq] at h
    obtain ⟨rfl, rfl, rfl⟩ := h
    refine ⟨?_, by omega, Nat.le_refl _, e2, e4, by omega⟩
    rw [e5, ht, segT, if_neg (Nat.lt_irrefl x), List.append_assoc]
theorem Rd.next {l : List UInt8} {p least : Nat} {rs : List (Nat × Nat)} (h : Rd l p least rs) (hp : p < l.length) {s : BitVec 64} (hs : textS s = l) : ∃ a b e t, stepR l p least = some (a, b, e) ∧ segsS s = rs ++ (a, b) :: t := by
  obtain ⟨t, ht⟩ := h.pre s hs
  cases t with
  | nil =>
    exfalso
    rw [List.append_nil] at ht
    have e := h.txt
    rw [← ht] at e
    have : l.take p = l := e.trans hs
    have := congrArg List.length this
    rw [List.length_take] at this
    omega
  | cons x t =>
    obtain ⟨a, b⟩ := x
    have hg := segsS_good s
    rw [ht, h.last] at hg
    obtain ⟨g1, g2, g3, g4⟩ := hg
    obtain ⟨v, hv, hvc⟩ : ∃ v, l = l.take p ++ (sepB rs ++ (segT (a, b) ++ v)) ∧ ∀ c r, v = c :: r → c = 32 := by
      have e := hs
      rw [textS, ht] at e
      cases t with
      | nil =>
        refine ⟨[], ?_, fun c r h => by cases h⟩
        rw [join_snoc] at e
        rw [h.txt, List.append_nil]
        exact e.symm
      | cons y t =>
        refine ⟨32 :: Lib.join ((y :: t).map segT) [32], ?_, fun c r h => by cases h; rfl⟩
        rw [show rs ++ (a, b) :: y :: t = (rs ++ [(a, b)]) ++ (y :: t) by simp, List.map_append, join_append 32 _ _ (by simp) (by simp), join_snoc] at e
        rw [h.txt]
        refine e.symm.trans ?_
        simp only [List.append_assoc]
    have hlp : (l.take p).length = p := by rw [List.length_take]; omega
    have h0 : (decide (0 < p) && decide (at8 l p ≠ 32)) = false := by
      by_cases c : rs = []
      · rw [(h.zero c).1]; rfl
      · have hc := h.pos c
        rw [sepB, if_neg c] at hv
        have : at8 l p = 32 := by
          have e := at8_app (l.take p) ([32] ++ (segT (a, b) ++ v)) 0
          rw [← hv, hlp] at e
          exact e
        simp [this]
    obtain ⟨p1, hp1⟩ : ∃ p1, p1 = (if 0 < p then p + 1 else p) := ⟨_, rfl⟩
    obtain ⟨u, hu, hul⟩ : ∃ u, l = u ++ (segT (a, b) ++ v) ∧ u.length = p1 := by
      refine ⟨l.take p ++ sepB rs, by rw [List.append_assoc]; exact hv, ?_⟩
      rw [List.length_append, hlp, hp1, sepB]
      by_cases c : rs = []
      · rw [if_pos c, (h.zero c).1]; rfl
      · rw [if_neg c, if_pos (h.pos c)]; rfl
    rw [stepR, h0]
    simp only [Bool.false_eq_true, if_false, ← hp1]
    clear hv h0 hs
    rcases Nat.lt_or_ge a b with hab | hab
    · rw [segT, if_pos hab] at hu
      have n1 := num_of u (45 :: Lib.decDigits b ++ v) a (by omega) (fun c r e => .inr (by cases e; rfl))
      have n2 := num_of (u ++ Lib.decDigits a ++ [45]) v b g4 (fun c r e => .inl (hvc c r e))
      have e1 : l = u ++ (Lib.decDigits a ++ (45 :: Lib.decDigits b ++ v)) := by rw [hu]; simp
      have e2 : l = u ++ Lib.decDigits a ++ [45] ++ (Lib.decDigits b ++ v) := by rw [hu]; simp
      rw [← e1, hul] at n1
      rw [← e2, List.length_append, List.length_append, hul, List.length_singleton, ← n1.2] at n2
      have hl3 : numE l p1 < l.length := by
        rw [n1.2, e2]; simp only [List.length_append, hul, List.length_singleton]; omega
      have h45 : at8 l (numE l p1) = 45 := by
        have e := at8_app (u ++ Lib.decDigits a) (45 :: Lib.decDigits b ++ v) 0
        rw [List.append_assoc, ← e1, List.length_append, hul] at e
        rw [n1.2]
        exact e
      refine ⟨a, b, numE l (numE l p1 + 1), t, ?_, ht⟩
      rw [if_neg (by rw [n1.1]; omega), if_pos (by simp [hl3, h45]), if_neg (by rw [n1.1, n2.1]; omega), n1.1, n2.1]
      rfl
    · obtain rfl : a = b := by omega
      rw [segT, if_neg (by simp)] at hu
      have n1 := num_of u v a g4 (fun c r e => .inl (hvc c r e))
      rw [← hu, hul] at n1
      have h45 : (decide (numE l p1 < l.length) && decide (at8 l (numE l p1) = 45)) = false := by
        rw [n1.2]
        cases v with
        | nil =>
          rw [decide_eq_false]; rfl
          rw [hu]; simp [hul]
        | cons c r =>
          have hc := hvc c r rfl
          have e := at8_app (u ++ Lib.decDigits a) (c :: r) 0
          rw [List.append_assoc, ← hu, List.length_append, hul] at e
          rw [Nat.add_zero] at e
          rw [e, hc]
          simp [at8]
      refine ⟨a, a, numE l p1, t, ?_, ht⟩
      rw [if_neg (by rw [n1.1]; omega), h45, n1.1]
      rfl
theorem Rd.step {l : List UInt8} {p least a b e : Nat} {rs : List (Nat × Nat)} (h : Rd l p least rs) (hp : p < l.length) (hst : stepR l p least = some (a, b, e)) : Rd l e (b + 2) (rs ++ [(a, b)]) ∧ p < e := by
  obtain ⟨h1, h2, h3, h4, h5, h6⟩ := step_sound hst
  have hsep : (if 0 < p then [(32 : UInt8)] else []) = sepB rs := by
    rw [sepB]
    by_cases c : rs = []
    · rw [if_pos c, (h.zero c).1]; rfl
    · rw [if_neg c, if_pos (h.pos c)]
  have hg : Good 0 (rs ++ [(a, b)]) := (h.last [] a b).2 ⟨trivial, h2, h3, h4⟩
  refine ⟨⟨h5, ?_, hg, fun c => by simp at c, fun _ => by omega, fun t c d => ?_, fun s hs => ?_⟩, h6⟩
  · rw [h1, h.txt, join_snoc, hsep]
  · rw [List.append_assoc, List.singleton_append, good_snoc]
    constructor
    · rintro ⟨_, k1, k2, k3, k4⟩; exact ⟨k4, k1, k2, k3⟩
    · rintro ⟨k4, k1, k2, k3⟩; exact ⟨hg, k1, k2, k3, k4⟩
  · obtain ⟨a', b', e', t, k1, k2⟩ := h.next hp hs
    rw [hst] at k1
    cases k1
    exact ⟨t, by rw [k2]; simp⟩
theorem Rd.fail {l : List UInt8} {p least : Nat} {rs : List (Nat × Nat)} (h : Rd l p least rs) (hp : p < l.length) (hst : stepR l p least = none) : parseO l = none := by
  cases e : parseO l with
  | none => rfl
  | some s =>
    obtain ⟨a, b, e, t, k1, _⟩ := h.next hp (text_of_parse e)
    rw [hst] at k1
    cases k1
theorem Rd.done {l : List UInt8} {p least : Nat} {rs : List (Nat × Nat)} (h : Rd l p least rs) (hp : ¬ p < l.length) : parseO l = some (setB rs) := by
  rw [parse_iff, textS, segs_setB h.good, ← h.txt, List.take_of_length_le (by omega)]
end Go.Proofs.YtcomjodfkcnjhaaGreatDoor

/- The reference's numbers: Digits and number. -/

namespace Go.Proofs.YtcomjodfkcnjhaaGreatDoor
open Go.Ax
open Cel (c)
set_option linter.unusedSimpArgs false
set_option linter.unusedVariables false
open Cel (c)

theorem strA_len {P : Program} {o : Oper} {T : Fr} {H : AHeap} {TT : Nat → TI} (hT : TOk P TT) {t : TypeId} {x : Operand} {l : List UInt8} (ho : o.op = .call { callee := .builtin .len, args := #[x], argTypes := #[t] }) (hx : aev T x = strA l) (hok : (TT t).ok = true) (hu : (TT t).und = .string) : AStepD P o T H (.v (.int .i64 (l.length : Nat))) H :=
  AStepD.val (AStepD.len_str hT ho hx hok hu) (by rw [str_size])
end Go.Proofs.YtcomjodfkcnjhaaGreatDoor
