/- The reference's reading of a text, plainly. -/
import Derived.Test.YtbcanlmpfhkklaaGreatDoorCW3
set_option linter.unusedSimpArgs false
set_option linter.unusedVariables false
namespace Go.Proofs.YtbcanlmpfhkklaaGreatDoor
open Go.Ax
open Cel (c)
set_option linter.unusedSimpArgs false
set_option linter.unusedVariables false

def at8 (l : List UInt8) (i : Nat) : Nat := (l.getD i 0).toNat
def digB (l : List UInt8) (i : Nat) : Bool := decide (i < l.length) && decide (48 ≤ at8 l i) && decide (at8 l i ≤ 57)
def cntN (l : List UInt8) (p : Nat) : Nat := if digB l p then (if digB l (p + 1) then 2 else 1) else 0
def accN (l : List UInt8) (p : Nat) : Nat → Nat
  | 0 => 0
  | k + 1 => 10 * accN l p k + (at8 l (p + k) - 48)
def numBad (l : List UInt8) (p : Nat) : Bool := decide (cntN l p = 0) || decide (63 < accN l p (cntN l p)) || (decide (0 < cntN l p) && decide (at8 l p = 48) && decide (1 < cntN l p))
def numV (l : List UInt8) (p : Nat) : Int := if numBad l p then -1 else (accN l p (cntN l p) : Nat)
def numE (l : List UInt8) (p : Nat) : Nat := if numBad l p then p else p + cntN l p
theorem cnt_le (l : List UInt8) (p : Nat) : cntN l p ≤ 2 := by rw [cntN]; split <;> try split
                                                               all_goals omega
theorem dig_of {l : List UInt8} {p : Nat} (h : digB l p = true) : p < l.length ∧ 48 ≤ at8 l p ∧ at8 l p ≤ 57 := by
  simp only [digB, Bool.and_eq_true, decide_eq_true_eq] at h
  exact ⟨h.1.1, h.1.2, h.2⟩
theorem at8_get {l : List UInt8} {p : Nat} (h : p < l.length) : l[p] = UInt8.ofNat (at8 l p) := by
  rw [at8, List.getD_eq_getElem?_getD, List.getElem?_eq_getElem h, Option.getD_some]
  simp
theorem take_one {l : List UInt8} {p : Nat} (h : p < l.length) : l.take (p + 1) = l.take p ++ [UInt8.ofNat (at8 l p)] := by
  rw [List.take_succ_eq_append_getElem h, at8_get h]
theorem num_sound {l : List UInt8} {p : Nat} (h : 0 ≤ numV l p) : ∃ a : Nat, numV l p = a ∧ a < 64 ∧ p < numE l p ∧ numE l p ≤ l.length ∧ l.take (numE l p) = l.take p ++ Lib.decDigits a := by
  have hb : numBad l p = false := by
    cases e : numBad l p with
    | false => rfl
    | true => rw [numV, e] at h; simp at h
  rw [numV, numE, hb]
  simp only [Bool.false_eq_true, if_false]
  simp only [numBad, Bool.or_eq_false_iff, decide_eq_false_iff_not, Bool.and_eq_false_iff] at hb
  obtain ⟨⟨h1, h2⟩, h3⟩ := hb
  refine ⟨_, rfl, by omega, by omega, ?_⟩
  rw [cntN] at h1 h2 h3 ⊢
  by_cases d1 : digB l p = true
  · obtain ⟨c1, c2, c3⟩ := dig_of d1
    rw [if_pos d1] at h1 h2 h3 ⊢
    by_cases d2 : digB l (p + 1) = true
    · obtain ⟨e1, e2, e3⟩ := dig_of d2
      rw [if_pos d2] at h1 h2 h3 ⊢
      have hx : accN l p 2 = 10 * (at8 l p - 48) + (at8 l (p + 1) - 48) := by simp [accN]
      have hz : at8 l p ≠ 48 := by
        rcases h3 with (h3 | h3) | h3
        · omega
        · exact h3
        · omega
      refine ⟨by omega, ?_⟩
      rw [take_one e1, take_one c1, dec_eq _ (by omega), if_neg (by omega), hx, List.append_assoc,
        show 48 + (10 * (at8 l p - 48) + (at8 l (p + 1) - 48)) / 10 = at8 l p by omega, show 48 + (10 * (at8 l p - 48) + (at8 l (p + 1) - 48)) % 10 = at8 l (p + 1) by omega]
      rfl
    · rw [if_neg d2] at h1 h2 h3 ⊢
      have hx : accN l p 1 = at8 l p - 48 := by simp [accN]
      refine ⟨by omega, ?_⟩
      rw [take_one c1, dec_eq _ (by omega), if_pos (by omega), hx, show 48 + (at8 l p - 48) = at8 l p by omega]
  · rw [if_neg d1] at h1
    omega
theorem at8_app (u v : List UInt8) (i : Nat) : at8 (u ++ v) (u.length + i) = at8 v i := by
  rw [at8, at8, List.getD_eq_getElem?_getD, List.getD_eq_getElem?_getD, List.getElem?_append_right (by omega), Nat.add_sub_cancel_left]
theorem dig_app (u v : List UInt8) (i : Nat) : digB (u ++ v) (u.length + i) = digB v i := by
  rw [digB, digB, at8_app, List.length_append]
  congr 2
  exact decide_eq_decide.2 (by omega)
theorem num_app (u v : List UInt8) : numV (u ++ v) u.length = numV v 0 ∧ numE (u ++ v) u.length = u.length + numE v 0 := by
  have hc : cntN (u ++ v) u.length = cntN v 0 := by
    rw [cntN, cntN, ← dig_app u v 0, ← dig_app u v (0 + 1)]; rfl
  have ha : ∀ k, accN (u ++ v) u.length k = accN v 0 k := fun k => by
    induction k with
    | zero => rfl
    | succ k ih => rw [accN, accN, ih, at8_app, Nat.zero_add]
  have hb : numBad (u ++ v) u.length = numBad v 0 := by
    have := at8_app u v 0
    rw [Nat.add_zero] at this
    rw [numBad, numBad, hc, ha, this]
  refine ⟨by rw [numV, numV, hb, hc, ha], ?_⟩
  rw [numE, numE, hb, hc]
  split
  · rfl
  · rw [Nat.zero_add]
theorem num_check : ∀ a : Fin 64, numV (dec2 a.1) 0 = a.1 ∧ numE (dec2 a.1) 0 = (dec2 a.1).length ∧ (numV (dec2 a.1 ++ [32]) 0 = a.1 ∧ numE (dec2 a.1 ++ [32]) 0 = (dec2 a.1).length) ∧ (numV (dec2 a.1 ++ [45]) 0 = a.1 ∧ numE (dec2 a.1 ++ [45]) 0 = (dec2 a.1).length) := by
  decide +kernel
theorem num_of (u v : List UInt8) (a : Nat) (ha : a < 64) (hv : ∀ c r, v = c :: r → c = 32 ∨ c = 45) : numV (u ++ (Lib.decDigits a ++ v)) u.length = a ∧ numE (u ++ (Lib.decDigits a ++ v)) u.length = u.length + (Lib.decDigits a).length := by
  obtain ⟨h1, h2⟩ := num_app u (Lib.decDigits a ++ v)
  rw [h1, h2]
  have e : Lib.decDigits a = dec2 a := by rw [dec_eq _ (by omega)]; rfl
  rw [e]
  obtain ⟨k1, k2, k3⟩ := num_check ⟨a, ha⟩
  cases v with
  | nil => rw [List.append_nil]; exact ⟨k1, by rw [k2]⟩
  | cons c r =>
    obtain ⟨k4, k5⟩ : numV (dec2 a ++ [c]) 0 = a ∧ numE (dec2 a ++ [c]) 0 = (dec2 a).length := by
      rcases hv c r rfl with rfl | rfl
      · exact k3.1
      · exact k3.2
    have hlen : 1 ≤ (dec2 a).length ∧ (dec2 a).length ≤ 2 := by
      rw [dec2]; split <;> simp
    have hat : ∀ i, i ≤ (dec2 a).length → at8 (dec2 a ++ c :: r) i = at8 (dec2 a ++ [c]) i := fun i hi => by
      rw [at8, at8, List.getD_eq_getElem?_getD, List.getD_eq_getElem?_getD]
      rcases Nat.lt_or_ge i (dec2 a).length with h | h
      · rw [List.getElem?_append_left h, List.getElem?_append_left h]
      · obtain rfl : i = (dec2 a).length := by omega
        simp
    have hdg : ∀ i, i ≤ (dec2 a).length → digB (dec2 a ++ c :: r) i = digB (dec2 a ++ [c]) i := fun i hi => by
      rw [digB, digB, hat i hi]
      congr 2
      exact decide_eq_decide.2 (by simp; omega)
    have hcn : cntN (dec2 a ++ c :: r) 0 = cntN (dec2 a ++ [c]) 0 := by
      rw [cntN, cntN, hdg 0 (by omega), hdg (0 + 1) (by omega)]
    have hac : ∀ k, k ≤ 2 → k ≤ (dec2 a).length + 1 → accN (dec2 a ++ c :: r) 0 k = accN (dec2 a ++ [c]) 0 k := fun k hk hk2 => by
      induction k with
      | zero => rfl
      | succ k ih => rw [accN, accN, ih (by omega) (by omega), hat _ (by omega)]
    have hb : numBad (dec2 a ++ c :: r) 0 = numBad (dec2 a ++ [c]) 0 := by
      rw [numBad, numBad, hcn, hat 0 (by omega), hac _ (cnt_le _ _) (by have := cnt_le (dec2 a ++ [c]) 0; omega)]
    refine ⟨?_, ?_⟩
    · rw [← k4, numV, numV, hb, hcn, hac _ (cnt_le _ _) (by have := cnt_le (dec2 a ++ [c]) 0; omega)]
    · rw [← k5, numE, numE, hb, hcn]

def stepR (l : List UInt8) (p : Nat) (least : Nat) : Option (Nat × Nat × Nat) :=
  if decide (0 < p) && decide (at8 l p ≠ 32) then none else
  let p1 := if 0 < p then p + 1 else p
  if numV l p1 < least then none else
  if decide (numE l p1 < l.length) && decide (at8 l (numE l p1) = 45) then
    if numV l (numE l p1 + 1) ≤ numV l p1 then none else some ((numV l p1).toNat, (numV l (numE l p1 + 1)).toNat, numE l (numE l p1 + 1))
  else some ((numV l p1).toNat, (numV l p1).toNat, numE l p1)
structure Rd (l : List UInt8) (p least : Nat) (rs : List (Nat × Nat)) : Prop where
  le : p ≤ l.length
  txt : l.take p = Lib.join (rs.map segT) [32]
  good : Good 0 rs
  zero : rs = [] → p = 0 ∧ least = 0
  pos : rs ≠ [] → 0 < p
  last : ∀ t a b, Good 0 (rs ++ (a, b) :: t) ↔ (Good (b + 2) t ∧ least ≤ a ∧ a ≤ b ∧ b < 64)
  pre : ∀ s, textS s = l → ∃ t, segsS s = rs ++ t
theorem Rd.start (l : List UInt8) : Rd l 0 0 [] where
  le := Nat.zero_le _
  txt := by rw [List.take_zero, List.map_nil, Lib.join_nil]
  good := trivial
  zero _ := ⟨rfl, rfl⟩
  pos h := absurd rfl h
  last t a b := by
    show (0 ≤ a ∧ a ≤ b ∧ b < 64 ∧ Good (b + 2) t) ↔ _
    exact ⟨fun ⟨h1, h2, h3, h4⟩ => ⟨h4, h1, h2, h3⟩, fun ⟨h1, h2, h3, h4⟩ => ⟨h2, h3, h4, h1⟩⟩
  pre s _ := ⟨_, rfl⟩
def sepB (rs : List (Nat × Nat)) : List UInt8 := if rs = [] then [] else [32]
theorem join_snoc (rs : List (Nat × Nat)) (x : Nat × Nat) : Lib.join ((rs ++ [x]).map segT) [32] = Lib.join (rs.map segT) [32] ++ (sepB rs ++ segT x) := by
  rw [sepB]
  by_cases h : rs = []
  · subst h; rw [if_pos rfl, List.nil_append, List.map_cons, List.map_nil, Lib.join_one, Lib.join_nil, List.nil_append, List.nil_append]
  · rw [if_neg h, List.map_append, join_append 32 _ _ (by simpa using h) (by simp), List.map_cons, List.map_nil, Lib.join_one]; rfl
theorem good_snoc : ∀ (rs : List (Nat × Nat)) (lo : Nat) (x y : Nat × Nat) (t : List (Nat × Nat)), Good lo (rs ++ x :: y :: t) ↔ (Good lo (rs ++ [x]) ∧ x.2 + 2 ≤ y.1 ∧ y.1 ≤ y.2 ∧ y.2 < 64 ∧ Good (y.2 + 2) t)
  | [], lo, (a, b), (a', b'), t => by
    show (lo ≤ a ∧ a ≤ b ∧ b < 64 ∧ b + 2 ≤ a' ∧ a' ≤ b' ∧ b' < 64 ∧ Good (b' + 2) t) ↔ ((lo ≤ a ∧ a ≤ b ∧ b < 64 ∧ True) ∧ b + 2 ≤ a' ∧ a' ≤ b' ∧ b' < 64 ∧ Good (b' + 2) t)
    constructor
    · rintro ⟨h1, h2, h3, h4⟩; exact ⟨⟨h1, h2, h3, trivial⟩, h4⟩
    · rintro ⟨⟨h1, h2, h3, _⟩, h4⟩; exact ⟨h1, h2, h3, h4⟩
  | (c, d) :: rs, lo, x, y, t => by
    show (lo ≤ c ∧ c ≤ d ∧ d < 64 ∧ Good (d + 2) (rs ++ x :: y :: t)) ↔ ((lo ≤ c ∧ c ≤ d ∧ d < 64 ∧ Good (d + 2) (rs ++ [x])) ∧ _)
    rw [good_snoc rs (d + 2) x y t]
    constructor
    · rintro ⟨h1, h2, h3, h4, h5⟩; exact ⟨⟨h1, h2, h3, h4⟩, h5⟩
    · rintro ⟨⟨h1, h2, h3, h4⟩, h5⟩; exact ⟨h1, h2, h3, h4, h5⟩
theorem step_sound {l : List UInt8} {p least a b e : Nat} (h : stepR l p least = some (a, b, e)) : l.take e = l.take p ++ ((if 0 < p then [32] else []) ++ segT (a, b)) ∧ least ≤ a ∧ a ≤ b ∧ b < 64 ∧ e ≤ l.length ∧ p < e := by
  rw [stepR] at h
  split at h
  · cases h
  rename_i h0
  obtain ⟨p1, hp1⟩ : ∃ p1, p1 = (if 0 < p then p + 1 else p) := ⟨_, rfl⟩
  simp only [← hp1] at h
  have hpp : p ≤ p1 := by rw [hp1]; split <;> omega
  split at h
  · cases h
  rename_i h1
  obtain ⟨x, e1, e2, e3, e4, e5⟩ := num_sound (l := l) (p := p1) (by omega)
  have ht : l.take p1 = l.take p ++ (if 0 < p then [32] else []) := by
    by_cases c : 0 < p
    · rw [if_pos c] at hp1 ⊢
      simp only [Bool.and_eq_true, decide_eq_true_eq, not_and, ne_eq, Decidable.not_not] at h0
      have h32 := h0 c
      subst hp1
      rw [take_one (by omega), h32]; rfl
    · rw [if_neg c] at hp1 ⊢
      rw [hp1, List.append_nil]
  split at h
  · rename_i h2
    simp only [Bool.and_eq_true, decide_eq_true_eq] at h2
    split at h
    · cases h
    rename_i h3
    obtain ⟨y, f1, f2, f3, f4, f5⟩ := num_sound (l := l) (p := numE l p1 + 1) (by omega)
    rw [e1, f1] at h h3
    simp only [Int.toNat_natCast, Option.some.injEq, Prod.mk.injEq] at h
    obtain ⟨rfl, rfl, rfl⟩ := h
    refine ⟨?_, by omega, by omega, f2, f4, by omega⟩
    rw [f5, take_one h2.1, h2.2, e5, ht, segT, if_pos (show x < y by omega)]
    simp
  · rw [e1] at h
    simp only [Int.toNat_natCast, Option.some.injEq, Prod.mk.injEq] at h
    obtain ⟨rfl, rfl, rfl⟩ := h
    refine ⟨?_, by omega, Nat.le_refl _, e2, e4, by omega⟩
    rw [e5, ht, segT, if_neg (Nat.lt_irrefl x), List.append_assoc]
theorem Rd.next {l : List UInt8} {p least : Nat} {rs : List (Nat × Nat)} (h : Rd l p least rs) (hp : p < l.length) {s : BitVec 64} (hs : textS s = l) : ∃ a b e t, stepR l p least = some (a, b, e) ∧ segsS s = rs ++ (a, b) :: t := by
  obtain ⟨t, ht⟩ := h.pre s hs
  cases t with
  | nil =>
    exfalso
    rw [List.append_nil] at ht
    have e := h.txt
    rw [← ht] at e
    have : l.take p = l := e.trans hs
    have := congrArg List.length this
    rw [List.length_take] at this
    omega
  | cons x t =>
    obtain ⟨a, b⟩ := x
    have hg := segsS_good s
    rw [ht, h.last] at hg
    obtain ⟨g1, g2, g3, g4⟩ := hg
    obtain ⟨v, hv, hvc⟩ : ∃ v, l = l.take p ++ (sepB rs ++ (segT (a, b) ++ v)) ∧ ∀ c r, v = c :: r → c = 32 := by
      have e := hs
      rw [textS, ht] at e
      cases t with
      | nil =>
        refine ⟨[], ?_, fun c r h => by cases h⟩
        rw [join_snoc] at e
        rw [h.txt, List.append_nil]
        exact e.symm
      | cons y t =>
        refine ⟨32 :: Lib.join ((y :: t).map segT) [32], ?_, fun c r h => by cases h; rfl⟩
        rw [show rs ++ (a, b) :: y :: t = (rs ++ [(a, b)]) ++ (y :: t) by simp, List.map_append, join_append 32 _ _ (by simp) (by simp), join_snoc] at e
        rw [h.txt]
        refine e.symm.trans ?_
        simp only [List.append_assoc]
    have hlp : (l.take p).length = p := by rw [List.length_take]; omega
    have h0 : (decide (0 < p) && decide (at8 l p ≠ 32)) = false := by
      by_cases c : rs = []
      · rw [(h.zero c).1]; rfl
      · have hc := h.pos c
        rw [sepB, if_neg c] at hv
        have : at8 l p = 32 := by
          have e := at8_app (l.take p) ([32] ++ (segT (a, b) ++ v)) 0
          rw [← hv, hlp] at e
          exact e
        simp [this]
    obtain ⟨p1, hp1⟩ : ∃ p1, p1 = (if 0 < p then p + 1 else p) := ⟨_, rfl⟩
    obtain ⟨u, hu, hul⟩ : ∃ u, l = u ++ (segT (a, b) ++ v) ∧ u.length = p1 := by
      refine ⟨l.take p ++ sepB rs, by rw [List.append_assoc]; exact hv, ?_⟩
      rw [List.length_append, hlp, hp1, sepB]
      by_cases c : rs = []
      · rw [if_pos c, (h.zero c).1]; rfl
      · rw [if_neg c, if_pos (h.pos c)]; rfl
    rw [stepR, h0]
    simp only [Bool.false_eq_true, if_false, ← hp1]
    clear hv h0 hs
    rcases Nat.lt_or_ge a b with hab | hab
    · rw [segT, if_pos hab] at hu
      have n1 := num_of u (45 :: Lib.decDigits b ++ v) a (by omega) (fun c r e => .inr (by cases e; rfl))
      have n2 := num_of (u ++ Lib.decDigits a ++ [45]) v b g4 (fun c r e => .inl (hvc c r e))
      have e1 : l = u ++ (Lib.decDigits a ++ (45 :: Lib.decDigits b ++ v)) := by rw [hu]; simp
      have e2 : l = u ++ Lib.decDigits a ++ [45] ++ (Lib.decDigits b ++ v) := by rw [hu]; simp
      rw [← e1, hul] at n1
      rw [← e2, List.length_append, List.length_append, hul, List.length_singleton, ← n1.2] at n2
      have hl3 : numE l p1 < l.length := by
        rw [n1.2, e2]; simp only [List.length_append, hul, List.length_singleton]; omega
      have h45 : at8 l (numE l p1) = 45 := by
        have e := at8_app (u ++ Lib.decDigits a) (45 :: Lib.decDigits b ++ v) 0
        rw [List.append_assoc, ← e1, List.length_append, hul] at e
        rw [n1.2]
        exact e
      refine ⟨a, b, numE l (numE l p1 + 1), t, ?_, ht⟩
      rw [if_neg (by rw [n1.1]; omega), if_pos (by simp [hl3, h45]), if_neg (by rw [n1.1, n2.1]; omega), n1.1, n2.1]
      rfl
    · obtain rfl : a = b := by omega
      rw [segT, if_neg (by simp)] at hu
      have n1 := num_of u v a g4 (fun c r e => .inl (hvc c r e))
      rw [← hu, hul] at n1
      have h45 : (decide (numE l p1 < l.length) && decide (at8 l (numE l p1) = 45)) = false := by
        rw [n1.2]
        cases v with
        | nil =>
          rw [decide_eq_false]; rfl
          rw [hu]; simp [hul]
        | cons c r =>
          have hc := hvc c r rfl
          have e := at8_app (u ++ Lib.decDigits a) (c :: r) 0
          rw [List.append_assoc, ← hu, List.length_append, hul] at e
          rw [Nat.add_zero] at e
          rw [e, hc]
          simp [at8]
      refine ⟨a, a, numE l p1, t, ?_, ht⟩
      rw [if_neg (by rw [n1.1]; omega), h45, n1.1]
      rfl
theorem Rd.step {l : List UInt8} {p least a b e : Nat} {rs : List (Nat × Nat)} (h : Rd l p least rs) (hp : p < l.length) (hst : stepR l p least = some (a, b, e)) : Rd l e (b + 2) (rs ++ [(a, b)]) ∧ p < e := by
  obtain ⟨h1, h2, h3, h4, h5, h6⟩ := step_sound hst
  have hsep : (if 0 < p then [(32 : UInt8)] else []) = sepB rs := by
    rw [sepB]
    by_cases c : rs = []
    · rw [if_pos c, (h.zero c).1]; rfl
    · rw [if_neg c, if_pos (h.pos c)]
  have hg : Good 0 (rs ++ [(a, b)]) := (h.last [] a b).2 ⟨trivial, h2, h3, h4⟩
  refine ⟨⟨h5, ?_, hg, fun c => by simp at c, fun _ => by omega, fun t c d => ?_, fun s hs => ?_⟩, h6⟩
  · rw [h1, h.txt, join_snoc, hsep]
  · rw [List.append_assoc, List.singleton_append, good_snoc]
    constructor
    · rintro ⟨_, k1, k2, k3, k4⟩; exact ⟨k4, k1, k2, k3⟩
    · rintro ⟨k4, k1, k2, k3⟩; exact ⟨hg, k1, k2, k3, k4⟩
  · obtain ⟨a', b', e', t, k1, k2⟩ := h.next hp hs
    rw [hst] at k1
    cases k1
    exact ⟨t, by rw [k2]; simp⟩
theorem Rd.done {l : List UInt8} {p least : Nat} {rs : List (Nat × Nat)} (h : Rd l p least rs) (hp : ¬ p < l.length) : parseO l = some (setB rs) := by
  rw [parse_iff, textS, segs_setB h.good, ← h.txt, List.take_of_length_le (by omega)]
end Go.Proofs.YtbcanlmpfhkklaaGreatDoor

/- The reference's numbers: Digits and number. -/

namespace Go.Proofs.YtbcanlmpfhkklaaGreatDoor
open Go.Ax
open Cel (c)
theorem qR21 {p : Prop} (h : p := by (conv => lhs; whnf); all_goals exact rfl) : p := h
theorem qR22 {p : Prop} (h : p := by first | with_reducible assumption | exact Cel.one _ | exact flat_ones _ | exact ones_nil | (simp only [List.forall_mem_cons, List.not_mem_nil, false_implies, implies_true, and_true, one_v, one_ptr, one_ip, one_sl, one_slc, one_vec, one_map, one_func, one_iface, Value.oneCell', *]; done) | (simp [AV.one, Value.oneCell', *]; done)) : p := h
theorem qR23 {p : Prop} (h : p := by simp only [List.flatMap_cons, List.flatMap_nil, cells_v, cells_any, cells_ptr, cells_ip, cells_sl, cells_vec, cells_map, cells_func, cells_agg, cells_iface, List.cons_append, List.nil_append, List.append_nil]; all_goals exact rfl) : p := h
theorem qR24 {p : Prop} (h : p := by first | omega | (simp only [za, zb, zc, zd]; omega)) : p := h
theorem qR25 {p : Prop} (h : p := by repeat' (first | exact Keep.refl _ | apply Keep.new | apply Keep.set | apply Keep.del | (first | omega | (simp only [za, zb, zc]; omega)))) : p := h
theorem qR26 {p : Prop} (h : p := by (conv => lhs; whnf); all_goals first | exact rfl | (simp; done) | (simp; omega)) : p := h
theorem qR27 {p : Prop} (h : p := by exact AStepD.lss rfl rfl rfl) : p := h
theorem qR28 {p : Prop} (h : p := by intro h; first | (rw [h]; done) | (rw [h]; rfl) | (simp [h]; done) | (simp_all; done) | exact guard_true h) : p := h
theorem qR211 {p : Prop} (h : p := by exact AStepD.assign' rfl qR21) : p := h
theorem qR212 {p : Prop} (h : p := by exact AStepD.move' rfl qR21) : p := h
theorem qR213 {p : Prop} (h : p := by first | exact AStepD.buildSlice0 tok rfl rfl rfl rfl (show _ = 1 from rfl) | exact AStepD.buildSlice1 tok rfl rfl rfl rfl (show _ = 1 from rfl) qR21 qR21 (by first | omega | (simp; done) | (simp; omega) | (simp only [over, List.length_append, List.length_take, List.length_drop, *]; omega) | (simp_all; done) | (simp_all; omega)) (by decide) qR22 | exact AStepD.buildSlice_seq tok rfl rfl rfl rfl (show _ = 1 from rfl) (map_p qR21 map_n) rfl (by decide) (by decide) rfl qR23 qR22 | exact AStepD.buildSlice tok rfl rfl rfl rfl qR21 (by decide) (by decide) rfl qR22) : p := h
theorem qR214 {p : Prop} (h : p := by first | with_reducible assumption | (simp (disch := (first | omega | (exact Lst.lab_ne (by with_reducible assumption) qR24) | (exact Lst.lab_new (by with_reducible assumption) qR24) | (refine id ?_; simp only [za, zb, zc, zd]; done) | (simp only [za, zb, zc, zd]; omega))) only [z1, z2, z3, z4, z5, z6, z7, z8, z9, ne_eq, *]; done) | (simp (disch := (first | omega | (exact Lst.lab_ne (by with_reducible assumption) qR24) | (exact Lst.lab_new (by with_reducible assumption) qR24) | (refine id ?_; simp only [za, zb, zc, zd]; done) | (simp only [za, zb, zc, zd]; omega))) only [z1, z2, z3, z4, z5, z6, z7, z8, z9, ne_eq, *]; exact rfl)) : p := h
theorem qR215 {p : Prop} (h : p := by repeat' (first | exact SubT.nil _ | refine SubT.cons_eq qR26 ?_)) : p := h
theorem qR216 {p : Prop} (h : p := by first | exact AStepD.pick_true' rfl rfl qR21 | exact AStepD.pick_false' rfl rfl qR21 | exact AStepD.and rfl _ _ _ rfl rfl qR28 rfl | exact AStepD.and' rfl _ _ rfl rfl rfl | exact AStepD.or rfl _ _ _ rfl rfl rfl qR28 | exact AStepD.or' rfl _ _ rfl rfl rfl) : p := h
set_option linter.unusedSimpArgs false
set_option linter.unusedVariables false
open Cel (c)

theorem strA_len {P : Program} {o : Oper} {T : Fr} {H : AHeap} {TT : Nat → TI} (hT : TOk P TT) {t : TypeId} {x : Operand} {l : List UInt8} (ho : o.op = .call { callee := .builtin .len, args := #[x], argTypes := #[t] }) (hx : aev T x = strA l) (hok : (TT t).ok = true) (hu : (TT t).und = .string) : AStepD P o T H (.v (.int .i64 (l.length : Nat))) H :=
  AStepD.val (AStepD.len_str hT ho hx hok hu) (by rw [str_size])
theorem u8n {n : Nat} (h : n < 256) : ((UInt8.ofNat n).toNat : Int) = (n : Nat) := by
  rw [UInt8.toNat_ofNat_of_lt' h]
theorem div10 (i : Nat) : Int.tdiv (i : Int) 10 = ((i / 10 : Nat) : Int) := by rw [show (10 : Int) = ((10 : Nat) : Int) from rfl, ← Int.ofNat_tdiv]
theorem mod10 (i : Nat) : Int.tmod (i : Int) 10 = ((i % 10 : Nat) : Int) := by rw [show (10 : Int) = ((10 : Nat) : Int) from rfl, ← Int.ofNat_tmod]
theorem digit_calls (H : AHeap) (i : Nat) (hi : i < 10) : ACalls Tryz.prog 41 [.v (.int .i64 (i : Nat))] H (fun r H' => r = strA (Lib.decDigits i) ∧ H' = H) := by
  refine ACalls.quiet_keep ?_ (.v _)
  refine ACalls.of_body tok Tryz.func41 rfl Tryz.ntmps41 (Nat.le_of_ble_eq_true rfl) (fun base => ?_)
  refine AW.seq_region (fun K hK => ?_)
  refine AL.step rfl rfl rfl qR211 ?_
  refine AL.nil_then (hK _ _ ?_); clear hK K
  refine AW.seq_k (fun K1 hK1 => ?_)
  refine AW.seq_region (fun K hK => ?_)
  refine AL.step rfl rfl rfl qR212 ?_
  refine AL.step rfl rfl rfl (by exact AStepD.bool (AStepD.lss rfl rfl rfl) (c := true) (by simp; omega)) ?_
  refine AL.nil_then (hK _ _ ?_); clear hK K
  refine AW.cond_true rfl rfl ?_
  refine AW.seq_region (fun K hK => ?_)
  refine AL.step rfl rfl rfl qR212 ?_
  refine AL.step rfl rfl rfl (by first | exact AStepD.add rfl rfl rfl (by first | exact IntWalk.i64_in _ (by omega) | exact IntWalk.i64_in _ (by simp only [Bool.or_eq_true, Bool.and_eq_true, Bool.or_eq_false_iff, Bool.and_eq_false_iff, Bool.not_eq_true', Bool.not_eq_false', decide_eq_true_eq, decide_eq_false_iff_not, Int.not_lt, Int.not_le, beq_iff_eq] at *; omega) | exact rfl) | exact AStepD.str_add rfl rfl rfl (by omega)) ?_
  refine AL.step rfl rfl rfl (by exact AStepD.convert_int (r := ((48 + i : Nat) : Int)) tok rfl rfl rfl rfl rfl (by show IntKind.u8.wrap (48 + (i : Int)) = _; exact IntWalk.u8_in _ (by omega))) ?_
  refine AL.step rfl rfl rfl qR213 ?_
  refine AL.step rfl rfl rfl (by exact AStepD.val (AStepD.bytes_str (bs := [UInt8.ofNat (48 + i)]) tok rfl rfl (Src.sl qR214 (Nat.le_refl _)) (by rw [List.map_cons, List.map_nil, u8n (by omega)]; rfl) rfl rfl rfl rfl rfl rfl rfl) rfl) ?_
  refine AL.step rfl rfl rfl qR211 ?_
  refine AL.nil_then (hK _ _ ?_); clear hK K
  refine AW.ret (RetQ.mk (.inr rfl) (retA_tmp rfl qR21 retA_nil) ⟨?_, qR25⟩)
  rw [dec_eq i (by omega), if_pos hi]; rfl
theorem digits_calls (H : AHeap) (i : Nat) (hi : i < 100) : ACalls Tryz.prog 41 [.v (.int .i64 (i : Nat))] H (fun r H' => r = strA (Lib.decDigits i) ∧ H' = H) := by
  rcases Nat.lt_or_ge i 10 with h | h
  · exact digit_calls H i h
  refine ACalls.quiet_keep ?_ (.v _)
  have hl1 := dec_len (i / 10) (by omega)
  have hl2 := dec_len (i % 10) (by omega)
  have hj := dec_eq i hi
  refine ACalls.of_body tok Tryz.func41 rfl Tryz.ntmps41 (Nat.le_of_ble_eq_true rfl) (fun base => ?_)
  refine AW.seq_region (fun K hK => ?_)
  refine AL.step rfl rfl rfl qR211 ?_
  refine AL.nil_then (hK _ _ ?_); clear hK K
  refine AW.seq_k (fun K1 hK1 => ?_)
  refine AW.seq_region (fun K hK => ?_)
  refine AL.step rfl rfl rfl qR212 ?_
  refine AL.step rfl rfl rfl (by exact AStepD.bool (AStepD.lss rfl rfl rfl) (c := false) (by simp; omega)) ?_
  refine AL.nil_then (hK _ _ ?_); clear hK K
  refine AW.cond_false rfl rfl (AW.skip ?_)
  refine hK1 _ _ ?_; try clear hK1 K1
  refine AW.seq_region (fun K hK => ?_)
  refine AL.step rfl rfl rfl qR212 ?_
  refine AL.step rfl rfl rfl (by exact AStepD.quo (r := ((i / 10 : Nat) : Int)) rfl rfl rfl (by omega) (by rw [div10]; exact IntWalk.i64_in _ (by omega))) ?_
  refine AL.step rfl rfl rfl (by exact AStepD.callf rfl en41 rfl (digit_calls _ (i / 10) (by omega))) ?_
  refine AL.step rfl rfl rfl qR212 ?_
  refine AL.step rfl rfl rfl (by exact AStepD.rem (r := ((i % 10 : Nat) : Int)) rfl rfl rfl (by omega) (mod10 i)) ?_
  refine AL.step rfl rfl rfl (by exact AStepD.callf rfl en41 rfl (digit_calls _ (i % 10) (by omega))) ?_
  refine AL.step rfl rfl rfl (by exact strA_add (Lib.decDigits (i / 10)) (Lib.decDigits (i % 10)) rfl rfl rfl (by omega)) ?_
  refine AL.step rfl rfl rfl qR211 ?_
  refine AL.nil_then (hK _ _ ?_); clear hK K
  refine AW.ret (RetQ.mk (.inr rfl) (retA_tmp rfl qR21 retA_nil) ⟨?_, qR25⟩)
  have e1 := dec_eq (i / 10) (by omega)
  have e2 := dec_eq (i % 10) (by omega)
  rw [if_pos (by omega)] at e1 e2
  rw [if_neg (by omega)] at hj
  rw [hj, e1, e2]; rfl

end Go.Proofs.YtbcanlmpfhkklaaGreatDoor

/- The reference's flags: Flags and Set. -/

namespace Go.Proofs.YtbcanlmpfhkklaaGreatDoor
open Go.Ax
open Cel (c)
set_option linter.unusedSimpArgs false
set_option linter.unusedVariables false
open Cel (c)

instance : Cel Bool := ⟨1, fun n => [.v (.bool n)], fun _ => rfl, fun _ z hz => (by simp only [List.mem_singleton] at hz; subst hz; rfl), fun _ z hz => (by simp only [List.mem_singleton] at hz; subst hz; exact .v _)⟩
def flF (f : Nat → Bool) : List Bool := (List.range 64).map f
theorem flF_len (f : Nat → Bool) : (flF f).length = 64 := by simp [flF]
theorem flF_get (f : Nat → Bool) (i : Nat) (h : i < 64) : (flF f)[i]'(by rw [flF_len]; exact h) = f i := by simp [flF]
theorem row_len (f : Nat → Bool) : (flat (flF f)).length = 64 := by rw [flat_length, flF_len]; rfl
theorem flF_congr {f g : Nat → Bool} (h : ∀ i, i < 64 → f i = g i) : flF f = flF g := List.map_congr_left fun i hi => h i (by simpa using hi)
theorem flF_zero : AV.ofV (tt 75).zero = flat (flF fun _ => false) := by kernel_rfl
theorem flF_set (f g : Nat → Bool) (i : Nat) (b : Bool) (h : i < 64) (h1 : g i = b) (h2 : ∀ j, j < 64 → j ≠ i → g j = f j) : over (flat (flF f)) i [.v (.bool b)] = flat (flF g) := by
  have := over_flat (flF f) i 0 (by rw [flF_len]; exact h) [.v (.bool b)] b (Nat.le_refl 1) rfl
  rw [show i * Cel.n Bool + 0 = i from Nat.mul_one i] at this
  rw [this]
  congr 1
  apply List.ext_getElem
  · simp [flF]
  · intro j h3 h4
    have hj : j < 64 := by simpa [flF] using h4
    rw [flF_get _ _ hj, List.getElem_set]
    split
    · rename_i e; subst e; exact h1.symm
    · rename_i e; rw [flF_get _ _ hj, h2 j hj (fun e2 => e e2.symm)]
theorem flF_at (f : Nat → Bool) (i : Nat) (h : i < 64) : ((flat (flF f)).drop (i * 1)).take 1 = [.v (.bool (f i))] := by
  have e := flat_at (flF f) i (by rw [flF_len]; exact h)
  rw [flF_get _ _ h] at e
  exact e
abbrev flA (s : BitVec 64) : AV := .agg (flat (flF s.getLsbD))
end Go.Proofs.YtbcanlmpfhkklaaGreatDoor

/- The reference's Text. -/

namespace Go.Proofs.YtbcanlmpfhkklaaGreatDoor
open Go.Ax
open Cel (c)
theorem qR41 {p : Prop} (h : p := by exact (fun hb => by (try (apply AStepD.uncond 5 rfl (gpf hb))); exact qR212)) : p := h
theorem qR42 {p : Prop} (h : p := by exact (fun _ hb => by (try (apply AStepD.uncond 5 rfl (gpf hb))); exact qR212)) : p := h
theorem qR43 {p : Prop} (h : p := by first | exact rfl | exact (Int.toNat_of_nonneg (by omega)).symm) : p := h
theorem qR44 {p : Prop} (h : p := by first | omega | (simp; done) | (simp; omega) | (simp only [over, List.length_append, List.length_take, List.length_drop, *]; omega) | (simp_all; done) | (simp_all; omega)) : p := h
theorem qR45 {p : Prop} (h : p := by first | (simp only [Nat.zero_add, Nat.zero_mul, Nat.sub_zero, Nat.add_zero]; exact rfl) | exact rfl) : p := h
theorem qR46 {p : Prop} (h : p := by first | with_reducible assumption | exact rfl) : p := h
theorem qR47 {p : Prop} (h : p := by exact (fun hb => by (try (apply AStepD.uncond 4 rfl (gpf hb))); exact qR212)) : p := h
theorem qR48 {p : Prop} (h : p := by exact (fun _ hb => by (try (apply AStepD.uncond 4 rfl (gpf hb))); exact qR212)) : p := h
theorem qR49 {p : Prop} (h : p := by exact (fun hb => by (try (apply AStepD.uncond 16 rfl (gpf hb))); exact qR212)) : p := h
theorem qR410 {p : Prop} (h : p := by exact (fun _ hb => by (try (apply AStepD.uncond 16 rfl (gpf hb))); exact qR212)) : p := h
theorem qR411 {p : Prop} (h : p := by exact (fun hb => by (try (apply AStepD.uncond 17 rfl (gpf hb))); (try (apply AStepD.uncond 21 rfl (gpf hb))); exact qR216)) : p := h
theorem qR412 {p : Prop} (h : p := by exact (fun _ hb => by (try (apply AStepD.uncond 17 rfl (gpf hb))); (try (apply AStepD.uncond 21 rfl (gpf hb))); exact qR216)) : p := h
theorem qR413 {p : Prop} (h : p := by exact AStepD.gtr rfl rfl rfl) : p := h
theorem qR414 {p : Prop} (h : p := by first | exact AStepD.indexAddr_flat tok rfl rfl rfl rfl rfl rfl rfl (show _ = 1 from rfl) rfl qR43 qR44 | exact AStepD.indexAddr_vec' tok rfl rfl rfl rfl rfl rfl (show _ = 1 from rfl) qR43 qR44 | exact AStepD.indexAddr_sl' tok rfl rfl rfl rfl rfl rfl (show _ = 1 from rfl) qR43 qR44 qR45 | exact AStepD.indexAddr_arr' tok rfl rfl rfl rfl rfl rfl (show _ = 1 from rfl) qR43 qR44 qR45) : p := h
theorem qR415 {p : Prop} (h : p := by first | exact AStepD.load_one tok rfl rfl rfl rfl qR214 rfl qR46 | exact AStepD.load_one_ip tok rfl rfl rfl rfl rfl qR46) : p := h
theorem qR416 {p : Prop} (h : p := by exact (fun hb => by (try (apply AStepD.uncond 1 rfl (gpf hb))); (try (apply AStepD.uncond 29 rfl (gpf hb))); exact qR414)) : p := h
theorem qR417 {p : Prop} (h : p := by exact (fun _ hb => by (try (apply AStepD.uncond 1 rfl (gpf hb))); (try (apply AStepD.uncond 29 rfl (gpf hb))); exact qR414)) : p := h
theorem qR418 {p : Prop} (h : p := by exact (fun hb => by (try (apply AStepD.uncond 1 rfl (gpf hb))); (try (apply AStepD.uncond 19 rfl (gpf hb))); exact qR414)) : p := h
theorem qR419 {p : Prop} (h : p := by exact (fun _ hb => by (try (apply AStepD.uncond 1 rfl (gpf hb))); (try (apply AStepD.uncond 19 rfl (gpf hb))); exact qR414)) : p := h
theorem qR420 {p : Prop} (h : p := by exact (fun hb => by (try (apply AStepD.uncond 20 rfl (gpf hb))); exact qR415)) : p := h
theorem qR421 {p : Prop} (h : p := by exact (fun _ hb => by (try (apply AStepD.uncond 20 rfl (gpf hb))); exact qR415)) : p := h
set_option linter.unusedSimpArgs false
set_option linter.unusedVariables false
open Cel (c)

structure Wr (f : Nat → Bool) (i j : Nat) (pre : List (Nat × Nat)) : Prop where
  le : i ≤ j
  top : j ≤ 64
  ins : i < j → 0 < i ∧ f (i - 1) = true ∧ (∀ k, i ≤ k → k < j → f k = true) ∧ f j = false
  out : i = j → i = 0 ∨ f (i - 1) = false ∨ f i = false
  all : pre ++ segs f (64 - j) = segs f 64
theorem Wr.start (f : Nat → Bool) : Wr f 0 0 [] := ⟨Nat.le_refl _, by omega, fun h => by omega, fun _ => .inl rfl, rfl⟩
theorem Wr.pass {f : Nat → Bool} {i j : Nat} {pre : List (Nat × Nat)} (h : Wr f i j pre) (hi : i < 64) (hs : f i = false ∨ (0 < i ∧ f (i - 1) = true)) : ∃ j', Wr f (i + 1) j' pre := by
  rcases Nat.lt_or_ge i j with hij | hij
  · obtain ⟨h1, h2, h3, h4⟩ := h.ins hij
    refine ⟨j, by omega, h.top, fun h5 => ⟨by omega, h3 i (Nat.le_refl _) hij, fun k k1 k2 => h3 k (by omega) k2, h4⟩, fun h5 => .inr (.inr (h5 ▸ h4)), h.all⟩
  · obtain rfl : i = j := by have := h.le; omega
    have hf : f i = false := by
      rcases hs with hs | ⟨hs1, hs2⟩
      · exact hs
      · rcases h.out rfl with h1 | h1 | h1
        · omega
        · rw [h1] at hs2; cases hs2
        · exact h1
    exact ⟨i + 1, Nat.le_refl _, by omega, fun h5 => by omega, fun _ => .inr (.inl hf), by rw [← segs_skip f hi hf]; exact h.all⟩
theorem Wr.run {f : Nat → Bool} {i j b : Nat} {pre : List (Nat × Nat)} (h : Wr f i j pre) (hi : f i = true) (hp : ¬ (0 < i ∧ f (i - 1) = true)) (hib : i ≤ b) (hb : b < 64) (hr : ∀ k, i ≤ k → k ≤ b → f k = true) (hn : f (b + 1) = false) : ∃ j', Wr f (i + 1) j' (pre ++ [(i, b)]) := by
  have hij : i = j := by
    rcases Nat.lt_or_ge i j with hij | hij
    · obtain ⟨h1, h2, _⟩ := h.ins hij
      exact absurd ⟨h1, h2⟩ hp
    · have := h.le; omega
  subst hij
  refine ⟨b + 1, by omega, by omega, fun h5 => ⟨by omega, hi, fun k k1 k2 => hr k (by omega) (by omega), hn⟩, fun h5 => .inr (.inr (h5 ▸ hn)), ?_⟩
  rw [List.append_assoc, List.singleton_append, ← segs_run f (b - i) i b rfl hib hb hr hn]
  exact h.all
theorem Wr.done {f : Nat → Bool} {j : Nat} {pre : List (Nat × Nat)} (h : Wr f 64 j pre) : pre = segs f 64 := by
  have := h.le
  have := h.top
  obtain rfl : j = 64 := by omega
  rw [← h.all, Nat.sub_self, segs, List.append_nil]
theorem Wr.good {f : Nat → Bool} {i j : Nat} {pre : List (Nat × Nat)} (h : Wr f i j pre) : (∀ x ∈ pre, x ∈ segs f 64) ∧ pre.length ≤ 64 := by
  refine ⟨fun x hx => h.all ▸ List.mem_append_left _ hx, ?_⟩
  have h1 := segs_length f 64
  rw [← h.all, List.length_append] at h1
  omega

theorem Wr.len {s : BitVec 64} {i j : Nat} {pre : List (Nat × Nat)} (h : Wr s.getLsbD i j pre) : (Lib.join (pre.map segT) [32]).length ≤ 384 := by
  have h1 := join_len (pre.map segT) 5 fun x hx => by
    obtain ⟨y, hy, rfl⟩ := List.mem_map.1 hx
    exact segT_len (good_bound (segsS_good s) y (h.good.1 y hy))
  have h2 := h.good.2
  rw [List.length_map] at h1
  omega
theorem Wr.nil {s : BitVec 64} {i j : Nat} {pre : List (Nat × Nat)} (h : Wr s.getLsbD i j pre) : decide (Lib.join (pre.map segT) [32] ≠ []) = decide (pre ≠ []) := by
  apply decide_eq_decide.2
  refine not_congr ⟨fun e => ?_, fun e => by rw [e]; exact Lib.join_nil _⟩
  have := join_nil_iff (xs := pre.map segT) (fun x hx => by
    obtain ⟨y, hy, rfl⟩ := List.mem_map.1 hx
    exact (seg_ok (segsS_good s) (h.good.1 y hy)).1) e
  simpa using this

set_option maxHeartbeats 4000000 in
theorem reftext_calls (H : AHeap) (s : BitVec 64) : ACalls Tryz.prog 43 [flA s] H (fun r H' => r = strA (textS s) ∧ H' = H) := by
  refine ACalls.quiet_keep ?_ (.v _)
  refine ACalls.of_body tok Tryz.func43 rfl Tryz.ntmps43 (Nat.le_of_ble_eq_true rfl) (fun base => ?_)
  refine AW.seq_region (fun K hK => ?_)
  refine AL.step rfl rfl rfl (by exact AStepD.box_row tok rfl rfl) ?_
  refine AL.step rfl rfl rfl qR211 ?_
  refine AL.nil_then (hK _ _ ?_); clear hK K
  refine AW.seq_region (fun K hK => ?_)
  refine AL.step rfl rfl rfl qR211 ?_
  refine AL.nil_then (hK _ _ ?_); clear hK K
  refine AW.seq_k (fun K1 hK1 => ?_)
  refine AW.seq_region (fun K hK => ?_)
  refine AL.step rfl rfl rfl qR211 ?_
  refine AL.nil_then (hK _ _ ?_); clear hK K
  refine AW.block ?_
  refine AW.loop_at (ι := Nat × List (Nat × Nat)) (fun x => [(4, .v (.int .i64 (x.1 : Nat))), (3, strA (Lib.join (x.2.map segT) [32])), (1, .ptr H.next 0)])
    (fun x H' => x.1 ≤ 64 ∧ (∃ j, Wr s.getLsbD x.1 j x.2) ∧ H'.get H.next = some (.cells 75 (flat (flF s.getLsbD))) ∧ Keep H H') (fun x => 64 - x.1) (0, []) (by rw [List.map_nil, Lib.join_nil]; exact qR215) ⟨by omega, ⟨_, Wr.start _⟩, qR214, qR25⟩ ?_
  rintro ⟨i, pre⟩ H2 ⟨hi, ⟨j, hw⟩, g0, hk⟩
  dsimp only at hi hw ⊢
  have hfl := row_len s.getLsbD
  refine AW.lts fun hlt => ?_
  refine AW.seq_k (fun K2 hK2 => ?_)
  refine AW.seq_region (fun K hK => ?_)
  refine AL.step rfl rfl rfl qR212 ?_
  refine AL.step rfl rfl rfl qR27 ?_
  refine AL.nil_then (hK _ _ ?_); clear hK K
  refine AW.cond _ rfl (fun hc => ?_) (fun hc => ?_)
  · (try simp only [Bool.or_eq_true, Bool.and_eq_true, Bool.or_eq_false_iff, Bool.and_eq_false_iff, Bool.not_eq_true', Bool.not_eq_false', decide_eq_true_eq, decide_eq_false_iff_not, Int.not_lt, Int.not_le] at hc)
    have hil : i < 64 := by omega
    clear hc
    refine AW.skip ?_
    refine hK2 _ _ ?_; try clear hK2 K2
    refine AW.seq_k (fun K3 hK3 => ?_)
    refine AW.block ?_
    refine AW.seq_k (fun K4 hK4 => ?_)
    have hpass : (s.getLsbD i = false ∨ (0 < i ∧ s.getLsbD (i - 1) = true)) → ∀ T', SubT T' [(4, .v (.int .i64 (i : Nat))), (3, strA (Lib.join (pre.map segT) [32])), (1, .ptr H.next 0)] → K3 T' H2 := fun hp T' hT' => by
      obtain ⟨j', hw'⟩ := hw.pass hil hp
      refine hK3 _ _ ?_
      refine AW.sub hT' ?_
      clear hT' hK3 K3 hK4 K4
      refine AW.region ?_
      refine AL.step rfl rfl rfl qR212 ?_
      refine AL.step rfl rfl rfl (by first | exact AStepD.add rfl rfl rfl (by first | exact IntWalk.i64_in _ (by omega) | exact IntWalk.i64_in _ (by simp only [Bool.or_eq_true, Bool.and_eq_true, Bool.or_eq_false_iff, Bool.and_eq_false_iff, Bool.not_eq_true', Bool.not_eq_false', decide_eq_true_eq, decide_eq_false_iff_not, Int.not_lt, Int.not_le, beq_iff_eq] at *; omega) | exact rfl) | exact AStepD.str_add rfl rfl rfl (by omega)) ?_
      refine AL.step rfl rfl rfl qR211 ?_
      refine AL.nil ?_
      refine ⟨(i + 1, pre), by show 64 - (i + 1) < 64 - i; omega, qR215, by show i + 1 ≤ 64; omega, ⟨j', hw'⟩, g0, hk⟩
    have hgo : s.getLsbD i = true → ¬ (0 < i ∧ s.getLsbD (i - 1) = true) → ∀ T', SubT T' [(4, .v (.int .i64 (i : Nat))), (3, strA (Lib.join (pre.map segT) [32])), (1, .ptr H.next 0)] → K4 T' H2 := fun hf hnp T' hT' => by
      refine hK4 _ _ ?_
      refine AW.sub hT' ?_
      clear hT' hK4 K4 hpass
      refine AW.seq_region (fun K hK => ?_)
      refine AL.step rfl rfl rfl qR212 ?_
      refine AL.step rfl rfl rfl qR211 ?_
      refine AL.nil_then (hK _ _ ?_); clear hK K
      refine AW.seq_k (fun K5 hK5 => ?_)
      refine AW.block ?_
      refine AW.loop_at (ι := Nat) (fun b => [(5, .v (.int .i64 (b : Nat))), (4, .v (.int .i64 (i : Nat))), (3, strA (Lib.join (pre.map segT) [32])), (1, .ptr H.next 0)])
        (fun b H' => i ≤ b ∧ b < 64 ∧ (∀ j, i ≤ j → j ≤ b → s.getLsbD j = true) ∧ H' = H2) (fun b => 64 - b) i qR215 ⟨Nat.le_refl _, hil, fun j h1 h2 => (show j = i by omega) ▸ hf, rfl⟩ ?_
      rintro b H3 ⟨hb1, hb2, hrun, rfl⟩
      have hend : s.getLsbD (b + 1) = false → ∀ T', SubT T' [(5, .v (.int .i64 (b : Nat))), (4, .v (.int .i64 (i : Nat))), (3, strA (Lib.join (pre.map segT) [32])), (1, .ptr H.next 0)] → K5 T' H3 := fun hn T' hT' => by
        refine hK5 _ _ ?_
        refine AW.sub hT' ?_
        clear hT' hK5 K5
        obtain ⟨j', hw'⟩ := hw.run hf hnp hb1 hb2 hrun hn
        have hlen := hw.len
        have hl1 := dec_len i (by omega)
        have hl2 := dec_len b (by omega)
        have hnil := hw.nil
        have hsn := join_snoc pre (i, b)
        have hsep : (sepB pre).length ≤ 1 := by rw [sepB]; split <;> simp
        refine AW.seq_k (fun K7 hK7 => ?_)
        have hgo2 : ∀ T', SubT T' [(5, .v (.int .i64 (b : Nat))), (4, .v (.int .i64 (i : Nat))), (3, strA (Lib.join (pre.map segT) [32] ++ sepB pre)), (1, .ptr H.next 0)] → K7 T' H3 := fun T' hT' => by
          refine hK7 _ _ ?_
          refine AW.sub hT' ?_
          clear hT' hK7 K7
          refine AW.seq_region (fun K hK => ?_)
          refine AL.step rfl rfl rfl qR212 ?_
          refine AL.step rfl rfl rfl qR212 ?_
          refine AL.step rfl rfl rfl (by exact AStepD.callf rfl en41 rfl (digits_calls _ i (by omega))) ?_
          refine AL.step rfl rfl rfl (by exact strA_add (Lib.join (pre.map segT) [32] ++ sepB pre) (Lib.decDigits i) rfl rfl rfl (by simp only [List.length_append]; omega)) ?_
          refine AL.step rfl rfl rfl qR211 ?_
          refine AL.nil_then (hK _ _ ?_); clear hK K
          refine AW.seq_region (fun K hK => ?_)
          refine AL.step rfl rfl rfl qR212 ?_
          refine AL.step rfl rfl rfl qR212 ?_
          refine AL.step rfl rfl rfl (by exact AStepD.bool (AStepD.gtr rfl rfl rfl) (c := decide (i < b)) (decide_eq_decide.2 (by omega))) ?_
          refine AL.nil_then (hK _ _ ?_); clear hK K
          refine AW.cond _ rfl (fun hc => ?_) (fun hc => ?_)
          · have hib : i < b := of_decide_eq_true hc
            refine AW.region ?_
            refine AL.step rfl rfl rfl qR212 ?_
            refine AL.step rfl rfl rfl qR212 ?_
            refine AL.step rfl rfl rfl (by exact AStepD.callf rfl en41 rfl (digits_calls _ b (by omega))) ?_
            refine AL.step rfl rfl rfl (by exact strA_add [45] (Lib.decDigits b) rfl rfl rfl (by simp; omega)) ?_
            refine AL.step rfl rfl rfl (by exact strA_add (Lib.join (pre.map segT) [32] ++ sepB pre ++ Lib.decDigits i) ([45] ++ Lib.decDigits b) rfl rfl rfl (by simp only [List.length_append, List.length_singleton]; omega)) ?_
            refine AL.step rfl rfl rfl qR211 ?_
            refine AL.nil ?_
            refine hK3 _ _ ?_; try clear hK3 K3
            refine AW.region ?_
            refine AL.step rfl rfl rfl qR212 ?_
            refine AL.step rfl rfl rfl (by first | exact AStepD.add rfl rfl rfl (by first | exact IntWalk.i64_in _ (by omega) | exact IntWalk.i64_in _ (by simp only [Bool.or_eq_true, Bool.and_eq_true, Bool.or_eq_false_iff, Bool.and_eq_false_iff, Bool.not_eq_true', Bool.not_eq_false', decide_eq_true_eq, decide_eq_false_iff_not, Int.not_lt, Int.not_le, beq_iff_eq] at *; omega) | exact rfl) | exact AStepD.str_add rfl rfl rfl (by omega)) ?_
            refine AL.step rfl rfl rfl qR211 ?_
            refine AL.nil ?_
            rw [segT, if_pos hib] at hsn
            refine ⟨(i + 1, pre ++ [(i, b)]), by show 64 - (i + 1) < 64 - i; omega, ?_, by show i + 1 ≤ 64; omega, ⟨j', hw'⟩, g0, hk⟩
            rw [hsn, ← List.append_assoc, ← List.append_assoc]
            exact qR215
          · have hib : ¬ i < b := of_decide_eq_false hc
            refine AW.skip ?_
            refine hK3 _ _ ?_; try clear hK3 K3
            refine AW.region ?_
            refine AL.step rfl rfl rfl qR212 ?_
            refine AL.step rfl rfl rfl (by first | exact AStepD.add rfl rfl rfl (by first | exact IntWalk.i64_in _ (by omega) | exact IntWalk.i64_in _ (by simp only [Bool.or_eq_true, Bool.and_eq_true, Bool.or_eq_false_iff, Bool.and_eq_false_iff, Bool.not_eq_true', Bool.not_eq_false', decide_eq_true_eq, decide_eq_false_iff_not, Int.not_lt, Int.not_le, beq_iff_eq] at *; omega) | exact rfl) | exact AStepD.str_add rfl rfl rfl (by omega)) ?_
            refine AL.step rfl rfl rfl qR211 ?_
            refine AL.nil ?_
            rw [segT, if_neg hib] at hsn
            refine ⟨(i + 1, pre ++ [(i, b)]), by show 64 - (i + 1) < 64 - i; omega, ?_, by show i + 1 ≤ 64; omega, ⟨j', hw'⟩, g0, hk⟩
            rw [hsn, ← List.append_assoc]
            exact qR215
        refine AW.seq_region (fun K hK => ?_)
        refine AL.step rfl rfl rfl qR212 ?_
        refine AL.step rfl rfl rfl (by exact AStepD.bool (AStepD.str_neq rfl rfl rfl) (c := decide (pre ≠ [])) (by rw [← hnil, str_list])) ?_
        refine AL.nil_then (hK _ _ ?_); clear hK K
        refine AW.cond _ rfl (fun hc => ?_) (fun hc => ?_)
        · have hne : pre ≠ [] := of_decide_eq_true hc
          refine AW.region ?_
          refine AL.step rfl rfl rfl qR212 ?_
          refine AL.step rfl rfl rfl (by exact strA_add (Lib.join (pre.map segT) [32]) [32] rfl rfl rfl (by simp; omega)) ?_
          refine AL.step rfl rfl rfl qR211 ?_
          refine AL.nil ?_
          rw [sepB, if_neg hne] at hgo2
          exact hgo2 _ qR215
        · have hne : pre = [] := by have := of_decide_eq_false hc; simpa using this
          refine AW.skip ?_
          rw [sepB, if_pos hne, List.append_nil] at hgo2
          exact hgo2 _ qR215
      refine AW.seq_k (fun K6 hK6 => ?_)
      by_cases hb63 : b < 63
      · cases hn : s.getLsbD (b + 1) with
        | true =>
          refine AW.seq_region (fun K hK => ?_)
          refine AL.step rfl rfl rfl qR212 ?_
          refine AL.step rfl rfl rfl (by exact AStepD.bool (AStepD.lss rfl rfl rfl) (c := true) (by simp; omega)) ?_
          refine AL.step rfl rfl rfl qR212 ?_
          first | refine AL.gstep rfl rfl rfl rfl rfl rfl rfl qR212 ?_ | refine AL.gskip rfl rfl rfl rfl rfl rfl rfl ?_ | refine AL.gnone rfl rfl rfl rfl rfl ?_ | refine AL.gmay rfl rfl rfl rfl rfl rfl qR41 ?_ | refine AL.gmay2 rfl rfl rfl rfl rfl rfl qR42 ?_
          first | refine AL.gstep rfl rfl rfl rfl rfl rfl rfl (by exact AStepD.add (r := ((b + 1 : Nat) : Int)) rfl rfl rfl (IntWalk.i64_in _ (by omega))) ?_ | refine AL.gskip rfl rfl rfl rfl rfl rfl rfl ?_ | refine AL.gnone rfl rfl rfl rfl rfl ?_ | refine AL.gmay rfl rfl rfl rfl rfl rfl (fun hb => by (try (apply AStepD.uncond 28 rfl (gpf hb))); exact (by exact AStepD.add (r := ((b + 1 : Nat) : Int)) rfl rfl rfl (IntWalk.i64_in _ (by omega)))) ?_ | refine AL.gmay2 rfl rfl rfl rfl rfl rfl (fun _ hb => by (try (apply AStepD.uncond 28 rfl (gpf hb))); exact (by exact AStepD.add (r := ((b + 1 : Nat) : Int)) rfl rfl rfl (IntWalk.i64_in _ (by omega)))) ?_
          first | refine AL.gstep rfl rfl rfl rfl rfl rfl rfl qR414 ?_ | refine AL.gskip rfl rfl rfl rfl rfl rfl rfl ?_ | refine AL.gnone rfl rfl rfl rfl rfl ?_ | refine AL.gmay rfl rfl rfl rfl rfl rfl qR416 ?_ | refine AL.gmay2 rfl rfl rfl rfl rfl rfl qR417 ?_
          first | refine AL.gstep rfl rfl rfl rfl rfl rfl rfl (by exact AStepD.val (AStepD.load_cellAt tok rfl rfl rfl rfl qR214 rfl (flF_at _ (b + 1) (by omega))) (by rw [hn])) ?_ | refine AL.gskip rfl rfl rfl rfl rfl rfl rfl ?_ | refine AL.gnone rfl rfl rfl rfl rfl ?_ | refine AL.gmay rfl rfl rfl rfl rfl rfl (fun hb => by (try (apply AStepD.uncond 30 rfl (gpf hb))); exact (by exact AStepD.val (AStepD.load_cellAt tok rfl rfl rfl rfl qR214 rfl (flF_at _ (b + 1) (by omega))) (by rw [hn]))) ?_ | refine AL.gmay2 rfl rfl rfl rfl rfl rfl (fun _ hb => by (try (apply AStepD.uncond 30 rfl (gpf hb))); exact (by exact AStepD.val (AStepD.load_cellAt tok rfl rfl rfl rfl qR214 rfl (flF_at _ (b + 1) (by omega))) (by rw [hn]))) ?_
          refine AL.step rfl rfl rfl qR216 ?_
          refine AL.nil_then (hK _ _ ?_); clear hK K
          refine AW.cond_true rfl rfl (AW.skip ?_)
          refine hK6 _ _ ?_; try clear hK6 K6
          refine AW.block ?_
          refine AW.region ?_
          refine AL.step rfl rfl rfl qR212 ?_
          refine AL.step rfl rfl rfl (by first | exact AStepD.add rfl rfl rfl (by first | exact IntWalk.i64_in _ (by omega) | exact IntWalk.i64_in _ (by simp only [Bool.or_eq_true, Bool.and_eq_true, Bool.or_eq_false_iff, Bool.and_eq_false_iff, Bool.not_eq_true', Bool.not_eq_false', decide_eq_true_eq, decide_eq_false_iff_not, Int.not_lt, Int.not_le, beq_iff_eq] at *; omega) | exact rfl) | exact AStepD.str_add rfl rfl rfl (by omega)) ?_
          refine AL.step rfl rfl rfl qR211 ?_
          refine AL.nil ?_
          refine ⟨b + 1, by omega, qR215, by omega, by omega, fun j h1 h2 => ?_, rfl⟩
          rcases Nat.lt_or_ge b j with h | h
          · obtain rfl : j = b + 1 := by omega
            exact hn
          · exact hrun j h1 h
        | false =>
          refine AW.seq_region (fun K hK => ?_)
          refine AL.step rfl rfl rfl qR212 ?_
          refine AL.step rfl rfl rfl (by exact AStepD.bool (AStepD.lss rfl rfl rfl) (c := true) (by simp; omega)) ?_
          refine AL.step rfl rfl rfl qR212 ?_
          first | refine AL.gstep rfl rfl rfl rfl rfl rfl rfl qR212 ?_ | refine AL.gskip rfl rfl rfl rfl rfl rfl rfl ?_ | refine AL.gnone rfl rfl rfl rfl rfl ?_ | refine AL.gmay rfl rfl rfl rfl rfl rfl qR41 ?_ | refine AL.gmay2 rfl rfl rfl rfl rfl rfl qR42 ?_
          first | refine AL.gstep rfl rfl rfl rfl rfl rfl rfl (by exact AStepD.add (r := ((b + 1 : Nat) : Int)) rfl rfl rfl (IntWalk.i64_in _ (by omega))) ?_ | refine AL.gskip rfl rfl rfl rfl rfl rfl rfl ?_ | refine AL.gnone rfl rfl rfl rfl rfl ?_ | refine AL.gmay rfl rfl rfl rfl rfl rfl (fun hb => by (try (apply AStepD.uncond 28 rfl (gpf hb))); exact (by exact AStepD.add (r := ((b + 1 : Nat) : Int)) rfl rfl rfl (IntWalk.i64_in _ (by omega)))) ?_ | refine AL.gmay2 rfl rfl rfl rfl rfl rfl (fun _ hb => by (try (apply AStepD.uncond 28 rfl (gpf hb))); exact (by exact AStepD.add (r := ((b + 1 : Nat) : Int)) rfl rfl rfl (IntWalk.i64_in _ (by omega)))) ?_
          first | refine AL.gstep rfl rfl rfl rfl rfl rfl rfl qR414 ?_ | refine AL.gskip rfl rfl rfl rfl rfl rfl rfl ?_ | refine AL.gnone rfl rfl rfl rfl rfl ?_ | refine AL.gmay rfl rfl rfl rfl rfl rfl qR416 ?_ | refine AL.gmay2 rfl rfl rfl rfl rfl rfl qR417 ?_
          first | refine AL.gstep rfl rfl rfl rfl rfl rfl rfl (by exact AStepD.val (AStepD.load_cellAt tok rfl rfl rfl rfl qR214 rfl (flF_at _ (b + 1) (by omega))) (by rw [hn])) ?_ | refine AL.gskip rfl rfl rfl rfl rfl rfl rfl ?_ | refine AL.gnone rfl rfl rfl rfl rfl ?_ | refine AL.gmay rfl rfl rfl rfl rfl rfl (fun hb => by (try (apply AStepD.uncond 30 rfl (gpf hb))); exact (by exact AStepD.val (AStepD.load_cellAt tok rfl rfl rfl rfl qR214 rfl (flF_at _ (b + 1) (by omega))) (by rw [hn]))) ?_ | refine AL.gmay2 rfl rfl rfl rfl rfl rfl (fun _ hb => by (try (apply AStepD.uncond 30 rfl (gpf hb))); exact (by exact AStepD.val (AStepD.load_cellAt tok rfl rfl rfl rfl qR214 rfl (flF_at _ (b + 1) (by omega))) (by rw [hn]))) ?_
          refine AL.step rfl rfl rfl qR216 ?_
          refine AL.nil_then (hK _ _ ?_); clear hK K
          refine AW.cond_false rfl rfl ?_
          refine AW.exit ?_
          exact hend hn _ qR215
      · refine AW.seq_region (fun K hK => ?_)
        refine AL.step rfl rfl rfl qR212 ?_
        refine AL.step rfl rfl rfl (by exact AStepD.bool (AStepD.lss rfl rfl rfl) (c := false) (by simp; omega)) ?_
        refine AL.step rfl rfl rfl qR212 ?_
        first | refine AL.gstep rfl rfl rfl rfl rfl rfl rfl qR212 ?_ | refine AL.gskip rfl rfl rfl rfl rfl rfl rfl ?_ | refine AL.gnone rfl rfl rfl rfl rfl ?_ | refine AL.gmay rfl rfl rfl rfl rfl rfl qR41 ?_ | refine AL.gmay2 rfl rfl rfl rfl rfl rfl qR42 ?_
        first | refine AL.gstep rfl rfl rfl rfl rfl rfl rfl (by first | exact AStepD.add rfl rfl rfl (by first | exact IntWalk.i64_in _ (by omega) | exact IntWalk.i64_in _ (by simp only [Bool.or_eq_true, Bool.and_eq_true, Bool.or_eq_false_iff, Bool.and_eq_false_iff, Bool.not_eq_true', Bool.not_eq_false', decide_eq_true_eq, decide_eq_false_iff_not, Int.not_lt, Int.not_le, beq_iff_eq] at *; omega) | exact rfl) | exact AStepD.str_add rfl rfl rfl (by omega)) ?_ | refine AL.gskip rfl rfl rfl rfl rfl rfl rfl ?_ | refine AL.gnone rfl rfl rfl rfl rfl ?_ | refine AL.gmay rfl rfl rfl rfl rfl rfl (fun hb => by (try (apply AStepD.uncond 28 rfl (gpf hb))); exact (by first | exact AStepD.add rfl rfl rfl (by first | exact IntWalk.i64_in _ (by omega) | exact IntWalk.i64_in _ (by simp only [Bool.or_eq_true, Bool.and_eq_true, Bool.or_eq_false_iff, Bool.and_eq_false_iff, Bool.not_eq_true', Bool.not_eq_false', decide_eq_true_eq, decide_eq_false_iff_not, Int.not_lt, Int.not_le, beq_iff_eq] at *; omega) | exact rfl) | exact AStepD.str_add rfl rfl rfl (by omega))) ?_ | refine AL.gmay2 rfl rfl rfl rfl rfl rfl (fun _ hb => by (try (apply AStepD.uncond 28 rfl (gpf hb))); exact (by first | exact AStepD.add rfl rfl rfl (by first | exact IntWalk.i64_in _ (by omega) | exact IntWalk.i64_in _ (by simp only [Bool.or_eq_true, Bool.and_eq_true, Bool.or_eq_false_iff, Bool.and_eq_false_iff, Bool.not_eq_true', Bool.not_eq_false', decide_eq_true_eq, decide_eq_false_iff_not, Int.not_lt, Int.not_le, beq_iff_eq] at *; omega) | exact rfl) | exact AStepD.str_add rfl rfl rfl (by omega))) ?_
        first | refine AL.gstep rfl rfl rfl rfl rfl rfl rfl qR414 ?_ | refine AL.gskip rfl rfl rfl rfl rfl rfl rfl ?_ | refine AL.gnone rfl rfl rfl rfl rfl ?_ | refine AL.gmay rfl rfl rfl rfl rfl rfl qR416 ?_ | refine AL.gmay2 rfl rfl rfl rfl rfl rfl qR417 ?_
        first | refine AL.gstep rfl rfl rfl rfl rfl rfl rfl qR415 ?_ | refine AL.gskip rfl rfl rfl rfl rfl rfl rfl ?_ | refine AL.gnone rfl rfl rfl rfl rfl ?_ | refine AL.gmay rfl rfl rfl rfl rfl rfl (fun hb => by (try (apply AStepD.uncond 30 rfl (gpf hb))); exact qR415) ?_ | refine AL.gmay2 rfl rfl rfl rfl rfl rfl (fun _ hb => by (try (apply AStepD.uncond 30 rfl (gpf hb))); exact qR415) ?_
        refine AL.step rfl rfl rfl qR216 ?_
        refine AL.nil_then (hK _ _ ?_); clear hK K
        refine AW.cond_false rfl rfl ?_
        refine AW.exit ?_
        exact hend (BitVec.getLsbD_of_ge _ _ (by omega)) _ qR215
    by_cases hf : s.getLsbD i = true
    · by_cases h0 : 0 < i
      · cases hp : s.getLsbD (i - 1) with
        | true =>
          refine AW.seq_region (fun K hK => ?_)
          refine AL.step rfl rfl rfl qR212 ?_
          refine AL.step rfl rfl rfl qR414 ?_
          refine AL.step rfl rfl rfl (by exact AStepD.val (AStepD.load_cellAt tok rfl rfl rfl rfl qR214 rfl (flF_at _ i (by omega))) (by rw [hf])) ?_
          refine AL.step rfl rfl rfl (by first | exact AStepD.not rfl rfl | exact AStepD.neg rfl rfl (by first | exact IntWalk.i64_in _ (by omega) | exact IntWalk.i64_in _ (by simp only [Bool.or_eq_true, Bool.and_eq_true, Bool.or_eq_false_iff, Bool.and_eq_false_iff, Bool.not_eq_true', Bool.not_eq_false', decide_eq_true_eq, decide_eq_false_iff_not, Int.not_lt, Int.not_le, beq_iff_eq] at *; omega) | exact rfl)) ?_
          refine AL.step rfl rfl rfl qR212 ?_
          first | refine AL.gstep rfl rfl rfl rfl rfl rfl rfl qR212 ?_ | refine AL.gskip rfl rfl rfl rfl rfl rfl rfl ?_ | refine AL.gnone rfl rfl rfl rfl rfl ?_ | refine AL.gmay rfl rfl rfl rfl rfl rfl qR47 ?_ | refine AL.gmay2 rfl rfl rfl rfl rfl rfl qR48 ?_
          first | refine AL.gstep rfl rfl rfl rfl rfl rfl rfl (by exact AStepD.bool (AStepD.gtr rfl rfl rfl) (c := true) (by simpa using h0)) ?_ | refine AL.gskip rfl rfl rfl rfl rfl rfl rfl ?_ | refine AL.gnone rfl rfl rfl rfl rfl ?_ | refine AL.gmay rfl rfl rfl rfl rfl rfl (fun hb => by (try (apply AStepD.uncond 15 rfl (gpf hb))); exact (by exact AStepD.bool (AStepD.gtr rfl rfl rfl) (c := true) (by simpa using h0))) ?_ | refine AL.gmay2 rfl rfl rfl rfl rfl rfl (fun _ hb => by (try (apply AStepD.uncond 15 rfl (gpf hb))); exact (by exact AStepD.bool (AStepD.gtr rfl rfl rfl) (c := true) (by simpa using h0))) ?_
          first | refine AL.gstep rfl rfl rfl rfl rfl rfl rfl qR212 ?_ | refine AL.gskip rfl rfl rfl rfl rfl rfl rfl ?_ | refine AL.gnone rfl rfl rfl rfl rfl ?_ | refine AL.gmay rfl rfl rfl rfl rfl rfl qR49 ?_ | refine AL.gmay2 rfl rfl rfl rfl rfl rfl qR410 ?_
          first | refine AL.gstep rfl rfl rfl rfl rfl rfl rfl qR212 ?_ | refine AL.gskip rfl rfl rfl rfl rfl rfl rfl ?_ | refine AL.gnone rfl rfl rfl rfl rfl ?_ | refine AL.gmay rfl rfl rfl rfl rfl rfl qR47 ?_ | refine AL.gmay2 rfl rfl rfl rfl rfl rfl qR48 ?_
          first | refine AL.gstep rfl rfl rfl rfl rfl rfl rfl (by exact AStepD.sub (r := ((i - 1 : Nat) : Int)) rfl rfl rfl (by rw [show (i : Int) - 1 = ((i - 1 : Nat) : Int) by omega]; exact IntWalk.i64_in _ (by omega))) ?_ | refine AL.gskip rfl rfl rfl rfl rfl rfl rfl ?_ | refine AL.gnone rfl rfl rfl rfl rfl ?_ | refine AL.gmay rfl rfl rfl rfl rfl rfl (fun hb => by (try (apply AStepD.uncond 18 rfl (gpf hb))); exact (by exact AStepD.sub (r := ((i - 1 : Nat) : Int)) rfl rfl rfl (by rw [show (i : Int) - 1 = ((i - 1 : Nat) : Int) by omega]; exact IntWalk.i64_in _ (by omega)))) ?_ | refine AL.gmay2 rfl rfl rfl rfl rfl rfl (fun _ hb => by (try (apply AStepD.uncond 18 rfl (gpf hb))); exact (by exact AStepD.sub (r := ((i - 1 : Nat) : Int)) rfl rfl rfl (by rw [show (i : Int) - 1 = ((i - 1 : Nat) : Int) by omega]; exact IntWalk.i64_in _ (by omega)))) ?_
          first | refine AL.gstep rfl rfl rfl rfl rfl rfl rfl qR414 ?_ | refine AL.gskip rfl rfl rfl rfl rfl rfl rfl ?_ | refine AL.gnone rfl rfl rfl rfl rfl ?_ | refine AL.gmay rfl rfl rfl rfl rfl rfl qR418 ?_ | refine AL.gmay2 rfl rfl rfl rfl rfl rfl qR419 ?_
          first | refine AL.gstep rfl rfl rfl rfl rfl rfl rfl (by exact AStepD.val (AStepD.load_cellAt tok rfl rfl rfl rfl qR214 rfl (flF_at _ (i - 1) (by omega))) (by rw [hp])) ?_ | refine AL.gskip rfl rfl rfl rfl rfl rfl rfl ?_ | refine AL.gnone rfl rfl rfl rfl rfl ?_ | refine AL.gmay rfl rfl rfl rfl rfl rfl (fun hb => by (try (apply AStepD.uncond 20 rfl (gpf hb))); exact (by exact AStepD.val (AStepD.load_cellAt tok rfl rfl rfl rfl qR214 rfl (flF_at _ (i - 1) (by omega))) (by rw [hp]))) ?_ | refine AL.gmay2 rfl rfl rfl rfl rfl rfl (fun _ hb => by (try (apply AStepD.uncond 20 rfl (gpf hb))); exact (by exact AStepD.val (AStepD.load_cellAt tok rfl rfl rfl rfl qR214 rfl (flF_at _ (i - 1) (by omega))) (by rw [hp]))) ?_
          first | refine AL.gstep rfl rfl rfl rfl rfl rfl rfl qR216 ?_ | refine AL.gskip rfl rfl rfl rfl rfl rfl rfl ?_ | refine AL.gnone rfl rfl rfl rfl rfl ?_ | refine AL.gmay rfl rfl rfl rfl rfl rfl qR411 ?_ | refine AL.gmay2 rfl rfl rfl rfl rfl rfl qR412 ?_
          refine AL.step rfl rfl rfl qR216 ?_
          refine AL.nil_then (hK _ _ ?_); clear hK K
          refine AW.cond_true rfl rfl ?_
          refine AW.exit ?_
          exact hpass (.inr ⟨h0, hp⟩) _ qR215
        | false =>
          refine AW.seq_region (fun K hK => ?_)
          refine AL.step rfl rfl rfl qR212 ?_
          refine AL.step rfl rfl rfl qR414 ?_
          refine AL.step rfl rfl rfl (by exact AStepD.val (AStepD.load_cellAt tok rfl rfl rfl rfl qR214 rfl (flF_at _ i (by omega))) (by rw [hf])) ?_
          refine AL.step rfl rfl rfl (by first | exact AStepD.not rfl rfl | exact AStepD.neg rfl rfl (by first | exact IntWalk.i64_in _ (by omega) | exact IntWalk.i64_in _ (by simp only [Bool.or_eq_true, Bool.and_eq_true, Bool.or_eq_false_iff, Bool.and_eq_false_iff, Bool.not_eq_true', Bool.not_eq_false', decide_eq_true_eq, decide_eq_false_iff_not, Int.not_lt, Int.not_le, beq_iff_eq] at *; omega) | exact rfl)) ?_
          refine AL.step rfl rfl rfl qR212 ?_
          first | refine AL.gstep rfl rfl rfl rfl rfl rfl rfl qR212 ?_ | refine AL.gskip rfl rfl rfl rfl rfl rfl rfl ?_ | refine AL.gnone rfl rfl rfl rfl rfl ?_ | refine AL.gmay rfl rfl rfl rfl rfl rfl qR47 ?_ | refine AL.gmay2 rfl rfl rfl rfl rfl rfl qR48 ?_
          first | refine AL.gstep rfl rfl rfl rfl rfl rfl rfl (by exact AStepD.bool (AStepD.gtr rfl rfl rfl) (c := true) (by simpa using h0)) ?_ | refine AL.gskip rfl rfl rfl rfl rfl rfl rfl ?_ | refine AL.gnone rfl rfl rfl rfl rfl ?_ | refine AL.gmay rfl rfl rfl rfl rfl rfl (fun hb => by (try (apply AStepD.uncond 15 rfl (gpf hb))); exact (by exact AStepD.bool (AStepD.gtr rfl rfl rfl) (c := true) (by simpa using h0))) ?_ | refine AL.gmay2 rfl rfl rfl rfl rfl rfl (fun _ hb => by (try (apply AStepD.uncond 15 rfl (gpf hb))); exact (by exact AStepD.bool (AStepD.gtr rfl rfl rfl) (c := true) (by simpa using h0))) ?_
          first | refine AL.gstep rfl rfl rfl rfl rfl rfl rfl qR212 ?_ | refine AL.gskip rfl rfl rfl rfl rfl rfl rfl ?_ | refine AL.gnone rfl rfl rfl rfl rfl ?_ | refine AL.gmay rfl rfl rfl rfl rfl rfl qR49 ?_ | refine AL.gmay2 rfl rfl rfl rfl rfl rfl qR410 ?_
          first | refine AL.gstep rfl rfl rfl rfl rfl rfl rfl qR212 ?_ | refine AL.gskip rfl rfl rfl rfl rfl rfl rfl ?_ | refine AL.gnone rfl rfl rfl rfl rfl ?_ | refine AL.gmay rfl rfl rfl rfl rfl rfl qR47 ?_ | refine AL.gmay2 rfl rfl rfl rfl rfl rfl qR48 ?_
          first | refine AL.gstep rfl rfl rfl rfl rfl rfl rfl (by exact AStepD.sub (r := ((i - 1 : Nat) : Int)) rfl rfl rfl (by rw [show (i : Int) - 1 = ((i - 1 : Nat) : Int) by omega]; exact IntWalk.i64_in _ (by omega))) ?_ | refine AL.gskip rfl rfl rfl rfl rfl rfl rfl ?_ | refine AL.gnone rfl rfl rfl rfl rfl ?_ | refine AL.gmay rfl rfl rfl rfl rfl rfl (fun hb => by (try (apply AStepD.uncond 18 rfl (gpf hb))); exact (by exact AStepD.sub (r := ((i - 1 : Nat) : Int)) rfl rfl rfl (by rw [show (i : Int) - 1 = ((i - 1 : Nat) : Int) by omega]; exact IntWalk.i64_in _ (by omega)))) ?_ | refine AL.gmay2 rfl rfl rfl rfl rfl rfl (fun _ hb => by (try (apply AStepD.uncond 18 rfl (gpf hb))); exact (by exact AStepD.sub (r := ((i - 1 : Nat) : Int)) rfl rfl rfl (by rw [show (i : Int) - 1 = ((i - 1 : Nat) : Int) by omega]; exact IntWalk.i64_in _ (by omega)))) ?_
          first | refine AL.gstep rfl rfl rfl rfl rfl rfl rfl qR414 ?_ | refine AL.gskip rfl rfl rfl rfl rfl rfl rfl ?_ | refine AL.gnone rfl rfl rfl rfl rfl ?_ | refine AL.gmay rfl rfl rfl rfl rfl rfl qR418 ?_ | refine AL.gmay2 rfl rfl rfl rfl rfl rfl qR419 ?_
          first | refine AL.gstep rfl rfl rfl rfl rfl rfl rfl (by exact AStepD.val (AStepD.load_cellAt tok rfl rfl rfl rfl qR214 rfl (flF_at _ (i - 1) (by omega))) (by rw [hp])) ?_ | refine AL.gskip rfl rfl rfl rfl rfl rfl rfl ?_ | refine AL.gnone rfl rfl rfl rfl rfl ?_ | refine AL.gmay rfl rfl rfl rfl rfl rfl (fun hb => by (try (apply AStepD.uncond 20 rfl (gpf hb))); exact (by exact AStepD.val (AStepD.load_cellAt tok rfl rfl rfl rfl qR214 rfl (flF_at _ (i - 1) (by omega))) (by rw [hp]))) ?_ | refine AL.gmay2 rfl rfl rfl rfl rfl rfl (fun _ hb => by (try (apply AStepD.uncond 20 rfl (gpf hb))); exact (by exact AStepD.val (AStepD.load_cellAt tok rfl rfl rfl rfl qR214 rfl (flF_at _ (i - 1) (by omega))) (by rw [hp]))) ?_
          first | refine AL.gstep rfl rfl rfl rfl rfl rfl rfl qR216 ?_ | refine AL.gskip rfl rfl rfl rfl rfl rfl rfl ?_ | refine AL.gnone rfl rfl rfl rfl rfl ?_ | refine AL.gmay rfl rfl rfl rfl rfl rfl qR411 ?_ | refine AL.gmay2 rfl rfl rfl rfl rfl rfl qR412 ?_
          refine AL.step rfl rfl rfl qR216 ?_
          refine AL.nil_then (hK _ _ ?_); clear hK K
          refine AW.cond_false rfl rfl (AW.skip ?_)
          exact hgo hf (fun h => by rw [h.2] at hp; cases hp) _ qR215
      · refine AW.seq_region (fun K hK => ?_)
        refine AL.step rfl rfl rfl qR212 ?_
        refine AL.step rfl rfl rfl qR414 ?_
        refine AL.step rfl rfl rfl (by exact AStepD.val (AStepD.load_cellAt tok rfl rfl rfl rfl qR214 rfl (flF_at _ i (by omega))) (by rw [hf])) ?_
        refine AL.step rfl rfl rfl (by first | exact AStepD.not rfl rfl | exact AStepD.neg rfl rfl (by first | exact IntWalk.i64_in _ (by omega) | exact IntWalk.i64_in _ (by simp only [Bool.or_eq_true, Bool.and_eq_true, Bool.or_eq_false_iff, Bool.and_eq_false_iff, Bool.not_eq_true', Bool.not_eq_false', decide_eq_true_eq, decide_eq_false_iff_not, Int.not_lt, Int.not_le, beq_iff_eq] at *; omega) | exact rfl)) ?_
        refine AL.step rfl rfl rfl qR212 ?_
        first | refine AL.gstep rfl rfl rfl rfl rfl rfl rfl qR212 ?_ | refine AL.gskip rfl rfl rfl rfl rfl rfl rfl ?_ | refine AL.gnone rfl rfl rfl rfl rfl ?_ | refine AL.gmay rfl rfl rfl rfl rfl rfl qR47 ?_ | refine AL.gmay2 rfl rfl rfl rfl rfl rfl qR48 ?_
        first | refine AL.gstep rfl rfl rfl rfl rfl rfl rfl (by exact AStepD.bool (AStepD.gtr rfl rfl rfl) (c := false) (by simpa using h0)) ?_ | refine AL.gskip rfl rfl rfl rfl rfl rfl rfl ?_ | refine AL.gnone rfl rfl rfl rfl rfl ?_ | refine AL.gmay rfl rfl rfl rfl rfl rfl (fun hb => by (try (apply AStepD.uncond 15 rfl (gpf hb))); exact (by exact AStepD.bool (AStepD.gtr rfl rfl rfl) (c := false) (by simpa using h0))) ?_ | refine AL.gmay2 rfl rfl rfl rfl rfl rfl (fun _ hb => by (try (apply AStepD.uncond 15 rfl (gpf hb))); exact (by exact AStepD.bool (AStepD.gtr rfl rfl rfl) (c := false) (by simpa using h0))) ?_
        first | refine AL.gstep rfl rfl rfl rfl rfl rfl rfl qR212 ?_ | refine AL.gskip rfl rfl rfl rfl rfl rfl rfl ?_ | refine AL.gnone rfl rfl rfl rfl rfl ?_ | refine AL.gmay rfl rfl rfl rfl rfl rfl qR49 ?_ | refine AL.gmay2 rfl rfl rfl rfl rfl rfl qR410 ?_
        first | refine AL.gstep rfl rfl rfl rfl rfl rfl rfl qR212 ?_ | refine AL.gskip rfl rfl rfl rfl rfl rfl rfl ?_ | refine AL.gnone rfl rfl rfl rfl rfl ?_ | refine AL.gmay rfl rfl rfl rfl rfl rfl qR47 ?_ | refine AL.gmay2 rfl rfl rfl rfl rfl rfl qR48 ?_
        first | refine AL.gstep rfl rfl rfl rfl rfl rfl rfl (by exact AStepD.sub rfl rfl rfl (by first | exact IntWalk.i64_in _ (by omega) | exact IntWalk.i64_in _ (by simp only [Bool.or_eq_true, Bool.and_eq_true, Bool.or_eq_false_iff, Bool.and_eq_false_iff, Bool.not_eq_true', Bool.not_eq_false', decide_eq_true_eq, decide_eq_false_iff_not, Int.not_lt, Int.not_le, beq_iff_eq] at *; omega) | exact rfl)) ?_ | refine AL.gskip rfl rfl rfl rfl rfl rfl rfl ?_ | refine AL.gnone rfl rfl rfl rfl rfl ?_ | refine AL.gmay rfl rfl rfl rfl rfl rfl (fun hb => by (try (apply AStepD.uncond 18 rfl (gpf hb))); exact (by exact AStepD.sub rfl rfl rfl (by first | exact IntWalk.i64_in _ (by omega) | exact IntWalk.i64_in _ (by simp only [Bool.or_eq_true, Bool.and_eq_true, Bool.or_eq_false_iff, Bool.and_eq_false_iff, Bool.not_eq_true', Bool.not_eq_false', decide_eq_true_eq, decide_eq_false_iff_not, Int.not_lt, Int.not_le, beq_iff_eq] at *; omega) | exact rfl))) ?_ | refine AL.gmay2 rfl rfl rfl rfl rfl rfl (fun _ hb => by (try (apply AStepD.uncond 18 rfl (gpf hb))); exact (by exact AStepD.sub rfl rfl rfl (by first | exact IntWalk.i64_in _ (by omega) | exact IntWalk.i64_in _ (by simp only [Bool.or_eq_true, Bool.and_eq_true, Bool.or_eq_false_iff, Bool.and_eq_false_iff, Bool.not_eq_true', Bool.not_eq_false', decide_eq_true_eq, decide_eq_false_iff_not, Int.not_lt, Int.not_le, beq_iff_eq] at *; omega) | exact rfl))) ?_
        first | refine AL.gstep rfl rfl rfl rfl rfl rfl rfl qR414 ?_ | refine AL.gskip rfl rfl rfl rfl rfl rfl rfl ?_ | refine AL.gnone rfl rfl rfl rfl rfl ?_ | refine AL.gmay rfl rfl rfl rfl rfl rfl qR418 ?_ | refine AL.gmay2 rfl rfl rfl rfl rfl rfl qR419 ?_
        first | refine AL.gstep rfl rfl rfl rfl rfl rfl rfl qR415 ?_ | refine AL.gskip rfl rfl rfl rfl rfl rfl rfl ?_ | refine AL.gnone rfl rfl rfl rfl rfl ?_ | refine AL.gmay rfl rfl rfl rfl rfl rfl qR420 ?_ | refine AL.gmay2 rfl rfl rfl rfl rfl rfl qR421 ?_
        first | refine AL.gstep rfl rfl rfl rfl rfl rfl rfl qR216 ?_ | refine AL.gskip rfl rfl rfl rfl rfl rfl rfl ?_ | refine AL.gnone rfl rfl rfl rfl rfl ?_ | refine AL.gmay rfl rfl rfl rfl rfl rfl qR411 ?_ | refine AL.gmay2 rfl rfl rfl rfl rfl rfl qR412 ?_
        refine AL.step rfl rfl rfl qR216 ?_
        refine AL.nil_then (hK _ _ ?_); clear hK K
        refine AW.cond_false rfl rfl (AW.skip ?_)
        exact hgo hf (fun h => h0 h.1) _ qR215
    · refine AW.seq_region (fun K hK => ?_)
      refine AL.step rfl rfl rfl qR212 ?_
      refine AL.step rfl rfl rfl qR414 ?_
      refine AL.step rfl rfl rfl (by exact AStepD.val (AStepD.load_cellAt tok rfl rfl rfl rfl qR214 rfl (flF_at _ i (by omega))) (by rw [eq_false_of_ne_true hf])) ?_
      refine AL.step rfl rfl rfl (by first | exact AStepD.not rfl rfl | exact AStepD.neg rfl rfl (by first | exact IntWalk.i64_in _ (by omega) | exact IntWalk.i64_in _ (by simp only [Bool.or_eq_true, Bool.and_eq_true, Bool.or_eq_false_iff, Bool.and_eq_false_iff, Bool.not_eq_true', Bool.not_eq_false', decide_eq_true_eq, decide_eq_false_iff_not, Int.not_lt, Int.not_le, beq_iff_eq] at *; omega) | exact rfl)) ?_
      refine AL.step rfl rfl rfl qR212 ?_
      first | refine AL.gstep rfl rfl rfl rfl rfl rfl rfl qR212 ?_ | refine AL.gskip rfl rfl rfl rfl rfl rfl rfl ?_ | refine AL.gnone rfl rfl rfl rfl rfl ?_ | refine AL.gmay rfl rfl rfl rfl rfl rfl qR47 ?_ | refine AL.gmay2 rfl rfl rfl rfl rfl rfl qR48 ?_
      first | refine AL.gstep rfl rfl rfl rfl rfl rfl rfl qR413 ?_ | refine AL.gskip rfl rfl rfl rfl rfl rfl rfl ?_ | refine AL.gnone rfl rfl rfl rfl rfl ?_ | refine AL.gmay rfl rfl rfl rfl rfl rfl (fun hb => by (try (apply AStepD.uncond 15 rfl (gpf hb))); exact qR413) ?_ | refine AL.gmay2 rfl rfl rfl rfl rfl rfl (fun _ hb => by (try (apply AStepD.uncond 15 rfl (gpf hb))); exact qR413) ?_
      first | refine AL.gstep rfl rfl rfl rfl rfl rfl rfl qR212 ?_ | refine AL.gskip rfl rfl rfl rfl rfl rfl rfl ?_ | refine AL.gnone rfl rfl rfl rfl rfl ?_ | refine AL.gmay rfl rfl rfl rfl rfl rfl qR49 ?_ | refine AL.gmay2 rfl rfl rfl rfl rfl rfl qR410 ?_
      first | refine AL.gstep rfl rfl rfl rfl rfl rfl rfl qR212 ?_ | refine AL.gskip rfl rfl rfl rfl rfl rfl rfl ?_ | refine AL.gnone rfl rfl rfl rfl rfl ?_ | refine AL.gmay rfl rfl rfl rfl rfl rfl qR47 ?_ | refine AL.gmay2 rfl rfl rfl rfl rfl rfl qR48 ?_
      first | refine AL.gstep rfl rfl rfl rfl rfl rfl rfl (by exact AStepD.sub rfl rfl rfl (by first | exact IntWalk.i64_in _ (by omega) | exact IntWalk.i64_in _ (by simp only [Bool.or_eq_true, Bool.and_eq_true, Bool.or_eq_false_iff, Bool.and_eq_false_iff, Bool.not_eq_true', Bool.not_eq_false', decide_eq_true_eq, decide_eq_false_iff_not, Int.not_lt, Int.not_le, beq_iff_eq] at *; omega) | exact rfl)) ?_ | refine AL.gskip rfl rfl rfl rfl rfl rfl rfl ?_ | refine AL.gnone rfl rfl rfl rfl rfl ?_ | refine AL.gmay rfl rfl rfl rfl rfl rfl (fun hb => by (try (apply AStepD.uncond 18 rfl (gpf hb))); exact (by exact AStepD.sub rfl rfl rfl (by first | exact IntWalk.i64_in _ (by omega) | exact IntWalk.i64_in _ (by simp only [Bool.or_eq_true, Bool.and_eq_true, Bool.or_eq_false_iff, Bool.and_eq_false_iff, Bool.not_eq_true', Bool.not_eq_false', decide_eq_true_eq, decide_eq_false_iff_not, Int.not_lt, Int.not_le, beq_iff_eq] at *; omega) | exact rfl))) ?_ | refine AL.gmay2 rfl rfl rfl rfl rfl rfl (fun _ hb => by (try (apply AStepD.uncond 18 rfl (gpf hb))); exact (by exact AStepD.sub rfl rfl rfl (by first | exact IntWalk.i64_in _ (by omega) | exact IntWalk.i64_in _ (by simp only [Bool.or_eq_true, Bool.and_eq_true, Bool.or_eq_false_iff, Bool.and_eq_false_iff, Bool.not_eq_true', Bool.not_eq_false', decide_eq_true_eq, decide_eq_false_iff_not, Int.not_lt, Int.not_le, beq_iff_eq] at *; omega) | exact rfl))) ?_
      first | refine AL.gstep rfl rfl rfl rfl rfl rfl rfl qR414 ?_ | refine AL.gskip rfl rfl rfl rfl rfl rfl rfl ?_ | refine AL.gnone rfl rfl rfl rfl rfl ?_ | refine AL.gmay rfl rfl rfl rfl rfl rfl qR418 ?_ | refine AL.gmay2 rfl rfl rfl rfl rfl rfl qR419 ?_
      first | refine AL.gstep rfl rfl rfl rfl rfl rfl rfl qR415 ?_ | refine AL.gskip rfl rfl rfl rfl rfl rfl rfl ?_ | refine AL.gnone rfl rfl rfl rfl rfl ?_ | refine AL.gmay rfl rfl rfl rfl rfl rfl qR420 ?_ | refine AL.gmay2 rfl rfl rfl rfl rfl rfl qR421 ?_
      first | refine AL.gstep rfl rfl rfl rfl rfl rfl rfl qR216 ?_ | refine AL.gskip rfl rfl rfl rfl rfl rfl rfl ?_ | refine AL.gnone rfl rfl rfl rfl rfl ?_ | refine AL.gmay rfl rfl rfl rfl rfl rfl qR411 ?_ | refine AL.gmay2 rfl rfl rfl rfl rfl rfl qR412 ?_
      refine AL.step rfl rfl rfl qR216 ?_
      refine AL.nil_then (hK _ _ ?_); clear hK K
      refine AW.cond_true rfl rfl ?_
      refine AW.exit ?_
      exact hpass (.inl (eq_false_of_ne_true hf)) _ qR215
  · (try simp only [Bool.or_eq_true, Bool.and_eq_true, Bool.or_eq_false_iff, Bool.and_eq_false_iff, Bool.not_eq_true', Bool.not_eq_false', decide_eq_true_eq, decide_eq_false_iff_not, Int.not_lt, Int.not_le] at hc)
    obtain rfl : i = 64 := by omega
    obtain rfl := hw.done
    refine AW.exit ?_
    refine hK1 _ _ ?_; try clear hK1 K1
    refine AW.seq_region (fun K hK => ?_)
    refine AL.step rfl rfl rfl qR212 ?_
    refine AL.step rfl rfl rfl qR211 ?_
    refine AL.nil_then (hK _ _ ?_); clear hK K
    refine AW.ret (RetQ.mk (.inr rfl) (retA_tmp rfl qR21 retA_nil) ⟨rfl, hk⟩)
end Go.Proofs.YtbcanlmpfhkklaaGreatDoor

/- The reference's Parse. -/

namespace Go.Proofs.YtbcanlmpfhkklaaGreatDoor
open Go.Ax
open Cel (c)
set_option linter.unusedSimpArgs false
set_option linter.unusedVariables false
open Cel (c)

end Go.Proofs.YtbcanlmpfhkklaaGreatDoor
