/- The reference's reading of a text, plainly. -/
import Derived.Test.YtbcanlmpfhkklaaGreatDoorCW3
set_option linter.unusedSimpArgs false
set_option linter.unusedVariables false
namespace Go.Proofs.YtbcanlmpfhkklaaGreatDoor
open Go.Ax
open Cel (c)
set_option linter.unusedSimpArgs false
set_option linter.unusedVariables false

def at8 (l : List UInt8) (i : Nat) : Nat := (l.getD i 0).toNat
def digB (l : List UInt8) (i : Nat) : Bool := decide (i < l.length) && decide (48 ≤ at8 l i) && decide (at8 l i ≤ 57)
def cntN (l : List UInt8) (p : Nat) : Nat := if digB l p then (if digB l (p + 1) then 2 else 1) else 0
def accN (l : List UInt8) (p : Nat) : Nat → Nat
  | 0 => 0
  | k + 1 => 10 * accN l p k + (at8 l (p + k) - 48)
def numBad (l : List UInt8) (p : Nat) : Bool := decide (cntN l p = 0) || decide (63 < accN l p (cntN l p)) || (decide (0 < cntN l p) && decide (at8 l p = 48) && decide (1 < cntN l p))
def numV (l : List UInt8) (p : Nat) : Int := if numBad l p then -1 else (accN l p (cntN l p) : Nat)
def numE (l : List UInt8) (p : Nat) : Nat := if numBad l p then p else p + cntN l p
theorem cnt_le (l : List UInt8) (p : Nat) : cntN l p ≤ 2 := by rw [cntN]; split <;> try split
                                                               all_goals omega
theorem cnt_of {l : List UInt8} {p k : Nat} (hk : k ≤ 2) (h : ∀ j, j < k → digB l (p + j) = true) (hs : k < 2 → digB l (p + k) = false) : cntN l p = k := by
  match k, hk with
  | 0, _ => rw [cntN, (by simpa using hs (by omega) : digB l p = false)]; rfl
  | 1, _ => rw [cntN, (by simpa using h 0 (by omega) : digB l p = true), hs (by omega)]; rfl
  | 2, _ => rw [cntN, (by simpa using h 0 (by omega) : digB l p = true), h 1 (by omega)]; rfl
theorem dig_of {l : List UInt8} {p : Nat} (h : digB l p = true) : p < l.length ∧ 48 ≤ at8 l p ∧ at8 l p ≤ 57 := by
  simp only [digB, Bool.and_eq_true, decide_eq_true_eq] at h
  exact ⟨h.1.1, h.1.2, h.2⟩
theorem at8_get {l : List UInt8} {p : Nat} (h : p < l.length) : l[p] = UInt8.ofNat (at8 l p) := by
  rw [at8, List.getD_eq_getElem?_getD, List.getElem?_eq_getElem h, Option.getD_some]
  simp
theorem take_one {l : List UInt8} {p : Nat} (h : p < l.length) : l.take (p + 1) = l.take p ++ [UInt8.ofNat (at8 l p)] := by
  rw [List.take_succ_eq_append_getElem h, at8_get h]
theorem num_sound {l : List UInt8} {p : Nat} (h : 0 ≤ numV l p) : ∃ a : Nat, numV l p = a ∧ a < 64 ∧ p < numE l p ∧ numE l p ≤ l.length ∧ l.take (numE l p) = l.take p ++ Lib.decDigits a := by
  have hb : numBad l p = false := by
    cases e : numBad l p with
    | false => rfl
    | true => rw [numV, e] at h; simp at h
  rw [numV, numE, hb]
  simp only [Bool.false_eq_true, if_false]
  simp only [numBad, Bool.or_eq_false_iff, decide_eq_false_iff_not, Bool.and_eq_false_iff] at hb
  obtain ⟨⟨h1, h2⟩, h3⟩ := hb
  refine ⟨_, rfl, by omega, by omega, ?_⟩
  rw [cntN] at h1 h2 h3 ⊢
  by_cases d1 : digB l p = true
  · obtain ⟨c1, c2, c3⟩ := dig_of d1
    rw [if_pos d1] at h1 h2 h3 ⊢
    by_cases d2 : digB l (p + 1) = true
    · obtain ⟨e1, e2, e3⟩ := dig_of d2
      rw [if_pos d2] at h1 h2 h3 ⊢
      have hx : accN l p 2 = 10 * (at8 l p - 48) + (at8 l (p + 1) - 48) := by simp [accN]
      have hz : at8 l p ≠ 48 := by
        rcases h3 with (h3 | h3) | h3
        · omega
        · exact h3
        · omega
      refine ⟨by omega, ?_⟩
      rw [take_one e1, take_one c1, dec_eq _ (by omega), if_neg (by omega), hx, List.append_assoc,
        show 48 + (10 * (at8 l p - 48) + (at8 l (p + 1) - 48)) / 10 = at8 l p by omega, show 48 + (10 * (at8 l p - 48) + (at8 l (p + 1) - 48)) % 10 = at8 l (p + 1) by omega]
      rfl
    · rw [if_neg d2] at h1 h2 h3 ⊢
      have hx : accN l p 1 = at8 l p - 48 := by simp [accN]
      refine ⟨by omega, ?_⟩
      rw [take_one c1, dec_eq _ (by omega), if_pos (by omega), hx, show 48 + (at8 l p - 48) = at8 l p by omega]
  · rw [if_neg d1] at h1
    omega
theorem at8_app (u v : List UInt8) (i : Nat) : at8 (u ++ v) (u.length + i) = at8 v i := by
  rw [at8, at8, List.getD_eq_getElem?_getD, List.getD_eq_getElem?_getD, List.getElem?_append_right (by omega), Nat.add_sub_cancel_left]
theorem dig_app (u v : List UInt8) (i : Nat) : digB (u ++ v) (u.length + i) = digB v i := by
  rw [digB, digB, at8_app, List.length_append]
  congr 2
  exact decide_eq_decide.2 (by omega)
theorem num_app (u v : List UInt8) : numV (u ++ v) u.length = numV v 0 ∧ numE (u ++ v) u.length = u.length + numE v 0 := by
  have hc : cntN (u ++ v) u.length = cntN v 0 := by
    rw [cntN, cntN, ← dig_app u v 0, ← dig_app u v (0 + 1)]; rfl
  have ha : ∀ k, accN (u ++ v) u.length k = accN v 0 k := fun k => by
    induction k with
    | zero => rfl
    | succ k ih => rw [accN, accN, ih, at8_app, Nat.zero_add]
  have hb : numBad (u ++ v) u.length = numBad v 0 := by
    have := at8_app u v 0
    rw [Nat.add_zero] at this
    rw [numBad, numBad, hc, ha, this]
  refine ⟨by rw [numV, numV, hb, hc, ha], ?_⟩
  rw [numE, numE, hb, hc]
  split
  · rfl
  · rw [Nat.zero_add]
theorem num_check : ∀ a : Fin 64, numV (dec2 a.1) 0 = a.1 ∧ numE (dec2 a.1) 0 = (dec2 a.1).length ∧ (numV (dec2 a.1 ++ [32]) 0 = a.1 ∧ numE (dec2 a.1 ++ [32]) 0 = (dec2 a.1).length) ∧ (numV (dec2 a.1 ++ [45]) 0 = a.1 ∧ numE (dec2 a.1 ++ [45]) 0 = (dec2 a.1).length) := by
  decide +kernel
theorem num_of (u v : List UInt8) (a : Nat) (ha : a < 64) (hv : ∀ c r, v = c :: r → c = 32 ∨ c = 45) : numV (u ++ (Lib.decDigits a ++ v)) u.length = a ∧ numE (u ++ (Lib.decDigits a ++ v)) u.length = u.length + (Lib.decDigits a).length := by
  obtain ⟨h1, h2⟩ := num_app u (Lib.decDigits a ++ v)
  rw [h1, h2]
  have e : Lib.decDigits a = dec2 a := by rw [dec_eq _ (by omega)]; rfl
  rw [e]
  obtain ⟨k1, k2, k3⟩ := num_check ⟨a, ha⟩
  cases v with
  | nil => rw [List.append_nil]; exact ⟨k1, by rw [k2]⟩
  | cons c r =>
    obtain ⟨k4, k5⟩ : numV (dec2 a ++ [c]) 0 = a ∧ numE (dec2 a ++ [c]) 0 = (dec2 a).length := by
      rcases hv c r rfl with rfl | rfl
      · exact k3.1
      · exact k3.2
    have hlen : 1 ≤ (dec2 a).length ∧ (dec2 a).length ≤ 2 := by
      rw [dec2]; split <;> simp
    have hat : ∀ i, i ≤ (dec2 a).length → at8 (dec2 a ++ c :: r) i = at8 (dec2 a ++ [c]) i := fun i hi => by
      rw [at8, at8, List.getD_eq_getElem?_getD, List.getD_eq_getElem?_getD]
      rcases Nat.lt_or_ge i (dec2 a).length with h | h
      · rw [List.getElem?_append_left h, List.getElem?_append_left h]
      · obtain rfl : i = (dec2 a).length := by omega
        simp
    have hdg : ∀ i, i ≤ (dec2 a).length → digB (dec2 a ++ c :: r) i = digB (dec2 a ++ [c]) i := fun i hi => by
      rw [digB, digB, hat i hi]
      congr 2
      exact decide_eq_decide.2 (by simp; omega)
    have hcn : cntN (dec2 a ++ c :: r) 0 = cntN (dec2 a ++ [c]) 0 := by
      rw [cntN, cntN, hdg 0 (by omega), hdg (0 + 1) (by omega)]
    have hac : ∀ k, k ≤ 2 → k ≤ (dec2 a).length + 1 → accN (dec2 a ++ c :: r) 0 k = accN (dec2 a ++ [c]) 0 k := fun k hk hk2 => by
      induction k with
      | zero => rfl
      | succ k ih => rw [accN, accN, ih (by omega) (by omega), hat _ (by omega)]
    have hb : numBad (dec2 a ++ c :: r) 0 = numBad (dec2 a ++ [c]) 0 := by
      rw [numBad, numBad, hcn, hat 0 (by omega), hac _ (cnt_le _ _) (by have := cnt_le (dec2 a ++ [c]) 0; omega)]
    refine ⟨?_, ?_⟩
    · rw [← k4, numV, numV, hb, hcn, hac _ (cnt_le _ _) (by have := cnt_le (dec2 a ++ [c]) 0; omega)]
    · rw [← k5, numE, numE, hb, hcn]

def stepR (l : List UInt8) (p : Nat) (least : Nat) : Option (Nat × Nat × Nat) :=
  if decide (0 < p) && decide (at8 l p ≠ 32) then none else
  let p1 := if 0 < p then p + 1 else p
  if numV l p1 < least then none else
  if decide (numE l p1 < l.length) && decide (at8 l (numE l p1) = 45) then
    if numV l (numE l p1 + 1) ≤ numV l p1 then none else some ((numV l p1).toNat, (numV l (numE l p1 + 1)).toNat, numE l (numE l p1 + 1))
  else some ((numV l p1).toNat, (numV l p1).toNat, numE l p1)
structure Rd (l : List UInt8) (p least : Nat) (rs : List (Nat × Nat)) : Prop where
  le : p ≤ l.length
  txt : l.take p = Lib.join (rs.map segT) [32]
  good : Good 0 rs
  zero : rs = [] → p = 0 ∧ least = 0
  pos : rs ≠ [] → 0 < p
  last : ∀ t a b, Good 0 (rs ++ (a, b) :: t) ↔ (Good (b + 2) t ∧ least ≤ a ∧ a ≤ b ∧ b < 64)
  pre : ∀ s, textS s = l → ∃ t, segsS s = rs ++ t
theorem Rd.start (l : List UInt8) : Rd l 0 0 [] where
  le := Nat.zero_le _
  txt := by rw [List.take_zero, List.map_nil, Lib.join_nil]
  good := trivial
  zero _ := ⟨rfl, rfl⟩
  pos h := absurd rfl h
  last t a b := by
    show (0 ≤ a ∧ a ≤ b ∧ b < 64 ∧ Good (b + 2) t) ↔ _
    exact ⟨fun ⟨h1, h2, h3, h4⟩ => ⟨h4, h1, h2, h3⟩, fun ⟨h1, h2, h3, h4⟩ => ⟨h2, h3, h4, h1⟩⟩
  pre s _ := ⟨_, rfl⟩
def sepB (rs : List (Nat × Nat)) : List UInt8 := if rs = [] then [] else [32]
theorem join_snoc (rs : List (Nat × Nat)) (x : Nat × Nat) : Lib.join ((rs ++ [x]).map segT) [32] = Lib.join (rs.map segT) [32] ++ (sepB rs ++ segT x) := by
  rw [sepB]
  by_cases h : rs = []
  · subst h; rw [if_pos rfl, List.nil_append, List.map_cons, List.map_nil, Lib.join_one, Lib.join_nil, List.nil_append, List.nil_append]
  · rw [if_neg h, List.map_append, join_append 32 _ _ (by simpa using h) (by simp), List.map_cons, List.map_nil, Lib.join_one]; rfl
theorem good_snoc : ∀ (rs : List (Nat × Nat)) (lo : Nat) (x y : Nat × Nat) (t : List (Nat × Nat)), Good lo (rs ++ x :: y :: t) ↔ (Good lo (rs ++ [x]) ∧ x.2 + 2 ≤ y.1 ∧ y.1 ≤ y.2 ∧ y.2 < 64 ∧ Good (y.2 + 2) t)
  | [], lo, (a, b), (a', b'), t => by
    show (lo ≤ a ∧ a ≤ b ∧ b < 64 ∧ b + 2 ≤ a' ∧ a' ≤ b' ∧ b' < 64 ∧ Good (b' + 2) t) ↔ ((lo ≤ a ∧ a ≤ b ∧ b < 64 ∧ True) ∧ b + 2 ≤ a' ∧ a' ≤ b' ∧ b' < 64 ∧ Good (b' + 2) t)
    constructor
    · rintro ⟨h1, h2, h3, h4⟩; exact ⟨⟨h1, h2, h3, trivial⟩, h4⟩
    · rintro ⟨⟨h1, h2, h3, _⟩, h4⟩; exact ⟨h1, h2, h3, h4⟩
  | (c, d) :: rs, lo, x, y, t => by
    show (lo ≤ c ∧ c ≤ d ∧ d < 64 ∧ Good (d + 2) (rs ++ x :: y :: t)) ↔ ((lo ≤ c ∧ c ≤ d ∧ d < 64 ∧ Good (d + 2) (rs ++ [x])) ∧ _)
    rw [good_snoc rs (d + 2) x y t]
    constructor
    · rintro ⟨h1, h2, h3, h4, h5⟩; exact ⟨⟨h1, h2, h3, h4⟩, h5⟩
    · rintro ⟨⟨h1, h2, h3, h4⟩, h5⟩; exact ⟨h1, h2, h3, h4, h5⟩
theorem step_sound {l : List UInt8} {p least a b e : Nat} (h : stepR l p least = some (a, b, e)) : l.take e = l.take p ++ ((if 0 < p then [32] else []) ++ segT (a, b)) ∧ least ≤ a ∧ a ≤ b ∧ b < 64 ∧ e ≤ l.length ∧ p < e := by
  rw [stepR] at h
  split at h
  · cases h
  rename_i h0
  obtain ⟨p1, hp1⟩ : ∃ p1, p1 = (if 0 < p then p + 1 else p) := ⟨_, rfl⟩
  simp only [← hp1] at h
  have hpp : p ≤ p1 := by rw [hp1]; split <;> omega
  split at h
  · cases h
  rename_i h1
  obtain ⟨x, e1, e2, e3, e4, e5⟩ := num_sound (l := l) (p := p1) (by omega)
  have ht : l.take p1 = l.take p ++ (if 0 < p then [32] else []) := by
    by_cases c : 0 < p
    · rw [if_pos c] at hp1 ⊢
      simp only [Bool.and_eq_true, decide_eq_true_eq, not_and, ne_eq, Decidable.not_not] at h0
      have h32 := h0 c
      subst hp1
      rw [take_one (by omega), h32]; rfl
    · rw [if_neg c] at hp1 ⊢
      rw [hp1, List.append_nil]
  split at h
  · rename_i h2
    simp only [Bool.and_eq_true, decide_eq_true_eq] at h2
    split at h
    · cases h
    rename_i h3
    obtain ⟨y, f1, f2, f3, f4, f5⟩ := num_sound (l := l) (p := numE l p1 + 1) (by omega)
    rw [e1, f1] at h h3
    simp only [Int.toNat_natCast, Option.some.injEq, Prod.mk.injEq] at h
    obtain ⟨rfl, rfl, rfl⟩ := h
    refine ⟨?_, by omega, by omega, f2, f4, by omega⟩
    rw [f5, take_one h2.1, h2.2, e5, ht, segT, if_pos (show x < y by omega)]
    simp
  · rw [e1] at h
    simp only [Int.toNat_natCast, Option.some.injEq, Prod.mk.injEq] at h
    obtain ⟨rfl, rfl, rfl⟩ := h
    refine ⟨?_, by omega, Nat.le_refl _, e2, e4, by omega⟩
    rw [e5, ht, segT, if_neg (Nat.lt_irrefl x), List.append_assoc]
theorem Rd.next {l : List UInt8} {p least : Nat} {rs : List (Nat × Nat)} (h : Rd l p least rs) (hp : p < l.length) {s : BitVec 64} (hs : textS s = l) : ∃ a b e t, stepR l p least = some (a, b, e) ∧ segsS s = rs ++ (a, b) :: t := by
  obtain ⟨t, ht⟩ := h.pre s hs
  cases t with
  | nil =>
    exfalso
    rw [List.append_nil] at ht
    have e := h.txt
    rw [← ht] at e
    have : l.take p = l := e.trans hs
    have := congrArg List.length this
    rw [List.length_take] at this
    omega
  | cons x t =>
    obtain ⟨a, b⟩ := x
    have hg := segsS_good s
    rw [ht, h.last] at hg
    obtain ⟨g1, g2, g3, g4⟩ := hg
    obtain ⟨v, hv, hvc⟩ : ∃ v, l = l.take p ++ (sepB rs ++ (segT (a, b) ++ v)) ∧ ∀ c r, v = c :: r → c = 32 := by
      have e := hs
      rw [textS, ht] at e
      cases t with
      | nil =>
        refine ⟨[], ?_, fun c r h => by cases h⟩
        rw [join_snoc] at e
        rw [h.txt, List.append_nil]
        exact e.symm
      | cons y t =>
        refine ⟨32 :: Lib.join ((y :: t).map segT) [32], ?_, fun c r h => by cases h; rfl⟩
        rw [show rs ++ (a, b) :: y :: t = (rs ++ [(a, b)]) ++ (y :: t) by simp, List.map_append, join_append 32 _ _ (by simp) (by simp), join_snoc] at e
        rw [h.txt]
        refine e.symm.trans ?_
        simp only [List.append_assoc]
    have hlp : (l.take p).length = p := by rw [List.length_take]; omega
    have h0 : (decide (0 < p) && decide (at8 l p ≠ 32)) = false := by
      by_cases c : rs = []
      · rw [(h.zero c).1]; rfl
      · have hc := h.pos c
        rw [sepB, if_neg c] at hv
        have : at8 l p = 32 := by
          have e := at8_app (l.take p) ([32] ++ (segT (a, b) ++ v)) 0
          rw [← hv, hlp] at e
          exact e
        simp [this]
    obtain ⟨p1, hp1⟩ : ∃ p1, p1 = (if 0 < p then p + 1 else p) := ⟨_, rfl⟩
    obtain ⟨u, hu, hul⟩ : ∃ u, l = u ++ (segT (a, b) ++ v) ∧ u.length = p1 := by
      refine ⟨l.take p ++ sepB rs, by rw [List.append_assoc]; exact hv, ?_⟩
      rw [List.length_append, hlp, hp1, sepB]
      by_cases c : rs = []
      · rw [if_pos c, (h.zero c).1]; rfl
      · rw [if_neg c, if_pos (h.pos c)]; rfl
    rw [stepR, h0]
    simp only [Bool.false_eq_true, if_false, ← hp1]
    clear hv h0 hs
    rcases Nat.lt_or_ge a b with hab | hab
    · rw [segT, if_pos hab] at hu
      have n1 := num_of u (45 :: Lib.decDigits b ++ v) a (by omega) (fun c r e => .inr (by cases e; rfl))
      have n2 := num_of (u ++ Lib.decDigits a ++ [45]) v b g4 (fun c r e => .inl (hvc c r e))
      have e1 : l = u ++ (Lib.decDigits a ++ (45 :: Lib.decDigits b ++ v)) := by rw [hu]; simp
      have e2 : l = u ++ Lib.decDigits a ++ [45] ++ (Lib.decDigits b ++ v) := by rw [hu]; simp
      rw [← e1, hul] at n1
      rw [← e2, List.length_append, List.length_append, hul, List.length_singleton, ← n1.2] at n2
      have hl3 : numE l p1 < l.length := by
        rw [n1.2, e2]; simp only [List.length_append, hul, List.length_singleton]; omega
      have h45 : at8 l (numE l p1) = 45 := by
        have e := at8_app (u ++ Lib.decDigits a) (45 :: Lib.decDigits b ++ v) 0
        rw [List.append_assoc, ← e1, List.length_append, hul] at e
        rw [n1.2]
        exact e
      refine ⟨a, b, numE l (numE l p1 + 1), t, ?_, ht⟩
      rw [if_neg (by rw [n1.1]; omega), if_pos (by simp [hl3, h45]), if_neg (by rw [n1.1, n2.1]; omega), n1.1, n2.1]
      rfl
    · obtain rfl : a = b := by omega
      rw [segT, if_neg (by simp)] at hu
      have n1 := num_of u v a g4 (fun c r e => .inl (hvc c r e))
      rw [← hu, hul] at n1
      have h45 : (decide (numE l p1 < l.length) && decide (at8 l (numE l p1) = 45)) = false := by
        rw [n1.2]
        cases v with
        | nil =>
          rw [decide_eq_false]; rfl
          rw [hu]; simp [hul]
        | cons c r =>
          have hc := hvc c r rfl
          have e := at8_app (u ++ Lib.decDigits a) (c :: r) 0
          rw [List.append_assoc, ← hu, List.length_append, hul] at e
          rw [Nat.add_zero] at e
          rw [e, hc]
          simp [at8]
      refine ⟨a, a, numE l p1, t, ?_, ht⟩
      rw [if_neg (by rw [n1.1]; omega), h45, n1.1]
      rfl
theorem Rd.step {l : List UInt8} {p least a b e : Nat} {rs : List (Nat × Nat)} (h : Rd l p least rs) (hp : p < l.length) (hst : stepR l p least = some (a, b, e)) : Rd l e (b + 2) (rs ++ [(a, b)]) ∧ p < e := by
  obtain ⟨h1, h2, h3, h4, h5, h6⟩ := step_sound hst
  have hsep : (if 0 < p then [(32 : UInt8)] else []) = sepB rs := by
    rw [sepB]
    by_cases c : rs = []
    · rw [if_pos c, (h.zero c).1]; rfl
    · rw [if_neg c, if_pos (h.pos c)]
  have hg : Good 0 (rs ++ [(a, b)]) := (h.last [] a b).2 ⟨trivial, h2, h3, h4⟩
  refine ⟨⟨h5, ?_, hg, fun c => by simp at c, fun _ => by omega, fun t c d => ?_, fun s hs => ?_⟩, h6⟩
  · rw [h1, h.txt, join_snoc, hsep]
  · rw [List.append_assoc, List.singleton_append, good_snoc]
    constructor
    · rintro ⟨_, k1, k2, k3, k4⟩; exact ⟨k4, k1, k2, k3⟩
    · rintro ⟨k4, k1, k2, k3⟩; exact ⟨hg, k1, k2, k3, k4⟩
  · obtain ⟨a', b', e', t, k1, k2⟩ := h.next hp hs
    rw [hst] at k1
    cases k1
    exact ⟨t, by rw [k2]; simp⟩
theorem Rd.fail {l : List UInt8} {p least : Nat} {rs : List (Nat × Nat)} (h : Rd l p least rs) (hp : p < l.length) (hst : stepR l p least = none) : parseO l = none := by
  cases e : parseO l with
  | none => rfl
  | some s =>
    obtain ⟨a, b, e, t, k1, _⟩ := h.next hp (text_of_parse e)
    rw [hst] at k1
    cases k1
theorem Rd.done {l : List UInt8} {p least : Nat} {rs : List (Nat × Nat)} (h : Rd l p least rs) (hp : ¬ p < l.length) : parseO l = some (setB rs) := by
  rw [parse_iff, textS, segs_setB h.good, ← h.txt, List.take_of_length_le (by omega)]
end Go.Proofs.YtbcanlmpfhkklaaGreatDoor

/- The reference's numbers: Digits and number. -/

namespace Go.Proofs.YtbcanlmpfhkklaaGreatDoor
open Go.Ax
open Cel (c)
theorem qR21 {p : Prop} (h : p := by (conv => lhs; whnf); all_goals exact rfl) : p := h
theorem qR22 {p : Prop} (h : p := by first | with_reducible assumption | exact Cel.one _ | exact flat_ones _ | exact ones_nil | (simp only [List.forall_mem_cons, List.not_mem_nil, false_implies, implies_true, and_true, one_v, one_ptr, one_ip, one_sl, one_slc, one_vec, one_map, one_func, one_iface, Value.oneCell', *]; done) | (simp [AV.one, Value.oneCell', *]; done)) : p := h
theorem qR23 {p : Prop} (h : p := by simp only [List.flatMap_cons, List.flatMap_nil, cells_v, cells_any, cells_ptr, cells_ip, cells_sl, cells_vec, cells_map, cells_func, cells_agg, cells_iface, List.cons_append, List.nil_append, List.append_nil]; all_goals exact rfl) : p := h
theorem qR24 {p : Prop} (h : p := by first | omega | (simp only [za, zb, zc, zd]; omega)) : p := h
theorem qR25 {p : Prop} (h : p := by repeat' (first | exact Keep.refl _ | apply Keep.new | apply Keep.set | apply Keep.del | (first | omega | (simp only [za, zb, zc]; omega)))) : p := h
theorem qR26 {p : Prop} (h : p := by (conv => lhs; whnf); all_goals first | exact rfl | (simp; done) | (simp; omega)) : p := h
theorem qR27 {p : Prop} (h : p := by exact AStepD.lss rfl rfl rfl) : p := h
theorem qR28 {p : Prop} (h : p := by intro h; first | (rw [h]; done) | (rw [h]; rfl) | (simp [h]; done) | (simp_all; done) | exact guard_true h) : p := h
theorem qR29 {p : Prop} (h : p := by exact AStepD.geq rfl rfl rfl) : p := h
theorem qR210 {p : Prop} (h : p := by exact AStepD.leq rfl rfl rfl) : p := h
theorem qR211 {p : Prop} (h : p := by exact AStepD.assign' rfl qR21) : p := h
theorem qR212 {p : Prop} (h : p := by exact AStepD.move' rfl qR21) : p := h
theorem qR213 {p : Prop} (h : p := by first | exact AStepD.buildSlice0 tok rfl rfl rfl rfl (show _ = 1 from rfl) | exact AStepD.buildSlice1 tok rfl rfl rfl rfl (show _ = 1 from rfl) qR21 qR21 (by first | omega | (simp; done) | (simp; omega) | (simp only [over, List.length_append, List.length_take, List.length_drop, *]; omega) | (simp_all; done) | (simp_all; omega)) (by decide) qR22 | exact AStepD.buildSlice_seq tok rfl rfl rfl rfl (show _ = 1 from rfl) (map_p qR21 map_n) rfl (by decide) (by decide) rfl qR23 qR22 | exact AStepD.buildSlice tok rfl rfl rfl rfl qR21 (by decide) (by decide) rfl qR22) : p := h
theorem qR214 {p : Prop} (h : p := by first | with_reducible assumption | (simp (disch := (first | omega | (exact Lst.lab_ne (by with_reducible assumption) qR24) | (exact Lst.lab_new (by with_reducible assumption) qR24) | (refine id ?_; simp only [za, zb, zc, zd]; done) | (simp only [za, zb, zc, zd]; omega))) only [z1, z2, z3, z4, z5, z6, z7, z8, z9, ne_eq, *]; done) | (simp (disch := (first | omega | (exact Lst.lab_ne (by with_reducible assumption) qR24) | (exact Lst.lab_new (by with_reducible assumption) qR24) | (refine id ?_; simp only [za, zb, zc, zd]; done) | (simp only [za, zb, zc, zd]; omega))) only [z1, z2, z3, z4, z5, z6, z7, z8, z9, ne_eq, *]; exact rfl)) : p := h
theorem qR215 {p : Prop} (h : p := by repeat' (first | exact SubT.nil _ | refine SubT.cons_eq qR26 ?_)) : p := h
theorem qR216 {p : Prop} (h : p := by first | exact GW.yes rfl rfl rfl rfl rfl rfl rfl qR27 | exact GW.no rfl rfl rfl rfl rfl rfl rfl | exact GW.none rfl rfl rfl rfl rfl | exact GW.may rfl rfl rfl rfl rfl rfl (fun hb => by (repeat (first | apply UW.yes rfl (gpf hb) | apply UW.no)); exact UW.nil qR27) | exact GW.may2 rfl rfl rfl rfl rfl rfl (fun _ hb => by (repeat (first | apply UW.yes rfl (gpf hb) | apply UW.no)); exact UW.nil qR27)) : p := h
theorem qR217 {p : Prop} (h : p := by first | exact AStepD.pick_true' rfl rfl qR21 | exact AStepD.pick_false' rfl rfl qR21 | exact AStepD.and rfl _ _ _ rfl rfl qR28 rfl | exact AStepD.and' rfl _ _ rfl rfl rfl | exact AStepD.or rfl _ _ _ rfl rfl rfl qR28 | exact AStepD.or' rfl _ _ rfl rfl rfl) : p := h
theorem qR218 {p : Prop} (h : p := by first | exact GW.yes rfl rfl rfl rfl rfl rfl rfl qR29 | exact GW.no rfl rfl rfl rfl rfl rfl rfl | exact GW.none rfl rfl rfl rfl rfl | exact GW.may rfl rfl rfl rfl rfl rfl (fun hb => by (repeat (first | apply UW.yes rfl (gpf hb) | apply UW.no)); exact UW.nil qR29) | exact GW.may2 rfl rfl rfl rfl rfl rfl (fun _ hb => by (repeat (first | apply UW.yes rfl (gpf hb) | apply UW.no)); exact UW.nil qR29)) : p := h
theorem qR219 {p : Prop} (h : p := by first | exact GW.yes rfl rfl rfl rfl rfl rfl rfl qR210 | exact GW.no rfl rfl rfl rfl rfl rfl rfl | exact GW.none rfl rfl rfl rfl rfl | exact GW.may rfl rfl rfl rfl rfl rfl (fun hb => by (repeat (first | apply UW.yes rfl (gpf hb) | apply UW.no)); exact UW.nil qR210) | exact GW.may2 rfl rfl rfl rfl rfl rfl (fun _ hb => by (repeat (first | apply UW.yes rfl (gpf hb) | apply UW.no)); exact UW.nil qR210)) : p := h
theorem qR220 {p : Prop} (h : p := by exact SD.s rfl rfl rfl qR211) : p := h
theorem qR221 {p : Prop} (h : p := by exact SD.s rfl rfl rfl qR212) : p := h
theorem qR222 {p : Prop} (h : p := by exact (fun hb => by (repeat (first | apply UW.yes rfl (gpf hb) | apply UW.no)); exact UW.nil qR212)) : p := h
theorem qR223 {p : Prop} (h : p := by exact (fun _ hb => by (repeat (first | apply UW.yes rfl (gpf hb) | apply UW.no)); exact UW.nil qR212)) : p := h
theorem qR224 {p : Prop} (h : p := by exact SD.s rfl rfl rfl qR217) : p := h
theorem qR225 {p : Prop} (h : p := by exact (fun hb => by (repeat (first | apply UW.yes rfl (gpf hb) | apply UW.no)); exact UW.nil qR217)) : p := h
theorem qR226 {p : Prop} (h : p := by exact (fun _ hb => by (repeat (first | apply UW.yes rfl (gpf hb) | apply UW.no)); exact UW.nil qR217)) : p := h
theorem qR227 {p : Prop} (h : p := by first | exact GW.yes rfl rfl rfl rfl rfl rfl rfl qR212 | exact GW.no rfl rfl rfl rfl rfl rfl rfl | exact GW.none rfl rfl rfl rfl rfl | exact GW.may rfl rfl rfl rfl rfl rfl qR222 | exact GW.may2 rfl rfl rfl rfl rfl rfl qR223) : p := h
theorem qR228 {p : Prop} (h : p := by first | exact GW.yes rfl rfl rfl rfl rfl rfl rfl qR217 | exact GW.no rfl rfl rfl rfl rfl rfl rfl | exact GW.none rfl rfl rfl rfl rfl | exact GW.may rfl rfl rfl rfl rfl rfl qR225 | exact GW.may2 rfl rfl rfl rfl rfl rfl qR226) : p := h
set_option linter.unusedSimpArgs false
set_option linter.unusedVariables false
open Cel (c)

theorem strA_len {P : Program} {o : Oper} {T : Fr} {H : AHeap} {TT : Nat → TI} (hT : TOk P TT) {t : TypeId} {x : Operand} {l : List UInt8} (ho : o.op = .call { callee := .builtin .len, args := #[x], argTypes := #[t] }) (hx : aev T x = strA l) (hok : (TT t).ok = true) (hu : (TT t).und = .string) : AStepD P o T H (.v (.int .i64 (l.length : Nat))) H :=
  AStepD.val (AStepD.len_str hT ho hx hok hu) (by rw [str_size])
theorem strA_index {P : Program} {o : Oper} {T : Fr} {H : AHeap} {TT : Nat → TI} (hT : TOk P TT) {t : TypeId} {x y : Operand} {l : List UInt8} {i : Nat} {k : IntKind} {j : Int} (ho : o.op = .index t x y) (hx : aev T x = strA l) (hy : aev T y = .v (.int k j)) (hok : (TT t).ok = true) (hu : (TT t).und = .string) (hj : j = (i : Nat)) (hi : i < l.length) : AStepD P o T H (.v (.int .u8 (at8 l i : Nat))) H :=
  AStepD.val (AStepD.index_str hT ho hx hy hok hu hj (by rw [str_size]; exact hi)) (by
    rw [at8, List.getD_eq_getElem?_getD, List.getElem?_eq_getElem hi]
    rfl)

theorem u8n {n : Nat} (h : n < 256) : ((UInt8.ofNat n).toNat : Int) = (n : Nat) := by
  rw [UInt8.toNat_ofNat_of_lt' h]
theorem div10 (i : Nat) : Int.tdiv (i : Int) 10 = ((i / 10 : Nat) : Int) := by rw [show (10 : Int) = ((10 : Nat) : Int) from rfl, ← Int.ofNat_tdiv]
theorem mod10 (i : Nat) : Int.tmod (i : Int) 10 = ((i % 10 : Nat) : Int) := by rw [show (10 : Int) = ((10 : Nat) : Int) from rfl, ← Int.ofNat_tmod]
theorem digit_calls (H : AHeap) (i : Nat) (hi : i < 10) : ACalls Tryz.prog 41 [.v (.int .i64 (i : Nat))] H (fun r H' => r = strA (Lib.decDigits i) ∧ H' = H) := by
  refine ACalls.quiet_keep ?_ (.v _)
  refine ACalls.of_body tok Tryz.func41 rfl Tryz.ntmps41 (Nat.le_of_ble_eq_true rfl) (fun base => ?_)
  refine rg fun K hK => ?_
  refine st qR220 <| nt (hK _ _ ?_)
  clear hK K
  refine AW.seq_k (fun K1 hK1 => ?_)
  refine rg fun K hK => ?_
  refine st qR221 <| st (by exact SD.s rfl rfl rfl (by exact AStepD.bool (AStepD.lss rfl rfl rfl) (c := true) (by simp; omega))) <| nt (hK _ _ ?_)
  clear hK K
  refine AW.cond_true rfl rfl ?_
  refine rg fun K hK => ?_
  refine st qR221 <| st (by exact SD.s rfl rfl rfl (by first | exact AStepD.add rfl rfl rfl (by first | exact IntWalk.i64_in _ (by omega) | exact IntWalk.i64_in _ (by simp only [Bool.or_eq_true, Bool.and_eq_true, Bool.or_eq_false_iff, Bool.and_eq_false_iff, Bool.not_eq_true', Bool.not_eq_false', decide_eq_true_eq, decide_eq_false_iff_not, Int.not_lt, Int.not_le, beq_iff_eq] at *; omega) | exact rfl) | exact AStepD.str_add rfl rfl rfl (by omega))) <| st (by exact SD.s rfl rfl rfl (by exact AStepD.convert_int (r := ((48 + i : Nat) : Int)) tok rfl rfl rfl rfl rfl (by show IntKind.u8.wrap (48 + (i : Int)) = _; exact IntWalk.u8_in _ (by omega)))) <| st (by exact SD.s rfl rfl rfl qR213) <| st (by exact SD.s rfl rfl rfl (by exact AStepD.val (AStepD.bytes_str (bs := [UInt8.ofNat (48 + i)]) tok rfl rfl (Src.sl qR214 (Nat.le_refl _)) (by rw [List.map_cons, List.map_nil, u8n (by omega)]; rfl) rfl rfl rfl rfl rfl rfl rfl) rfl)) <| st qR220 <| nt (hK _ _ ?_)
  clear hK K
  refine AW.ret (RetQ.mk (.inr rfl) (retA_tmp rfl qR21 retA_nil) ⟨?_, qR25⟩)
  rw [dec_eq i (by omega), if_pos hi]; rfl
theorem digits_calls (H : AHeap) (i : Nat) (hi : i < 100) : ACalls Tryz.prog 41 [.v (.int .i64 (i : Nat))] H (fun r H' => r = strA (Lib.decDigits i) ∧ H' = H) := by
  rcases Nat.lt_or_ge i 10 with h | h
  · exact digit_calls H i h
  refine ACalls.quiet_keep ?_ (.v _)
  have hl1 := dec_len (i / 10) (by omega)
  have hl2 := dec_len (i % 10) (by omega)
  have hj := dec_eq i hi
  refine ACalls.of_body tok Tryz.func41 rfl Tryz.ntmps41 (Nat.le_of_ble_eq_true rfl) (fun base => ?_)
  refine rg fun K hK => ?_
  refine st qR220 <| nt (hK _ _ ?_)
  clear hK K
  refine AW.seq_k (fun K1 hK1 => ?_)
  refine rg fun K hK => ?_
  refine st qR221 <| st (by exact SD.s rfl rfl rfl (by exact AStepD.bool (AStepD.lss rfl rfl rfl) (c := false) (by simp; omega))) <| nt (hK _ _ ?_)
  clear hK K
  refine AW.cond_false rfl rfl (AW.skip ?_)
  refine hK1 _ _ ?_; try clear hK1 K1
  refine rg fun K hK => ?_
  refine st qR221 <| st (by exact SD.s rfl rfl rfl (by exact AStepD.quo (r := ((i / 10 : Nat) : Int)) rfl rfl rfl (by omega) (by rw [div10]; exact IntWalk.i64_in _ (by omega)))) <| st (by exact SD.s rfl rfl rfl (by exact AStepD.callf rfl en41 rfl (digit_calls _ (i / 10) (by omega)))) <| st qR221 <| st (by exact SD.s rfl rfl rfl (by exact AStepD.rem (r := ((i % 10 : Nat) : Int)) rfl rfl rfl (by omega) (mod10 i))) <| st (by exact SD.s rfl rfl rfl (by exact AStepD.callf rfl en41 rfl (digit_calls _ (i % 10) (by omega)))) <| st (by exact SD.s rfl rfl rfl (by exact strA_add (Lib.decDigits (i / 10)) (Lib.decDigits (i % 10)) rfl rfl rfl (by omega))) <| st qR220 <| nt (hK _ _ ?_)
  clear hK K
  refine AW.ret (RetQ.mk (.inr rfl) (retA_tmp rfl qR21 retA_nil) ⟨?_, qR25⟩)
  have e1 := dec_eq (i / 10) (by omega)
  have e2 := dec_eq (i % 10) (by omega)
  rw [if_pos (by omega)] at e1 e2
  rw [if_neg (by omega)] at hj
  rw [hj, e1, e2]; rfl

set_option maxHeartbeats 2000000 in
theorem number_calls (H : AHeap) (l : List UInt8) (p : Nat) (hl : l.length ≤ 1000000) (hp : p ≤ l.length) : ACalls Tryz.prog 89 [strA l, .v (.int .i64 (p : Nat))] H (fun r H' => r = .tup [.v (.int .i64 (numV l p)), .v (.int .i64 (numE l p : Nat))] ∧ H' = H) := by
  refine ACalls.quiet_keep ?_ (.tup (by simp only [List.forall_mem_cons]; exact ⟨.v _, .v _, fun _ h => absurd h List.not_mem_nil⟩))
  refine ACalls.of_body tok Tryz.func89 rfl Tryz.ntmps89 (Nat.le_of_ble_eq_true rfl) (fun base => ?_)
  refine rg fun K hK => ?_
  refine st qR220 <| st qR220 <| nt (hK _ _ ?_)
  clear hK K
  refine rg fun K hK => ?_
  refine st qR220 <| nt (hK _ _ ?_)
  clear hK K
  refine rg fun K hK => ?_
  refine st qR221 <| st qR220 <| nt (hK _ _ ?_)
  clear hK K
  refine AW.seq_k (fun K1 hK1 => ?_)
  refine AW.block ?_
  refine AW.loop_at (ι := Nat) (fun k => [(7, .v (.int .i64 ((p + k : Nat) : Int))), (6, .v (.int .i64 (accN l p k : Nat))), (1, .v (.int .i64 (p : Nat))), (0, strA l)])
    (fun k H' => k ≤ 2 ∧ (∀ j, j < k → digB l (p + j) = true) ∧ accN l p k < 10 ^ k ∧ Keep H H') (fun k => 2 - k) 0 qR215 ⟨by omega, fun j h => by omega, by simp [accN], qR25⟩ ?_
  rintro k H2 ⟨hk, hd, ha, hk2⟩
  refine AW.seq_k (fun K2 hK2 => ?_)
  refine rg fun K hK => ?_
  refine st qR221 <| st qR221 <| st (by exact SD.s rfl rfl rfl (by exact strA_len tok rfl rfl rfl rfl)) <| st (by exact SD.s rfl rfl rfl qR27) <| st qR221 <| st (GW.p (l := [7]) qR227) <| st (GW.p (l := [1]) qR227) <| st (GW.p (l := [15]) (by first | exact GW.yes rfl rfl rfl rfl rfl rfl rfl (by first | exact AStepD.add rfl rfl rfl (by first | exact IntWalk.i64_in _ (by omega) | exact IntWalk.i64_in _ (by simp only [Bool.or_eq_true, Bool.and_eq_true, Bool.or_eq_false_iff, Bool.and_eq_false_iff, Bool.not_eq_true', Bool.not_eq_false', decide_eq_true_eq, decide_eq_false_iff_not, Int.not_lt, Int.not_le, beq_iff_eq] at *; omega) | exact rfl) | exact AStepD.str_add rfl rfl rfl (by omega)) | exact GW.no rfl rfl rfl rfl rfl rfl rfl | exact GW.none rfl rfl rfl rfl rfl | exact GW.may rfl rfl rfl rfl rfl rfl (fun hb => by (repeat (first | apply UW.yes rfl (gpf hb) | apply UW.no)); exact UW.nil (by first | exact AStepD.add rfl rfl rfl (by first | exact IntWalk.i64_in _ (by omega) | exact IntWalk.i64_in _ (by simp only [Bool.or_eq_true, Bool.and_eq_true, Bool.or_eq_false_iff, Bool.and_eq_false_iff, Bool.not_eq_true', Bool.not_eq_false', decide_eq_true_eq, decide_eq_false_iff_not, Int.not_lt, Int.not_le, beq_iff_eq] at *; omega) | exact rfl) | exact AStepD.str_add rfl rfl rfl (by omega))) | exact GW.may2 rfl rfl rfl rfl rfl rfl (fun _ hb => by (repeat (first | apply UW.yes rfl (gpf hb) | apply UW.no)); exact UW.nil (by first | exact AStepD.add rfl rfl rfl (by first | exact IntWalk.i64_in _ (by omega) | exact IntWalk.i64_in _ (by simp only [Bool.or_eq_true, Bool.and_eq_true, Bool.or_eq_false_iff, Bool.and_eq_false_iff, Bool.not_eq_true', Bool.not_eq_false', decide_eq_true_eq, decide_eq_false_iff_not, Int.not_lt, Int.not_le, beq_iff_eq] at *; omega) | exact rfl) | exact AStepD.str_add rfl rfl rfl (by omega))))) <| st (GW.p (l := [14, 16]) qR216) <| st qR224 <| st qR221 <| st (GW.p (l := [0]) qR227) <| st (GW.p (l := [7]) qR227) <| st (GW.p (l := [20, 21]) (by first | exact GW.yes rfl rfl rfl rfl rfl rfl rfl (by exact strA_index (i := p + k) tok rfl rfl rfl rfl rfl rfl (by simp only [Bool.and_eq_true, decide_eq_true_eq] at hb; omega)) | exact GW.no rfl rfl rfl rfl rfl rfl rfl | exact GW.none rfl rfl rfl rfl rfl | exact GW.may rfl rfl rfl rfl rfl rfl (fun hb => by (repeat (first | apply UW.yes rfl (gpf hb) | apply UW.no)); exact UW.nil (by exact strA_index (i := p + k) tok rfl rfl rfl rfl rfl rfl (by simp only [Bool.and_eq_true, decide_eq_true_eq] at hb; omega))) | exact GW.may2 rfl rfl rfl rfl rfl rfl (fun _ hb => by (repeat (first | apply UW.yes rfl (gpf hb) | apply UW.no)); exact UW.nil (by exact strA_index (i := p + k) tok rfl rfl rfl rfl rfl rfl (by simp only [Bool.and_eq_true, decide_eq_true_eq] at hb; omega))))) <| st (GW.p (l := [22]) qR218) <| st qR224 <| st qR221 <| st (GW.p (l := [0]) qR227) <| st (GW.p (l := [7]) qR227) <| st (GW.p (l := [26, 27]) (by first | exact GW.yes rfl rfl rfl rfl rfl rfl rfl (by exact strA_index (i := p + k) tok rfl rfl rfl rfl rfl rfl (by simp only [Bool.and_eq_true, decide_eq_true_eq] at hb; omega)) | exact GW.no rfl rfl rfl rfl rfl rfl rfl | exact GW.none rfl rfl rfl rfl rfl | exact GW.may rfl rfl rfl rfl rfl rfl (fun hb => by (repeat (first | apply UW.yes rfl (gpf hb) | apply UW.no)); exact UW.nil (by exact strA_index (i := p + k) tok rfl rfl rfl rfl rfl rfl (by simp only [Bool.and_eq_true, decide_eq_true_eq] at hb; omega))) | exact GW.may2 rfl rfl rfl rfl rfl rfl (fun _ hb => by (repeat (first | apply UW.yes rfl (gpf hb) | apply UW.no)); exact UW.nil (by exact strA_index (i := p + k) tok rfl rfl rfl rfl rfl rfl (by simp only [Bool.and_eq_true, decide_eq_true_eq] at hb; omega))))) <| st (GW.p (l := [28]) qR219) <| st qR224 <| nt (hK _ _ ?_)
  clear hK K
  refine AW.cond _ rfl (fun hc => ?_) (fun hc => ?_)
  · simp only [Bool.and_eq_true, decide_eq_true_eq] at hc
    have hk1 : k < 2 := by omega
    have hlt : p + k < l.length := by omega
    have hdig : digB l (p + k) = true := by simp only [digB, Bool.and_eq_true, decide_eq_true_eq]; omega
    obtain ⟨_, d1, d2⟩ := dig_of hdig
    have hak : accN l p k ≤ 9 := by
      rcases (show k = 0 ∨ k = 1 by omega) with rfl | rfl <;> omega
    clear hc
    refine AW.skip ?_
    refine hK2 _ _ ?_; try clear hK2 K2
    refine AW.block ?_
    refine rg fun K hK => ?_
    refine st qR221 <| st (by exact SD.s rfl rfl rfl (by exact AStepD.mul (r := ((10 * accN l p k : Nat) : Int)) rfl rfl rfl (by rw [Int.natCast_mul]; exact IntWalk.i64_in _ (by omega)))) <| st qR221 <| st qR221 <| st (by exact SD.s rfl rfl rfl (by exact strA_index (i := p + k) tok rfl rfl rfl rfl rfl rfl hlt)) <| st (by exact SD.s rfl rfl rfl (by exact AStepD.sub (r := ((at8 l (p + k) - 48 : Nat) : Int)) rfl rfl rfl (by rw [Int.ofNat_sub d1]; exact IntWalk.u8_in _ (by omega)))) <| st (by exact SD.s rfl rfl rfl (by exact AStepD.convert_int (r := ((at8 l (p + k) - 48 : Nat) : Int)) tok rfl rfl rfl rfl rfl (IntWalk.i64_in _ (by omega)))) <| st (by exact SD.s rfl rfl rfl (by exact AStepD.add (r := ((accN l p (k + 1) : Nat) : Int)) rfl rfl rfl (by rw [accN, Int.natCast_add]; exact IntWalk.i64_in _ (by omega)))) <| st qR220 <| nt (hK _ _ ?_)
    clear hK K
    refine AW.region ?_
    refine st qR221 <| st (by exact SD.s rfl rfl rfl (by exact AStepD.add (r := ((p + (k + 1) : Nat) : Int)) rfl rfl rfl (by rw [show ((p + k : Nat) : Int) + 1 = ((p + (k + 1) : Nat) : Int) by omega]; exact IntWalk.i64_in _ (by omega)))) <| st qR220 <| AL.nil ?_
    refine ⟨k + 1, by omega, qR215, by omega, fun j hj => ?_, ?_, hk2⟩
    · rcases Nat.lt_or_ge j k with h | h
      · exact hd j h
      · obtain rfl : j = k := by omega
        exact hdig
    · rw [accN, Nat.pow_succ]
      omega
  · have hcnt : cntN l p = k := cnt_of hk hd fun h2 => by
      cases e : digB l (p + k) with
      | false => rfl
      | true =>
        obtain ⟨d0, d1, d2⟩ := dig_of e
        have : (decide (((p + k : Nat) : Int) < (l.length : Nat)) && decide (((p + k : Nat) : Int) < (p : Int) + 2) && decide ((48 : Int) ≤ (at8 l (p + k) : Nat)) && decide ((at8 l (p + k) : Nat) ≤ (57 : Int))) = true := by
          simp only [Bool.and_eq_true, decide_eq_true_eq]; omega
        rw [hc] at this
        cases this
    have hacc : accN l p k < 100 := Nat.lt_of_lt_of_le ha (Nat.pow_le_pow_right (n := 10) (by omega) hk)
    have hV : numV l p = if numBad l p then (-1 : Int) else ((accN l p k : Nat) : Int) := by rw [numV, hcnt]
    have hE : numE l p = if numBad l p then p else p + k := by rw [numE, hcnt]
    have hB : numBad l p = (decide (k = 0) || decide (63 < accN l p k) || (!decide (k = 0) && decide (at8 l p = 48) && decide (1 < k))) := by
      rw [numBad, hcnt, ← decide_not]
      congr 3
      exact decide_eq_decide.2 (by omega)
    have hlen : 0 < k → p < l.length := fun h => by
      have := dig_of (hd 0 h)
      omega
    clear hc hcnt ha
    generalize accN l p k = acc at *
    refine AW.exit ?_
    refine hK1 _ _ ?_; try clear hK1 K1
    have e1 : decide (((p + k : Nat) : Int) = (p : Nat)) = decide (k = 0) := decide_eq_decide.2 (by omega)
    have e2 : decide ((acc : Nat) > (63 : Int)) = decide (63 < acc) := decide_eq_decide.2 (by omega)
    have e3 : decide (((p + k : Nat) : Int) > (p : Nat)) = !decide (k = 0) := by rw [← decide_not]; exact decide_eq_decide.2 (by omega)
    have e4 : decide ((at8 l p : Nat) = (48 : Int)) = decide (at8 l p = 48) := decide_eq_decide.2 (by omega)
    have e5 : decide (((p + k : Nat) : Int) > (p : Int) + 1) = decide (1 < k) := decide_eq_decide.2 (by omega)
    have e6 : decide (k = 0) = false → p < l.length := fun h => hlen (by have := of_decide_eq_false h; omega)
    generalize decide (k = 0) = b1 at e1 e3 e6 hB
    generalize decide (63 < acc) = b2 at e2 hB
    generalize decide (at8 l p = 48) = b4 at e4 hB
    generalize decide (1 < k) = b5 at e5 hB
    clear hlen hd hacc
    cases b1 <;> cases b2 <;> cases b4 <;> cases b5
    all_goals
      refine AW.seq_k (fun K3 hK3 => ?_)
      refine rg fun K hK => ?_
      refine st qR221 <| st qR221 <| st (by exact SD.s rfl rfl rfl (by exact AStepD.bool (AStepD.eql rfl rfl rfl) e1)) <| st qR221 <| st (GW.p (l := [6]) qR227) <| st (GW.p (l := [45]) (by first | exact GW.yes rfl rfl rfl rfl rfl rfl rfl (by exact AStepD.bool (AStepD.gtr rfl rfl rfl) e2) | exact GW.no rfl rfl rfl rfl rfl rfl rfl | exact GW.none rfl rfl rfl rfl rfl | exact GW.may rfl rfl rfl rfl rfl rfl (fun hb => by (repeat (first | apply UW.yes rfl (gpf hb) | apply UW.no)); exact UW.nil (by exact AStepD.bool (AStepD.gtr rfl rfl rfl) e2)) | exact GW.may2 rfl rfl rfl rfl rfl rfl (fun _ hb => by (repeat (first | apply UW.yes rfl (gpf hb) | apply UW.no)); exact UW.nil (by exact AStepD.bool (AStepD.gtr rfl rfl rfl) e2)))) <| st qR224 <| st qR221 <| st (GW.p (l := [7]) qR227) <| st (GW.p (l := [1]) qR227) <| st (GW.p (l := [49, 50]) (by first | exact GW.yes rfl rfl rfl rfl rfl rfl rfl (by exact AStepD.bool (AStepD.gtr rfl rfl rfl) e3) | exact GW.no rfl rfl rfl rfl rfl rfl rfl | exact GW.none rfl rfl rfl rfl rfl | exact GW.may rfl rfl rfl rfl rfl rfl (fun hb => by (repeat (first | apply UW.yes rfl (gpf hb) | apply UW.no)); exact UW.nil (by exact AStepD.bool (AStepD.gtr rfl rfl rfl) e3)) | exact GW.may2 rfl rfl rfl rfl rfl rfl (fun _ hb => by (repeat (first | apply UW.yes rfl (gpf hb) | apply UW.no)); exact UW.nil (by exact AStepD.bool (AStepD.gtr rfl rfl rfl) e3)))) <| st (GW.p (l := [51]) qR227) <| st (GW.p (l := [0]) qR227) <| st (GW.p (l := [1]) qR227) <| st (GW.p (l := [53, 54]) (by first | exact GW.yes rfl rfl rfl rfl rfl rfl rfl (by exact strA_index (i := p) tok rfl rfl rfl rfl rfl rfl (e6 rfl)) | exact GW.no rfl rfl rfl rfl rfl rfl rfl | exact GW.none rfl rfl rfl rfl rfl | exact GW.may rfl rfl rfl rfl rfl rfl (fun hb => by (repeat (first | apply UW.yes rfl (gpf hb) | apply UW.no)); exact UW.nil (by exact strA_index (i := p) tok rfl rfl rfl rfl rfl rfl (e6 rfl))) | exact GW.may2 rfl rfl rfl rfl rfl rfl (fun _ hb => by (repeat (first | apply UW.yes rfl (gpf hb) | apply UW.no)); exact UW.nil (by exact strA_index (i := p) tok rfl rfl rfl rfl rfl rfl (e6 rfl))))) <| st (GW.p (l := [55]) (by first | exact GW.yes rfl rfl rfl rfl rfl rfl rfl (by exact AStepD.bool (AStepD.eql rfl rfl rfl) e4) | exact GW.no rfl rfl rfl rfl rfl rfl rfl | exact GW.none rfl rfl rfl rfl rfl | exact GW.may rfl rfl rfl rfl rfl rfl (fun hb => by (repeat (first | apply UW.yes rfl (gpf hb) | apply UW.no)); exact UW.nil (by exact AStepD.bool (AStepD.eql rfl rfl rfl) e4)) | exact GW.may2 rfl rfl rfl rfl rfl rfl (fun _ hb => by (repeat (first | apply UW.yes rfl (gpf hb) | apply UW.no)); exact UW.nil (by exact AStepD.bool (AStepD.eql rfl rfl rfl) e4)))) <| st (GW.p (l := [52, 56]) qR228) <| st (GW.p (l := [57]) qR227) <| st (GW.p (l := [7]) qR227) <| st (GW.p (l := [1]) qR227) <| st (GW.p (l := [60]) (by first | exact GW.yes rfl rfl rfl rfl rfl rfl rfl (by first | exact AStepD.add rfl rfl rfl (by first | exact IntWalk.i64_in _ (by omega) | exact IntWalk.i64_in _ (by simp only [Bool.or_eq_true, Bool.and_eq_true, Bool.or_eq_false_iff, Bool.and_eq_false_iff, Bool.not_eq_true', Bool.not_eq_false', decide_eq_true_eq, decide_eq_false_iff_not, Int.not_lt, Int.not_le, beq_iff_eq] at *; omega) | exact rfl) | exact AStepD.str_add rfl rfl rfl (by omega)) | exact GW.no rfl rfl rfl rfl rfl rfl rfl | exact GW.none rfl rfl rfl rfl rfl | exact GW.may rfl rfl rfl rfl rfl rfl (fun hb => by (repeat (first | apply UW.yes rfl (gpf hb) | apply UW.no)); exact UW.nil (by first | exact AStepD.add rfl rfl rfl (by first | exact IntWalk.i64_in _ (by omega) | exact IntWalk.i64_in _ (by simp only [Bool.or_eq_true, Bool.and_eq_true, Bool.or_eq_false_iff, Bool.and_eq_false_iff, Bool.not_eq_true', Bool.not_eq_false', decide_eq_true_eq, decide_eq_false_iff_not, Int.not_lt, Int.not_le, beq_iff_eq] at *; omega) | exact rfl) | exact AStepD.str_add rfl rfl rfl (by omega))) | exact GW.may2 rfl rfl rfl rfl rfl rfl (fun _ hb => by (repeat (first | apply UW.yes rfl (gpf hb) | apply UW.no)); exact UW.nil (by first | exact AStepD.add rfl rfl rfl (by first | exact IntWalk.i64_in _ (by omega) | exact IntWalk.i64_in _ (by simp only [Bool.or_eq_true, Bool.and_eq_true, Bool.or_eq_false_iff, Bool.and_eq_false_iff, Bool.not_eq_true', Bool.not_eq_false', decide_eq_true_eq, decide_eq_false_iff_not, Int.not_lt, Int.not_le, beq_iff_eq] at *; omega) | exact rfl) | exact AStepD.str_add rfl rfl rfl (by omega))))) <| st (GW.p (l := [59, 61]) (by first | exact GW.yes rfl rfl rfl rfl rfl rfl rfl (by exact AStepD.bool (AStepD.gtr rfl rfl rfl) e5) | exact GW.no rfl rfl rfl rfl rfl rfl rfl | exact GW.none rfl rfl rfl rfl rfl | exact GW.may rfl rfl rfl rfl rfl rfl (fun hb => by (repeat (first | apply UW.yes rfl (gpf hb) | apply UW.no)); exact UW.nil (by exact AStepD.bool (AStepD.gtr rfl rfl rfl) e5)) | exact GW.may2 rfl rfl rfl rfl rfl rfl (fun _ hb => by (repeat (first | apply UW.yes rfl (gpf hb) | apply UW.no)); exact UW.nil (by exact AStepD.bool (AStepD.gtr rfl rfl rfl) e5)))) <| st (GW.p (l := [58, 62]) qR228) <| st qR224 <| nt (hK _ _ ?_)
      clear hK K
      refine AW.cond _ rfl (fun hc => ?_) (fun hc => ?_)
      · first
        | cases hc; done
        | skip
          refine rg fun K hK => ?_
          refine st qR221 <| st qR220 <| st qR220 <| nt (hK _ _ ?_)
          clear hK K
          refine AW.ret (RetQ.mk (.inr rfl) (retA_tmp rfl qR21 (retA_tmp rfl qR21 retA_nil)) ⟨?_, hk2⟩)
          rw [hV, hE, hB]; rfl
      · first
        | cases hc; done
        | refine AW.skip ?_
          refine hK3 _ _ ?_; try clear hK3 K3
          refine rg fun K hK => ?_
          refine st qR221 <| st qR221 <| st qR220 <| st qR220 <| nt (hK _ _ ?_)
          clear hK K
          refine AW.ret (RetQ.mk (.inr rfl) (retA_tmp rfl qR21 (retA_tmp rfl qR21 retA_nil)) ⟨?_, hk2⟩)
          rw [hV, hE, hB]; rfl
end Go.Proofs.YtbcanlmpfhkklaaGreatDoor

/- The reference's flags: Flags and Set. -/

namespace Go.Proofs.YtbcanlmpfhkklaaGreatDoor
open Go.Ax
open Cel (c)
set_option linter.unusedSimpArgs false
set_option linter.unusedVariables false
open Cel (c)

instance : Cel Bool := ⟨1, fun n => [.v (.bool n)], fun _ => rfl, fun _ z hz => (by simp only [List.mem_singleton] at hz; subst hz; rfl), fun _ z hz => (by simp only [List.mem_singleton] at hz; subst hz; exact .v _)⟩
def flF (f : Nat → Bool) : List Bool := (List.range 64).map f
theorem flF_len (f : Nat → Bool) : (flF f).length = 64 := by simp [flF]
theorem flF_get (f : Nat → Bool) (i : Nat) (h : i < 64) : (flF f)[i]'(by rw [flF_len]; exact h) = f i := by simp [flF]
theorem row_len (f : Nat → Bool) : (flat (flF f)).length = 64 := by rw [flat_length, flF_len]; rfl
theorem flF_congr {f g : Nat → Bool} (h : ∀ i, i < 64 → f i = g i) : flF f = flF g := List.map_congr_left fun i hi => h i (by simpa using hi)
theorem flF_zero : AV.ofV (tt 75).zero = flat (flF fun _ => false) := by kernel_rfl
theorem flF_set (f g : Nat → Bool) (i : Nat) (b : Bool) (h : i < 64) (h1 : g i = b) (h2 : ∀ j, j < 64 → j ≠ i → g j = f j) : over (flat (flF f)) i [.v (.bool b)] = flat (flF g) := by
  have := over_flat (flF f) i 0 (by rw [flF_len]; exact h) [.v (.bool b)] b (Nat.le_refl 1) rfl
  rw [show i * Cel.n Bool + 0 = i from Nat.mul_one i] at this
  rw [this]
  congr 1
  apply List.ext_getElem
  · simp [flF]
  · intro j h3 h4
    have hj : j < 64 := by simpa [flF] using h4
    rw [flF_get _ _ hj, List.getElem_set]
    split
    · rename_i e; subst e; exact h1.symm
    · rename_i e; rw [flF_get _ _ hj, h2 j hj (fun e2 => e e2.symm)]
theorem flF_put (f g : Nat → Bool) (i : Nat) (b : Bool) (h : i < 64) (h1 : g i = b) (h2 : ∀ j, j < 64 → j ≠ i → g j = f j) : List.take (i * 1) (flat (flF f)) ++ [.v (.bool b)] ++ List.drop (i * 1 + 1) (flat (flF f)) = flat (flF g) := by
  rw [Nat.mul_one]
  exact flF_set f g i b h h1 h2
theorem flF_at (f : Nat → Bool) (i : Nat) (h : i < 64) : ((flat (flF f)).drop (i * 1)).take 1 = [.v (.bool (f i))] := by
  have e := flat_at (flF f) i (by rw [flF_len]; exact h)
  rw [flF_get _ _ h] at e
  exact e
abbrev flA (s : BitVec 64) : AV := .agg (flat (flF s.getLsbD))
theorem flA_plain (s : BitVec 64) : Plain (flA s) := .agg (flat_plain _)
end Go.Proofs.YtbcanlmpfhkklaaGreatDoor

/- The reference's Text. -/

namespace Go.Proofs.YtbcanlmpfhkklaaGreatDoor
open Go.Ax
open Cel (c)
theorem qR41 {p : Prop} (h : p := by first | exact rfl | exact (Int.toNat_of_nonneg (by omega)).symm) : p := h
theorem qR42 {p : Prop} (h : p := by first | omega | (simp; done) | (simp; omega) | (simp only [over, List.length_append, List.length_take, List.length_drop, *]; omega) | (simp_all; done) | (simp_all; omega)) : p := h
theorem qR43 {p : Prop} (h : p := by first | (simp only [Nat.zero_add, Nat.zero_mul, Nat.sub_zero, Nat.add_zero]; exact rfl) | exact rfl) : p := h
theorem qR44 {p : Prop} (h : p := by first | with_reducible assumption | exact rfl) : p := h
theorem qR45 {p : Prop} (h : p := by exact AStepD.gtr rfl rfl rfl) : p := h
theorem qR46 {p : Prop} (h : p := by first | exact AStepD.indexAddr_flat tok rfl rfl rfl rfl rfl rfl rfl (show _ = 1 from rfl) rfl qR41 qR42 | exact AStepD.indexAddr_vec' tok rfl rfl rfl rfl rfl rfl (show _ = 1 from rfl) qR41 qR42 | exact AStepD.indexAddr_sl' tok rfl rfl rfl rfl rfl rfl (show _ = 1 from rfl) qR41 qR42 qR43 | exact AStepD.indexAddr_arr' tok rfl rfl rfl rfl rfl rfl (show _ = 1 from rfl) qR41 qR42 qR43) : p := h
theorem qR47 {p : Prop} (h : p := by first | exact AStepD.load_one tok rfl rfl rfl rfl qR214 rfl qR44 | exact AStepD.load_one_ip tok rfl rfl rfl rfl rfl qR44) : p := h
theorem qR48 {p : Prop} (h : p := by first | exact GW.yes rfl rfl rfl rfl rfl rfl rfl qR45 | exact GW.no rfl rfl rfl rfl rfl rfl rfl | exact GW.none rfl rfl rfl rfl rfl | exact GW.may rfl rfl rfl rfl rfl rfl (fun hb => by (repeat (first | apply UW.yes rfl (gpf hb) | apply UW.no)); exact UW.nil qR45) | exact GW.may2 rfl rfl rfl rfl rfl rfl (fun _ hb => by (repeat (first | apply UW.yes rfl (gpf hb) | apply UW.no)); exact UW.nil qR45)) : p := h
theorem qR49 {p : Prop} (h : p := by exact (fun hb => by (repeat (first | apply UW.yes rfl (gpf hb) | apply UW.no)); exact UW.nil qR46)) : p := h
theorem qR410 {p : Prop} (h : p := by exact (fun _ hb => by (repeat (first | apply UW.yes rfl (gpf hb) | apply UW.no)); exact UW.nil qR46)) : p := h
theorem qR411 {p : Prop} (h : p := by exact (fun hb => by (repeat (first | apply UW.yes rfl (gpf hb) | apply UW.no)); exact UW.nil qR47)) : p := h
theorem qR412 {p : Prop} (h : p := by exact (fun _ hb => by (repeat (first | apply UW.yes rfl (gpf hb) | apply UW.no)); exact UW.nil qR47)) : p := h
theorem qR413 {p : Prop} (h : p := by exact SD.s rfl rfl rfl qR46) : p := h
theorem qR414 {p : Prop} (h : p := by first | exact GW.yes rfl rfl rfl rfl rfl rfl rfl qR46 | exact GW.no rfl rfl rfl rfl rfl rfl rfl | exact GW.none rfl rfl rfl rfl rfl | exact GW.may rfl rfl rfl rfl rfl rfl qR49 | exact GW.may2 rfl rfl rfl rfl rfl rfl qR410) : p := h
theorem qR415 {p : Prop} (h : p := by first | exact GW.yes rfl rfl rfl rfl rfl rfl rfl qR47 | exact GW.no rfl rfl rfl rfl rfl rfl rfl | exact GW.none rfl rfl rfl rfl rfl | exact GW.may rfl rfl rfl rfl rfl rfl qR411 | exact GW.may2 rfl rfl rfl rfl rfl rfl qR412) : p := h
set_option linter.unusedSimpArgs false
set_option linter.unusedVariables false
open Cel (c)

structure Wr (f : Nat → Bool) (i j : Nat) (pre : List (Nat × Nat)) : Prop where
  le : i ≤ j
  top : j ≤ 64
  ins : i < j → 0 < i ∧ f (i - 1) = true ∧ (∀ k, i ≤ k → k < j → f k = true) ∧ f j = false
  out : i = j → i = 0 ∨ f (i - 1) = false ∨ f i = false
  all : pre ++ segs f (64 - j) = segs f 64
theorem Wr.start (f : Nat → Bool) : Wr f 0 0 [] := ⟨Nat.le_refl _, by omega, fun h => by omega, fun _ => .inl rfl, rfl⟩
theorem Wr.pass {f : Nat → Bool} {i j : Nat} {pre : List (Nat × Nat)} (h : Wr f i j pre) (hi : i < 64) (hs : f i = false ∨ (0 < i ∧ f (i - 1) = true)) : ∃ j', Wr f (i + 1) j' pre := by
  rcases Nat.lt_or_ge i j with hij | hij
  · obtain ⟨h1, h2, h3, h4⟩ := h.ins hij
    refine ⟨j, by omega, h.top, fun h5 => ⟨by omega, h3 i (Nat.le_refl _) hij, fun k k1 k2 => h3 k (by omega) k2, h4⟩, fun h5 => .inr (.inr (h5 ▸ h4)), h.all⟩
  · obtain rfl : i = j := by have := h.le; omega
    have hf : f i = false := by
      rcases hs with hs | ⟨hs1, hs2⟩
      · exact hs
      · rcases h.out rfl with h1 | h1 | h1
        · omega
        · rw [h1] at hs2; cases hs2
        · exact h1
    exact ⟨i + 1, Nat.le_refl _, by omega, fun h5 => by omega, fun _ => .inr (.inl hf), by rw [← segs_skip f hi hf]; exact h.all⟩
theorem Wr.run {f : Nat → Bool} {i j b : Nat} {pre : List (Nat × Nat)} (h : Wr f i j pre) (hi : f i = true) (hp : ¬ (0 < i ∧ f (i - 1) = true)) (hib : i ≤ b) (hb : b < 64) (hr : ∀ k, i ≤ k → k ≤ b → f k = true) (hn : f (b + 1) = false) : ∃ j', Wr f (i + 1) j' (pre ++ [(i, b)]) := by
  have hij : i = j := by
    rcases Nat.lt_or_ge i j with hij | hij
    · obtain ⟨h1, h2, _⟩ := h.ins hij
      exact absurd ⟨h1, h2⟩ hp
    · have := h.le; omega
  subst hij
  refine ⟨b + 1, by omega, by omega, fun h5 => ⟨by omega, hi, fun k k1 k2 => hr k (by omega) (by omega), hn⟩, fun h5 => .inr (.inr (h5 ▸ hn)), ?_⟩
  rw [List.append_assoc, List.singleton_append, ← segs_run f (b - i) i b rfl hib hb hr hn]
  exact h.all
theorem Wr.done {f : Nat → Bool} {j : Nat} {pre : List (Nat × Nat)} (h : Wr f 64 j pre) : pre = segs f 64 := by
  have := h.le
  have := h.top
  obtain rfl : j = 64 := by omega
  rw [← h.all, Nat.sub_self, segs, List.append_nil]
theorem Wr.good {f : Nat → Bool} {i j : Nat} {pre : List (Nat × Nat)} (h : Wr f i j pre) : (∀ x ∈ pre, x ∈ segs f 64) ∧ pre.length ≤ 64 := by
  refine ⟨fun x hx => h.all ▸ List.mem_append_left _ hx, ?_⟩
  have h1 := segs_length f 64
  rw [← h.all, List.length_append] at h1
  omega

theorem Wr.len {s : BitVec 64} {i j : Nat} {pre : List (Nat × Nat)} (h : Wr s.getLsbD i j pre) : (Lib.join (pre.map segT) [32]).length ≤ 384 := by
  have h1 := join_len (pre.map segT) 5 fun x hx => by
    obtain ⟨y, hy, rfl⟩ := List.mem_map.1 hx
    exact segT_len (good_bound (segsS_good s) y (h.good.1 y hy))
  have h2 := h.good.2
  rw [List.length_map] at h1
  omega
theorem Wr.nil {s : BitVec 64} {i j : Nat} {pre : List (Nat × Nat)} (h : Wr s.getLsbD i j pre) : decide (Lib.join (pre.map segT) [32] ≠ []) = decide (pre ≠ []) := by
  apply decide_eq_decide.2
  refine not_congr ⟨fun e => ?_, fun e => by rw [e]; exact Lib.join_nil _⟩
  have := join_nil_iff (xs := pre.map segT) (fun x hx => by
    obtain ⟨y, hy, rfl⟩ := List.mem_map.1 hx
    exact (seg_ok (segsS_good s) (h.good.1 y hy)).1) e
  simpa using this

set_option maxHeartbeats 4000000 in
theorem reftext_calls (H : AHeap) (s : BitVec 64) : ACalls Tryz.prog 43 [flA s] H (fun r H' => r = strA (textS s) ∧ H' = H) := by
  refine ACalls.quiet_keep ?_ (.v _)
  refine ACalls.of_body tok Tryz.func43 rfl Tryz.ntmps43 (Nat.le_of_ble_eq_true rfl) (fun base => ?_)
  refine rg fun K hK => ?_
  refine st (by exact SD.s rfl rfl rfl (by exact AStepD.box_row tok rfl rfl)) <| st qR220 <| nt (hK _ _ ?_)
  clear hK K
  refine rg fun K hK => ?_
  refine st qR220 <| nt (hK _ _ ?_)
  clear hK K
  refine AW.seq_k (fun K1 hK1 => ?_)
  refine rg fun K hK => ?_
  refine st qR220 <| nt (hK _ _ ?_)
  clear hK K
  refine AW.block ?_
  refine AW.loop_at (ι := Nat × List (Nat × Nat)) (fun x => [(4, .v (.int .i64 (x.1 : Nat))), (3, strA (Lib.join (x.2.map segT) [32])), (1, .ptr H.next 0)])
    (fun x H' => x.1 ≤ 64 ∧ (∃ j, Wr s.getLsbD x.1 j x.2) ∧ H'.get H.next = some (.cells 75 (flat (flF s.getLsbD))) ∧ Keep H H') (fun x => 64 - x.1) (0, []) (by rw [List.map_nil, Lib.join_nil]; exact qR215) ⟨by omega, ⟨_, Wr.start _⟩, qR214, qR25⟩ ?_
  rintro ⟨i, pre⟩ H2 ⟨hi, ⟨j, hw⟩, g0, hk⟩
  dsimp only at hi hw ⊢
  have hfl := row_len s.getLsbD
  refine AW.lts fun hlt => ?_
  refine AW.seq_k (fun K2 hK2 => ?_)
  refine rg fun K hK => ?_
  refine st qR221 <| st (by exact SD.s rfl rfl rfl qR27) <| nt (hK _ _ ?_)
  clear hK K
  refine AW.cond _ rfl (fun hc => ?_) (fun hc => ?_)
  · (try simp only [Bool.or_eq_true, Bool.and_eq_true, Bool.or_eq_false_iff, Bool.and_eq_false_iff, Bool.not_eq_true', Bool.not_eq_false', decide_eq_true_eq, decide_eq_false_iff_not, Int.not_lt, Int.not_le] at hc)
    have hil : i < 64 := by omega
    clear hc
    refine AW.skip ?_
    refine hK2 _ _ ?_; try clear hK2 K2
    refine AW.seq_k (fun K3 hK3 => ?_)
    refine AW.block ?_
    refine AW.seq_k (fun K4 hK4 => ?_)
    have hpass : (s.getLsbD i = false ∨ (0 < i ∧ s.getLsbD (i - 1) = true)) → ∀ T', SubT T' [(4, .v (.int .i64 (i : Nat))), (3, strA (Lib.join (pre.map segT) [32])), (1, .ptr H.next 0)] → K3 T' H2 := fun hp T' hT' => by
      obtain ⟨j', hw'⟩ := hw.pass hil hp
      refine hK3 _ _ ?_
      refine AW.sub hT' ?_
      clear hT' hK3 K3 hK4 K4
      refine AW.region ?_
      refine st qR221 <| st (by exact SD.s rfl rfl rfl (by first | exact AStepD.add rfl rfl rfl (by first | exact IntWalk.i64_in _ (by omega) | exact IntWalk.i64_in _ (by simp only [Bool.or_eq_true, Bool.and_eq_true, Bool.or_eq_false_iff, Bool.and_eq_false_iff, Bool.not_eq_true', Bool.not_eq_false', decide_eq_true_eq, decide_eq_false_iff_not, Int.not_lt, Int.not_le, beq_iff_eq] at *; omega) | exact rfl) | exact AStepD.str_add rfl rfl rfl (by omega))) <| st qR220 <| AL.nil ?_
      refine ⟨(i + 1, pre), by show 64 - (i + 1) < 64 - i; omega, qR215, by show i + 1 ≤ 64; omega, ⟨j', hw'⟩, g0, hk⟩
    have hgo : s.getLsbD i = true → ¬ (0 < i ∧ s.getLsbD (i - 1) = true) → ∀ T', SubT T' [(4, .v (.int .i64 (i : Nat))), (3, strA (Lib.join (pre.map segT) [32])), (1, .ptr H.next 0)] → K4 T' H2 := fun hf hnp T' hT' => by
      refine hK4 _ _ ?_
      refine AW.sub hT' ?_
      clear hT' hK4 K4 hpass
      refine rg fun K hK => ?_
      refine st qR221 <| st qR220 <| nt (hK _ _ ?_)
      clear hK K
      refine AW.seq_k (fun K5 hK5 => ?_)
      refine AW.block ?_
      refine AW.loop_at (ι := Nat) (fun b => [(5, .v (.int .i64 (b : Nat))), (4, .v (.int .i64 (i : Nat))), (3, strA (Lib.join (pre.map segT) [32])), (1, .ptr H.next 0)])
        (fun b H' => i ≤ b ∧ b < 64 ∧ (∀ j, i ≤ j → j ≤ b → s.getLsbD j = true) ∧ H' = H2) (fun b => 64 - b) i qR215 ⟨Nat.le_refl _, hil, fun j h1 h2 => (show j = i by omega) ▸ hf, rfl⟩ ?_
      rintro b H3 ⟨hb1, hb2, hrun, rfl⟩
      have hend : s.getLsbD (b + 1) = false → ∀ T', SubT T' [(5, .v (.int .i64 (b : Nat))), (4, .v (.int .i64 (i : Nat))), (3, strA (Lib.join (pre.map segT) [32])), (1, .ptr H.next 0)] → K5 T' H3 := fun hn T' hT' => by
        refine hK5 _ _ ?_
        refine AW.sub hT' ?_
        clear hT' hK5 K5
        obtain ⟨j', hw'⟩ := hw.run hf hnp hb1 hb2 hrun hn
        have hlen := hw.len
        have hl1 := dec_len i (by omega)
        have hl2 := dec_len b (by omega)
        have hnil := hw.nil
        have hsn := join_snoc pre (i, b)
        have hsep : (sepB pre).length ≤ 1 := by rw [sepB]; split <;> simp
        refine AW.seq_k (fun K7 hK7 => ?_)
        have hgo2 : ∀ T', SubT T' [(5, .v (.int .i64 (b : Nat))), (4, .v (.int .i64 (i : Nat))), (3, strA (Lib.join (pre.map segT) [32] ++ sepB pre)), (1, .ptr H.next 0)] → K7 T' H3 := fun T' hT' => by
          refine hK7 _ _ ?_
          refine AW.sub hT' ?_
          clear hT' hK7 K7
          refine rg fun K hK => ?_
          refine st qR221 <| st qR221 <| st (by exact SD.s rfl rfl rfl (by exact AStepD.callf rfl en41 rfl (digits_calls _ i (by omega)))) <| st (by exact SD.s rfl rfl rfl (by exact strA_add (Lib.join (pre.map segT) [32] ++ sepB pre) (Lib.decDigits i) rfl rfl rfl (by simp only [List.length_append]; omega))) <| st qR220 <| nt (hK _ _ ?_)
          clear hK K
          refine rg fun K hK => ?_
          refine st qR221 <| st qR221 <| st (by exact SD.s rfl rfl rfl (by exact AStepD.bool (AStepD.gtr rfl rfl rfl) (c := decide (i < b)) (decide_eq_decide.2 (by omega)))) <| nt (hK _ _ ?_)
          clear hK K
          refine AW.cond _ rfl (fun hc => ?_) (fun hc => ?_)
          · have hib : i < b := of_decide_eq_true hc
            refine AW.region ?_
            refine st qR221 <| st qR221 <| st (by exact SD.s rfl rfl rfl (by exact AStepD.callf rfl en41 rfl (digits_calls _ b (by omega)))) <| st (by exact SD.s rfl rfl rfl (by exact strA_add [45] (Lib.decDigits b) rfl rfl rfl (by simp; omega))) <| st (by exact SD.s rfl rfl rfl (by exact strA_add (Lib.join (pre.map segT) [32] ++ sepB pre ++ Lib.decDigits i) ([45] ++ Lib.decDigits b) rfl rfl rfl (by simp only [List.length_append, List.length_singleton]; omega))) <| st qR220 <| AL.nil ?_
            refine hK3 _ _ ?_; try clear hK3 K3
            refine AW.region ?_
            refine st qR221 <| st (by exact SD.s rfl rfl rfl (by first | exact AStepD.add rfl rfl rfl (by first | exact IntWalk.i64_in _ (by omega) | exact IntWalk.i64_in _ (by simp only [Bool.or_eq_true, Bool.and_eq_true, Bool.or_eq_false_iff, Bool.and_eq_false_iff, Bool.not_eq_true', Bool.not_eq_false', decide_eq_true_eq, decide_eq_false_iff_not, Int.not_lt, Int.not_le, beq_iff_eq] at *; omega) | exact rfl) | exact AStepD.str_add rfl rfl rfl (by omega))) <| st qR220 <| AL.nil ?_
            rw [segT, if_pos hib] at hsn
            refine ⟨(i + 1, pre ++ [(i, b)]), by show 64 - (i + 1) < 64 - i; omega, ?_, by show i + 1 ≤ 64; omega, ⟨j', hw'⟩, g0, hk⟩
            rw [hsn, ← List.append_assoc, ← List.append_assoc]
            exact qR215
          · have hib : ¬ i < b := of_decide_eq_false hc
            refine AW.skip ?_
            refine hK3 _ _ ?_; try clear hK3 K3
            refine AW.region ?_
            refine st qR221 <| st (by exact SD.s rfl rfl rfl (by first | exact AStepD.add rfl rfl rfl (by first | exact IntWalk.i64_in _ (by omega) | exact IntWalk.i64_in _ (by simp only [Bool.or_eq_true, Bool.and_eq_true, Bool.or_eq_false_iff, Bool.and_eq_false_iff, Bool.not_eq_true', Bool.not_eq_false', decide_eq_true_eq, decide_eq_false_iff_not, Int.not_lt, Int.not_le, beq_iff_eq] at *; omega) | exact rfl) | exact AStepD.str_add rfl rfl rfl (by omega))) <| st qR220 <| AL.nil ?_
            rw [segT, if_neg hib] at hsn
            refine ⟨(i + 1, pre ++ [(i, b)]), by show 64 - (i + 1) < 64 - i; omega, ?_, by show i + 1 ≤ 64; omega, ⟨j', hw'⟩, g0, hk⟩
            rw [hsn, ← List.append_assoc]
            exact qR215
        refine rg fun K hK => ?_
        refine st qR221 <| st (by exact SD.s rfl rfl rfl (by exact AStepD.bool (AStepD.str_neq rfl rfl rfl) (c := decide (pre ≠ [])) (by rw [← hnil, str_list]))) <| nt (hK _ _ ?_)
        clear hK K
        refine AW.cond _ rfl (fun hc => ?_) (fun hc => ?_)
        · have hne : pre ≠ [] := of_decide_eq_true hc
          refine AW.region ?_
          refine st qR221 <| st (by exact SD.s rfl rfl rfl (by exact strA_add (Lib.join (pre.map segT) [32]) [32] rfl rfl rfl (by simp; omega))) <| st qR220 <| AL.nil ?_
          rw [sepB, if_neg hne] at hgo2
          exact hgo2 _ qR215
        · have hne : pre = [] := by have := of_decide_eq_false hc; simpa using this
          refine AW.skip ?_
          rw [sepB, if_pos hne, List.append_nil] at hgo2
          exact hgo2 _ qR215
      refine AW.seq_k (fun K6 hK6 => ?_)
      by_cases hb63 : b < 63
      · cases hn : s.getLsbD (b + 1) with
        | true =>
          refine rg fun K hK => ?_
          refine st qR221 <| st (by exact SD.s rfl rfl rfl (by exact AStepD.bool (AStepD.lss rfl rfl rfl) (c := true) (by simp; omega))) <| st qR221 <| st (GW.p (l := [5]) qR227) <| st (GW.p (l := [28]) (by first | exact GW.yes rfl rfl rfl rfl rfl rfl rfl (by exact AStepD.add (r := ((b + 1 : Nat) : Int)) rfl rfl rfl (IntWalk.i64_in _ (by omega))) | exact GW.no rfl rfl rfl rfl rfl rfl rfl | exact GW.none rfl rfl rfl rfl rfl | exact GW.may rfl rfl rfl rfl rfl rfl (fun hb => by (repeat (first | apply UW.yes rfl (gpf hb) | apply UW.no)); exact UW.nil (by exact AStepD.add (r := ((b + 1 : Nat) : Int)) rfl rfl rfl (IntWalk.i64_in _ (by omega)))) | exact GW.may2 rfl rfl rfl rfl rfl rfl (fun _ hb => by (repeat (first | apply UW.yes rfl (gpf hb) | apply UW.no)); exact UW.nil (by exact AStepD.add (r := ((b + 1 : Nat) : Int)) rfl rfl rfl (IntWalk.i64_in _ (by omega)))))) <| st (GW.p (l := [1, 29]) qR414) <| st (GW.p (l := [30]) (by first | exact GW.yes rfl rfl rfl rfl rfl rfl rfl (by exact AStepD.val (AStepD.load_cellAt tok rfl rfl rfl rfl qR214 rfl (flF_at _ (b + 1) (by omega))) (by rw [hn])) | exact GW.no rfl rfl rfl rfl rfl rfl rfl | exact GW.none rfl rfl rfl rfl rfl | exact GW.may rfl rfl rfl rfl rfl rfl (fun hb => by (repeat (first | apply UW.yes rfl (gpf hb) | apply UW.no)); exact UW.nil (by exact AStepD.val (AStepD.load_cellAt tok rfl rfl rfl rfl qR214 rfl (flF_at _ (b + 1) (by omega))) (by rw [hn]))) | exact GW.may2 rfl rfl rfl rfl rfl rfl (fun _ hb => by (repeat (first | apply UW.yes rfl (gpf hb) | apply UW.no)); exact UW.nil (by exact AStepD.val (AStepD.load_cellAt tok rfl rfl rfl rfl qR214 rfl (flF_at _ (b + 1) (by omega))) (by rw [hn]))))) <| st qR224 <| nt (hK _ _ ?_)
          clear hK K
          refine AW.cond_true rfl rfl (AW.skip ?_)
          refine hK6 _ _ ?_; try clear hK6 K6
          refine AW.block ?_
          refine AW.region ?_
          refine st qR221 <| st (by exact SD.s rfl rfl rfl (by first | exact AStepD.add rfl rfl rfl (by first | exact IntWalk.i64_in _ (by omega) | exact IntWalk.i64_in _ (by simp only [Bool.or_eq_true, Bool.and_eq_true, Bool.or_eq_false_iff, Bool.and_eq_false_iff, Bool.not_eq_true', Bool.not_eq_false', decide_eq_true_eq, decide_eq_false_iff_not, Int.not_lt, Int.not_le, beq_iff_eq] at *; omega) | exact rfl) | exact AStepD.str_add rfl rfl rfl (by omega))) <| st qR220 <| AL.nil ?_
          refine ⟨b + 1, by omega, qR215, by omega, by omega, fun j h1 h2 => ?_, rfl⟩
          rcases Nat.lt_or_ge b j with h | h
          · obtain rfl : j = b + 1 := by omega
            exact hn
          · exact hrun j h1 h
        | false =>
          refine rg fun K hK => ?_
          refine st qR221 <| st (by exact SD.s rfl rfl rfl (by exact AStepD.bool (AStepD.lss rfl rfl rfl) (c := true) (by simp; omega))) <| st qR221 <| st (GW.p (l := [5]) qR227) <| st (GW.p (l := [28]) (by first | exact GW.yes rfl rfl rfl rfl rfl rfl rfl (by exact AStepD.add (r := ((b + 1 : Nat) : Int)) rfl rfl rfl (IntWalk.i64_in _ (by omega))) | exact GW.no rfl rfl rfl rfl rfl rfl rfl | exact GW.none rfl rfl rfl rfl rfl | exact GW.may rfl rfl rfl rfl rfl rfl (fun hb => by (repeat (first | apply UW.yes rfl (gpf hb) | apply UW.no)); exact UW.nil (by exact AStepD.add (r := ((b + 1 : Nat) : Int)) rfl rfl rfl (IntWalk.i64_in _ (by omega)))) | exact GW.may2 rfl rfl rfl rfl rfl rfl (fun _ hb => by (repeat (first | apply UW.yes rfl (gpf hb) | apply UW.no)); exact UW.nil (by exact AStepD.add (r := ((b + 1 : Nat) : Int)) rfl rfl rfl (IntWalk.i64_in _ (by omega)))))) <| st (GW.p (l := [1, 29]) qR414) <| st (GW.p (l := [30]) (by first | exact GW.yes rfl rfl rfl rfl rfl rfl rfl (by exact AStepD.val (AStepD.load_cellAt tok rfl rfl rfl rfl qR214 rfl (flF_at _ (b + 1) (by omega))) (by rw [hn])) | exact GW.no rfl rfl rfl rfl rfl rfl rfl | exact GW.none rfl rfl rfl rfl rfl | exact GW.may rfl rfl rfl rfl rfl rfl (fun hb => by (repeat (first | apply UW.yes rfl (gpf hb) | apply UW.no)); exact UW.nil (by exact AStepD.val (AStepD.load_cellAt tok rfl rfl rfl rfl qR214 rfl (flF_at _ (b + 1) (by omega))) (by rw [hn]))) | exact GW.may2 rfl rfl rfl rfl rfl rfl (fun _ hb => by (repeat (first | apply UW.yes rfl (gpf hb) | apply UW.no)); exact UW.nil (by exact AStepD.val (AStepD.load_cellAt tok rfl rfl rfl rfl qR214 rfl (flF_at _ (b + 1) (by omega))) (by rw [hn]))))) <| st qR224 <| nt (hK _ _ ?_)
          clear hK K
          refine AW.cond_false rfl rfl ?_
          refine AW.exit ?_
          exact hend hn _ qR215
      · refine rg fun K hK => ?_
        refine st qR221 <| st (by exact SD.s rfl rfl rfl (by exact AStepD.bool (AStepD.lss rfl rfl rfl) (c := false) (by simp; omega))) <| st qR221 <| st (GW.p (l := [5]) qR227) <| st (GW.p (l := [28]) (by first | exact GW.yes rfl rfl rfl rfl rfl rfl rfl (by first | exact AStepD.add rfl rfl rfl (by first | exact IntWalk.i64_in _ (by omega) | exact IntWalk.i64_in _ (by simp only [Bool.or_eq_true, Bool.and_eq_true, Bool.or_eq_false_iff, Bool.and_eq_false_iff, Bool.not_eq_true', Bool.not_eq_false', decide_eq_true_eq, decide_eq_false_iff_not, Int.not_lt, Int.not_le, beq_iff_eq] at *; omega) | exact rfl) | exact AStepD.str_add rfl rfl rfl (by omega)) | exact GW.no rfl rfl rfl rfl rfl rfl rfl | exact GW.none rfl rfl rfl rfl rfl | exact GW.may rfl rfl rfl rfl rfl rfl (fun hb => by (repeat (first | apply UW.yes rfl (gpf hb) | apply UW.no)); exact UW.nil (by first | exact AStepD.add rfl rfl rfl (by first | exact IntWalk.i64_in _ (by omega) | exact IntWalk.i64_in _ (by simp only [Bool.or_eq_true, Bool.and_eq_true, Bool.or_eq_false_iff, Bool.and_eq_false_iff, Bool.not_eq_true', Bool.not_eq_false', decide_eq_true_eq, decide_eq_false_iff_not, Int.not_lt, Int.not_le, beq_iff_eq] at *; omega) | exact rfl) | exact AStepD.str_add rfl rfl rfl (by omega))) | exact GW.may2 rfl rfl rfl rfl rfl rfl (fun _ hb => by (repeat (first | apply UW.yes rfl (gpf hb) | apply UW.no)); exact UW.nil (by first | exact AStepD.add rfl rfl rfl (by first | exact IntWalk.i64_in _ (by omega) | exact IntWalk.i64_in _ (by simp only [Bool.or_eq_true, Bool.and_eq_true, Bool.or_eq_false_iff, Bool.and_eq_false_iff, Bool.not_eq_true', Bool.not_eq_false', decide_eq_true_eq, decide_eq_false_iff_not, Int.not_lt, Int.not_le, beq_iff_eq] at *; omega) | exact rfl) | exact AStepD.str_add rfl rfl rfl (by omega))))) <| st (GW.p (l := [1, 29]) qR414) <| st (GW.p (l := [30]) qR415) <| st qR224 <| nt (hK _ _ ?_)
        clear hK K
        refine AW.cond_false rfl rfl ?_
        refine AW.exit ?_
        exact hend (BitVec.getLsbD_of_ge _ _ (by omega)) _ qR215
    by_cases hf : s.getLsbD i = true
    · by_cases h0 : 0 < i
      · cases hp : s.getLsbD (i - 1) with
        | true =>
          refine rg fun K hK => ?_
          refine st qR221 <| st qR413 <| st (by exact SD.s rfl rfl rfl (by exact AStepD.val (AStepD.load_cellAt tok rfl rfl rfl rfl qR214 rfl (flF_at _ i (by omega))) (by rw [hf]))) <| st (by exact SD.s rfl rfl rfl (by first | exact AStepD.not rfl rfl | exact AStepD.neg rfl rfl (by first | exact IntWalk.i64_in _ (by omega) | exact IntWalk.i64_in _ (by simp only [Bool.or_eq_true, Bool.and_eq_true, Bool.or_eq_false_iff, Bool.and_eq_false_iff, Bool.not_eq_true', Bool.not_eq_false', decide_eq_true_eq, decide_eq_false_iff_not, Int.not_lt, Int.not_le, beq_iff_eq] at *; omega) | exact rfl))) <| st qR221 <| st (GW.p (l := [4]) qR227) <| st (GW.p (l := [15]) (by first | exact GW.yes rfl rfl rfl rfl rfl rfl rfl (by exact AStepD.bool (AStepD.gtr rfl rfl rfl) (c := true) (by simpa using h0)) | exact GW.no rfl rfl rfl rfl rfl rfl rfl | exact GW.none rfl rfl rfl rfl rfl | exact GW.may rfl rfl rfl rfl rfl rfl (fun hb => by (repeat (first | apply UW.yes rfl (gpf hb) | apply UW.no)); exact UW.nil (by exact AStepD.bool (AStepD.gtr rfl rfl rfl) (c := true) (by simpa using h0))) | exact GW.may2 rfl rfl rfl rfl rfl rfl (fun _ hb => by (repeat (first | apply UW.yes rfl (gpf hb) | apply UW.no)); exact UW.nil (by exact AStepD.bool (AStepD.gtr rfl rfl rfl) (c := true) (by simpa using h0))))) <| st (GW.p (l := [16]) qR227) <| st (GW.p (l := [4]) qR227) <| st (GW.p (l := [18]) (by first | exact GW.yes rfl rfl rfl rfl rfl rfl rfl (by exact AStepD.sub (r := ((i - 1 : Nat) : Int)) rfl rfl rfl (by rw [show (i : Int) - 1 = ((i - 1 : Nat) : Int) by omega]; exact IntWalk.i64_in _ (by omega))) | exact GW.no rfl rfl rfl rfl rfl rfl rfl | exact GW.none rfl rfl rfl rfl rfl | exact GW.may rfl rfl rfl rfl rfl rfl (fun hb => by (repeat (first | apply UW.yes rfl (gpf hb) | apply UW.no)); exact UW.nil (by exact AStepD.sub (r := ((i - 1 : Nat) : Int)) rfl rfl rfl (by rw [show (i : Int) - 1 = ((i - 1 : Nat) : Int) by omega]; exact IntWalk.i64_in _ (by omega)))) | exact GW.may2 rfl rfl rfl rfl rfl rfl (fun _ hb => by (repeat (first | apply UW.yes rfl (gpf hb) | apply UW.no)); exact UW.nil (by exact AStepD.sub (r := ((i - 1 : Nat) : Int)) rfl rfl rfl (by rw [show (i : Int) - 1 = ((i - 1 : Nat) : Int) by omega]; exact IntWalk.i64_in _ (by omega)))))) <| st (GW.p (l := [1, 19]) qR414) <| st (GW.p (l := [20]) (by first | exact GW.yes rfl rfl rfl rfl rfl rfl rfl (by exact AStepD.val (AStepD.load_cellAt tok rfl rfl rfl rfl qR214 rfl (flF_at _ (i - 1) (by omega))) (by rw [hp])) | exact GW.no rfl rfl rfl rfl rfl rfl rfl | exact GW.none rfl rfl rfl rfl rfl | exact GW.may rfl rfl rfl rfl rfl rfl (fun hb => by (repeat (first | apply UW.yes rfl (gpf hb) | apply UW.no)); exact UW.nil (by exact AStepD.val (AStepD.load_cellAt tok rfl rfl rfl rfl qR214 rfl (flF_at _ (i - 1) (by omega))) (by rw [hp]))) | exact GW.may2 rfl rfl rfl rfl rfl rfl (fun _ hb => by (repeat (first | apply UW.yes rfl (gpf hb) | apply UW.no)); exact UW.nil (by exact AStepD.val (AStepD.load_cellAt tok rfl rfl rfl rfl qR214 rfl (flF_at _ (i - 1) (by omega))) (by rw [hp]))))) <| st (GW.p (l := [17, 21]) qR228) <| st qR224 <| nt (hK _ _ ?_)
          clear hK K
          refine AW.cond_true rfl rfl ?_
          refine AW.exit ?_
          exact hpass (.inr ⟨h0, hp⟩) _ qR215
        | false =>
          refine rg fun K hK => ?_
          refine st qR221 <| st qR413 <| st (by exact SD.s rfl rfl rfl (by exact AStepD.val (AStepD.load_cellAt tok rfl rfl rfl rfl qR214 rfl (flF_at _ i (by omega))) (by rw [hf]))) <| st (by exact SD.s rfl rfl rfl (by first | exact AStepD.not rfl rfl | exact AStepD.neg rfl rfl (by first | exact IntWalk.i64_in _ (by omega) | exact IntWalk.i64_in _ (by simp only [Bool.or_eq_true, Bool.and_eq_true, Bool.or_eq_false_iff, Bool.and_eq_false_iff, Bool.not_eq_true', Bool.not_eq_false', decide_eq_true_eq, decide_eq_false_iff_not, Int.not_lt, Int.not_le, beq_iff_eq] at *; omega) | exact rfl))) <| st qR221 <| st (GW.p (l := [4]) qR227) <| st (GW.p (l := [15]) (by first | exact GW.yes rfl rfl rfl rfl rfl rfl rfl (by exact AStepD.bool (AStepD.gtr rfl rfl rfl) (c := true) (by simpa using h0)) | exact GW.no rfl rfl rfl rfl rfl rfl rfl | exact GW.none rfl rfl rfl rfl rfl | exact GW.may rfl rfl rfl rfl rfl rfl (fun hb => by (repeat (first | apply UW.yes rfl (gpf hb) | apply UW.no)); exact UW.nil (by exact AStepD.bool (AStepD.gtr rfl rfl rfl) (c := true) (by simpa using h0))) | exact GW.may2 rfl rfl rfl rfl rfl rfl (fun _ hb => by (repeat (first | apply UW.yes rfl (gpf hb) | apply UW.no)); exact UW.nil (by exact AStepD.bool (AStepD.gtr rfl rfl rfl) (c := true) (by simpa using h0))))) <| st (GW.p (l := [16]) qR227) <| st (GW.p (l := [4]) qR227) <| st (GW.p (l := [18]) (by first | exact GW.yes rfl rfl rfl rfl rfl rfl rfl (by exact AStepD.sub (r := ((i - 1 : Nat) : Int)) rfl rfl rfl (by rw [show (i : Int) - 1 = ((i - 1 : Nat) : Int) by omega]; exact IntWalk.i64_in _ (by omega))) | exact GW.no rfl rfl rfl rfl rfl rfl rfl | exact GW.none rfl rfl rfl rfl rfl | exact GW.may rfl rfl rfl rfl rfl rfl (fun hb => by (repeat (first | apply UW.yes rfl (gpf hb) | apply UW.no)); exact UW.nil (by exact AStepD.sub (r := ((i - 1 : Nat) : Int)) rfl rfl rfl (by rw [show (i : Int) - 1 = ((i - 1 : Nat) : Int) by omega]; exact IntWalk.i64_in _ (by omega)))) | exact GW.may2 rfl rfl rfl rfl rfl rfl (fun _ hb => by (repeat (first | apply UW.yes rfl (gpf hb) | apply UW.no)); exact UW.nil (by exact AStepD.sub (r := ((i - 1 : Nat) : Int)) rfl rfl rfl (by rw [show (i : Int) - 1 = ((i - 1 : Nat) : Int) by omega]; exact IntWalk.i64_in _ (by omega)))))) <| st (GW.p (l := [1, 19]) qR414) <| st (GW.p (l := [20]) (by first | exact GW.yes rfl rfl rfl rfl rfl rfl rfl (by exact AStepD.val (AStepD.load_cellAt tok rfl rfl rfl rfl qR214 rfl (flF_at _ (i - 1) (by omega))) (by rw [hp])) | exact GW.no rfl rfl rfl rfl rfl rfl rfl | exact GW.none rfl rfl rfl rfl rfl | exact GW.may rfl rfl rfl rfl rfl rfl (fun hb => by (repeat (first | apply UW.yes rfl (gpf hb) | apply UW.no)); exact UW.nil (by exact AStepD.val (AStepD.load_cellAt tok rfl rfl rfl rfl qR214 rfl (flF_at _ (i - 1) (by omega))) (by rw [hp]))) | exact GW.may2 rfl rfl rfl rfl rfl rfl (fun _ hb => by (repeat (first | apply UW.yes rfl (gpf hb) | apply UW.no)); exact UW.nil (by exact AStepD.val (AStepD.load_cellAt tok rfl rfl rfl rfl qR214 rfl (flF_at _ (i - 1) (by omega))) (by rw [hp]))))) <| st (GW.p (l := [17, 21]) qR228) <| st qR224 <| nt (hK _ _ ?_)
          clear hK K
          refine AW.cond_false rfl rfl (AW.skip ?_)
          exact hgo hf (fun h => by rw [h.2] at hp; cases hp) _ qR215
      · refine rg fun K hK => ?_
        refine st qR221 <| st qR413 <| st (by exact SD.s rfl rfl rfl (by exact AStepD.val (AStepD.load_cellAt tok rfl rfl rfl rfl qR214 rfl (flF_at _ i (by omega))) (by rw [hf]))) <| st (by exact SD.s rfl rfl rfl (by first | exact AStepD.not rfl rfl | exact AStepD.neg rfl rfl (by first | exact IntWalk.i64_in _ (by omega) | exact IntWalk.i64_in _ (by simp only [Bool.or_eq_true, Bool.and_eq_true, Bool.or_eq_false_iff, Bool.and_eq_false_iff, Bool.not_eq_true', Bool.not_eq_false', decide_eq_true_eq, decide_eq_false_iff_not, Int.not_lt, Int.not_le, beq_iff_eq] at *; omega) | exact rfl))) <| st qR221 <| st (GW.p (l := [4]) qR227) <| st (GW.p (l := [15]) (by first | exact GW.yes rfl rfl rfl rfl rfl rfl rfl (by exact AStepD.bool (AStepD.gtr rfl rfl rfl) (c := false) (by simpa using h0)) | exact GW.no rfl rfl rfl rfl rfl rfl rfl | exact GW.none rfl rfl rfl rfl rfl | exact GW.may rfl rfl rfl rfl rfl rfl (fun hb => by (repeat (first | apply UW.yes rfl (gpf hb) | apply UW.no)); exact UW.nil (by exact AStepD.bool (AStepD.gtr rfl rfl rfl) (c := false) (by simpa using h0))) | exact GW.may2 rfl rfl rfl rfl rfl rfl (fun _ hb => by (repeat (first | apply UW.yes rfl (gpf hb) | apply UW.no)); exact UW.nil (by exact AStepD.bool (AStepD.gtr rfl rfl rfl) (c := false) (by simpa using h0))))) <| st (GW.p (l := [16]) qR227) <| st (GW.p (l := [4]) qR227) <| st (GW.p (l := [18]) (by first | exact GW.yes rfl rfl rfl rfl rfl rfl rfl (by exact AStepD.sub rfl rfl rfl (by first | exact IntWalk.i64_in _ (by omega) | exact IntWalk.i64_in _ (by simp only [Bool.or_eq_true, Bool.and_eq_true, Bool.or_eq_false_iff, Bool.and_eq_false_iff, Bool.not_eq_true', Bool.not_eq_false', decide_eq_true_eq, decide_eq_false_iff_not, Int.not_lt, Int.not_le, beq_iff_eq] at *; omega) | exact rfl)) | exact GW.no rfl rfl rfl rfl rfl rfl rfl | exact GW.none rfl rfl rfl rfl rfl | exact GW.may rfl rfl rfl rfl rfl rfl (fun hb => by (repeat (first | apply UW.yes rfl (gpf hb) | apply UW.no)); exact UW.nil (by exact AStepD.sub rfl rfl rfl (by first | exact IntWalk.i64_in _ (by omega) | exact IntWalk.i64_in _ (by simp only [Bool.or_eq_true, Bool.and_eq_true, Bool.or_eq_false_iff, Bool.and_eq_false_iff, Bool.not_eq_true', Bool.not_eq_false', decide_eq_true_eq, decide_eq_false_iff_not, Int.not_lt, Int.not_le, beq_iff_eq] at *; omega) | exact rfl))) | exact GW.may2 rfl rfl rfl rfl rfl rfl (fun _ hb => by (repeat (first | apply UW.yes rfl (gpf hb) | apply UW.no)); exact UW.nil (by exact AStepD.sub rfl rfl rfl (by first | exact IntWalk.i64_in _ (by omega) | exact IntWalk.i64_in _ (by simp only [Bool.or_eq_true, Bool.and_eq_true, Bool.or_eq_false_iff, Bool.and_eq_false_iff, Bool.not_eq_true', Bool.not_eq_false', decide_eq_true_eq, decide_eq_false_iff_not, Int.not_lt, Int.not_le, beq_iff_eq] at *; omega) | exact rfl))))) <| st (GW.p (l := [1, 19]) qR414) <| st (GW.p (l := [20]) qR415) <| st (GW.p (l := [17, 21]) qR228) <| st qR224 <| nt (hK _ _ ?_)
        clear hK K
        refine AW.cond_false rfl rfl (AW.skip ?_)
        exact hgo hf (fun h => h0 h.1) _ qR215
    · refine rg fun K hK => ?_
      refine st qR221 <| st qR413 <| st (by exact SD.s rfl rfl rfl (by exact AStepD.val (AStepD.load_cellAt tok rfl rfl rfl rfl qR214 rfl (flF_at _ i (by omega))) (by rw [eq_false_of_ne_true hf]))) <| st (by exact SD.s rfl rfl rfl (by first | exact AStepD.not rfl rfl | exact AStepD.neg rfl rfl (by first | exact IntWalk.i64_in _ (by omega) | exact IntWalk.i64_in _ (by simp only [Bool.or_eq_true, Bool.and_eq_true, Bool.or_eq_false_iff, Bool.and_eq_false_iff, Bool.not_eq_true', Bool.not_eq_false', decide_eq_true_eq, decide_eq_false_iff_not, Int.not_lt, Int.not_le, beq_iff_eq] at *; omega) | exact rfl))) <| st qR221 <| st (GW.p (l := [4]) qR227) <| st (GW.p (l := [15]) qR48) <| st (GW.p (l := [16]) qR227) <| st (GW.p (l := [4]) qR227) <| st (GW.p (l := [18]) (by first | exact GW.yes rfl rfl rfl rfl rfl rfl rfl (by exact AStepD.sub rfl rfl rfl (by first | exact IntWalk.i64_in _ (by omega) | exact IntWalk.i64_in _ (by simp only [Bool.or_eq_true, Bool.and_eq_true, Bool.or_eq_false_iff, Bool.and_eq_false_iff, Bool.not_eq_true', Bool.not_eq_false', decide_eq_true_eq, decide_eq_false_iff_not, Int.not_lt, Int.not_le, beq_iff_eq] at *; omega) | exact rfl)) | exact GW.no rfl rfl rfl rfl rfl rfl rfl | exact GW.none rfl rfl rfl rfl rfl | exact GW.may rfl rfl rfl rfl rfl rfl (fun hb => by (repeat (first | apply UW.yes rfl (gpf hb) | apply UW.no)); exact UW.nil (by exact AStepD.sub rfl rfl rfl (by first | exact IntWalk.i64_in _ (by omega) | exact IntWalk.i64_in _ (by simp only [Bool.or_eq_true, Bool.and_eq_true, Bool.or_eq_false_iff, Bool.and_eq_false_iff, Bool.not_eq_true', Bool.not_eq_false', decide_eq_true_eq, decide_eq_false_iff_not, Int.not_lt, Int.not_le, beq_iff_eq] at *; omega) | exact rfl))) | exact GW.may2 rfl rfl rfl rfl rfl rfl (fun _ hb => by (repeat (first | apply UW.yes rfl (gpf hb) | apply UW.no)); exact UW.nil (by exact AStepD.sub rfl rfl rfl (by first | exact IntWalk.i64_in _ (by omega) | exact IntWalk.i64_in _ (by simp only [Bool.or_eq_true, Bool.and_eq_true, Bool.or_eq_false_iff, Bool.and_eq_false_iff, Bool.not_eq_true', Bool.not_eq_false', decide_eq_true_eq, decide_eq_false_iff_not, Int.not_lt, Int.not_le, beq_iff_eq] at *; omega) | exact rfl))))) <| st (GW.p (l := [1, 19]) qR414) <| st (GW.p (l := [20]) qR415) <| st (GW.p (l := [17, 21]) qR228) <| st qR224 <| nt (hK _ _ ?_)
      clear hK K
      refine AW.cond_true rfl rfl ?_
      refine AW.exit ?_
      exact hpass (.inl (eq_false_of_ne_true hf)) _ qR215
  · (try simp only [Bool.or_eq_true, Bool.and_eq_true, Bool.or_eq_false_iff, Bool.and_eq_false_iff, Bool.not_eq_true', Bool.not_eq_false', decide_eq_true_eq, decide_eq_false_iff_not, Int.not_lt, Int.not_le] at hc)
    obtain rfl : i = 64 := by omega
    obtain rfl := hw.done
    refine AW.exit ?_
    refine hK1 _ _ ?_; try clear hK1 K1
    refine rg fun K hK => ?_
    refine st qR221 <| st qR220 <| nt (hK _ _ ?_)
    clear hK K
    refine AW.ret (RetQ.mk (.inr rfl) (retA_tmp rfl qR21 retA_nil) ⟨rfl, hk⟩)
end Go.Proofs.YtbcanlmpfhkklaaGreatDoor

/- The reference's Parse. -/

namespace Go.Proofs.YtbcanlmpfhkklaaGreatDoor
open Go.Ax
open Cel (c)
theorem qR51 {p : Prop} (h : p := by exact AStepD.alloc tok rfl rfl) : p := h
theorem qR52 {p : Prop} (h : p := by exact SD.s rfl rfl rfl qR27) : p := h
theorem qR53 {p : Prop} (h : p := by exact AStepD.extract rfl rfl rfl) : p := h
theorem qR54 {p : Prop} (h : p := by first | exact one_cells (by with_reducible assumption) | exact qR21) : p := h
theorem qR55 {p : Prop} (h : p := by first | exact Nat.le_of_ble_eq_true rfl | (simp; done) | (simp; omega) | (simp_all; omega)) : p := h
theorem qR56 {p : Prop} (h : p := by first | ((with_reducible refine over_all ?_); exact rfl) | (simp only [over, List.take_succ_cons, List.take_zero, List.drop_succ_cons, List.drop_zero, List.length_cons, List.length_nil, List.nil_append, List.cons_append, Nat.reduceAdd, Nat.zero_add, List.drop_nil, List.append_nil]; exact rfl) | conv => lhs; whnf) : p := h
theorem qR57 {p : Prop} (h : p := by first | with_reducible assumption | (simp only [List.take_succ_cons, List.take_zero, List.drop_succ_cons, List.drop_zero]; exact rfl) | exact rfl) : p := h
theorem qR58 {p : Prop} (h : p := by repeat' (first | exact Keep.refl _ | with_reducible assumption | apply Keep.new | apply Keep.set | apply Keep.del | (first | omega | (simp only [za, zb, zc]; omega)))) : p := h
theorem qR59 {p : Prop} (h : p := by exact SD.s rfl rfl rfl qR210) : p := h
theorem qR510 {p : Prop} (h : p := by first | exact AStepD.eql rfl rfl rfl | exact AStepD.str_eql rfl rfl rfl | exact (AStepD.ptr_nil tok (.inl ⟨_, _, rfl⟩) rfl rfl rfl).1 rfl | exact (AStepD.nil_nil tok rfl rfl rfl rfl).1 rfl | exact (AStepD.bool_eq tok rfl rfl rfl rfl).1 rfl | exact (AStepD.ptr_same tok rfl rfl rfl rfl rfl).1 rfl | exact (AStepD.iface_nil tok rfl rfl rfl rfl).1 rfl | exact (AStepD.nilIface_nil tok rfl rfl rfl rfl).1 rfl) : p := h
theorem qR511 {p : Prop} (h : p := by exact SD.s rfl rfl rfl qR51) : p := h
theorem qR512 {p : Prop} (h : p := by exact SD.s rfl rfl rfl qR53) : p := h
theorem qR513 {p : Prop} (h : p := by first | exact retA_agg rfl rfl rfl qR214 rfl (show _ = 64 from rfl) qR55 qR57 (retA_tmp rfl qR21 retA_nil) | exact retA_one rfl rfl rfl rfl qR214 rfl qR44 (retA_tmp rfl qR21 retA_nil)) : p := h
theorem qR514 {p : Prop} (h : p := by first | exact GW.yes rfl rfl rfl rfl rfl rfl rfl qR510 | exact GW.no rfl rfl rfl rfl rfl rfl rfl | exact GW.none rfl rfl rfl rfl rfl | exact GW.may rfl rfl rfl rfl rfl rfl (fun hb => by (repeat (first | apply UW.yes rfl (gpf hb) | apply UW.no)); exact UW.nil qR510) | exact GW.may2 rfl rfl rfl rfl rfl rfl (fun _ hb => by (repeat (first | apply UW.yes rfl (gpf hb) | apply UW.no)); exact UW.nil qR510)) : p := h
set_option linter.unusedSimpArgs false
set_option linter.unusedVariables false
open Cel (c)

theorem numE_le {l : List UInt8} {p : Nat} (hp : p ≤ l.length) : numE l p ≤ l.length := by
  rw [numE]
  split
  · exact hp
  · rw [cntN]
    split
    · rename_i h
      have := dig_of h
      split
      · rename_i h2
        have := dig_of h2
        omega
      · omega
    · omega

theorem flags0 {o : Oper} {T : Fr} {H : AHeap} (ho : o.op = .build 75 #[]) : AStepD Tryz.prog o T H (.agg (flat (flF fun _ => false))) H :=
  AStepD.build_arr (n := 64) (e := 4) tok ho rfl rfl rfl (by rw [flF_zero]; rfl) (by simp)
theorem flF_none : flF (fun _ => false) = flF (0#64).getLsbD := flF_congr fun j _ => by rw [BitVec.getLsbD_zero]
theorem step_eq (l : List UInt8) (p least p1 : Nat) (hp1 : p1 = if 0 < p then p + 1 else p) : stepR l p least = if decide (0 < p) && decide (at8 l p ≠ 32) then none else if numV l p1 < least then none else
    if decide (numE l p1 < l.length) && decide (at8 l (numE l p1) = 45) then (if numV l (numE l p1 + 1) ≤ numV l p1 then none else some ((numV l p1).toNat, (numV l (numE l p1 + 1)).toNat, numE l (numE l p1 + 1)))
    else some ((numV l p1).toNat, (numV l p1).toNat, numE l p1) := by subst hp1; rfl
theorem numV_lt (l : List UInt8) (p : Nat) : numV l p < 64 ∧ -1 ≤ numV l p := by
  rw [numV]
  cases h : numBad l p with
  | true => simp
  | false =>
    simp only [numBad, Bool.or_eq_false_iff, decide_eq_false_iff_not] at h
    have := h.1.2
    simp only [Bool.false_eq_true, if_false]
    omega

set_option maxHeartbeats 4000000 in
theorem refparse_calls (H : AHeap) (l : List UInt8) (hl : l.length ≤ 1000000) : ACalls Tryz.prog 65 [strA l] H (fun r H' => r = .tup [flA (parseS l), .v (.bool (parseO l).isSome)] ∧ H' = H) := by
  refine ACalls.quiet_keep ?_ (.tup (by simp only [List.forall_mem_cons]; exact ⟨flA_plain _, .v _, fun _ h => absurd h List.not_mem_nil⟩))
  refine ACalls.of_body tok Tryz.func65 rfl Tryz.ntmps65 (Nat.le_of_ble_eq_true rfl) (fun base => ?_)
  refine rg fun K hK => ?_
  refine st qR511 <| st qR220 <| nt (hK _ _ ?_)
  clear hK K
  refine rg fun K hK => ?_
  refine st qR511 <| nt (hK _ _ ?_)
  clear hK K
  rw [flF_zero]
  refine rg fun K hK => ?_
  refine st qR220 <| nt (hK _ _ ?_)
  clear hK K
  refine rg fun K hK => ?_
  refine st qR220 <| nt (hK _ _ ?_)
  clear hK K
  refine AW.seq_k (fun K1 hK1 => ?_)
  refine AW.block ?_
  refine AW.loop_at (ι := Nat × Nat × List (Nat × Nat)) (fun x => [(6, .v (.int .i64 (x.2.1 : Nat))), (5, .v (.int .i64 (x.1 : Nat))), (4, .ptr (H.next + 1) 0), (2, .ptr H.next 0), (0, strA l)])
    (fun x H' => Rd l x.1 x.2.1 x.2.2 ∧ x.2.1 ≤ 65 ∧ H'.get (H.next + 1) = some (.cells 75 (flat (flF (inR x.2.2)))) ∧ H'.get H.next = some (.cells 75 (flat (flF fun _ => false))) ∧ Keep H H') (fun x => l.length - x.1) (0, 0, []) qR215 ⟨Rd.start l, by decide, qR214, qR214, qR25⟩ ?_
  rintro ⟨p, least, rs⟩ H2 ⟨hrd, hle65, g1, g0, hk⟩
  dsimp only at hrd hle65 g1 ⊢
  refine AW.lts fun hlt => ?_
  refine AW.seq_k (fun K2 hK2 => ?_)
  refine rg fun K hK => ?_
  refine st qR221 <| st qR221 <| st (by exact SD.s rfl rfl rfl (by exact strA_len tok rfl rfl rfl rfl)) <| st qR52 <| nt (hK _ _ ?_)
  clear hK K
  refine AW.cond _ rfl (fun hc => ?_) (fun hc => ?_)
  · have hp : p < l.length := by simpa using hc
    clear hc
    refine AW.skip ?_
    refine hK2 _ _ ?_; try clear hK2 K2
    refine AW.block ?_
    have hfail : stepR l p least = none → parseO l = none := fun h => hrd.fail hp h
    have hret : parseO l = none → AV.tup [.agg (flat (flF fun _ => false)), .v (.bool false)] = .tup [flA (parseS l), .v (.bool (parseO l).isSome)] := fun h1 => by
      rw [parseS, h1, flF_none]; rfl
    refine AW.seq_k (fun K3 hK3 => ?_)
    have hgo : ∀ p1, p1 = (if 0 < p then p + 1 else p) → (decide (0 < p) && decide (at8 l p ≠ 32)) = false → ∀ T', SubT T' [(6, .v (.int .i64 (least : Nat))), (5, .v (.int .i64 (p1 : Nat))), (4, .ptr (H.next + 1) 0), (2, .ptr H.next 0), (0, strA l)] → K3 T' H2 := fun p1 hp1 h0 T' hT' => by
      have hp1l : p1 ≤ l.length := by rw [hp1]; split <;> omega
      have hS := step_eq l p least p1 hp1
      rw [h0] at hS
      simp only [Bool.false_eq_true, if_false] at hS
      have hv1 := numV_lt l p1
      have he1 := numE_le hp1l
      refine hK3 _ _ ?_
      refine AW.sub hT' ?_
      clear hT' hK3 K3 h0
      refine rg fun K hK => ?_
      refine st qR221 <| st qR221 <| st (by exact SD.s rfl rfl rfl (by exact AStepD.callf rfl en89 rfl (number_calls _ l p1 hl hp1l))) <| st qR221 <| st qR512 <| st qR512 <| st qR220 <| st qR220 <| nt (hK _ _ ?_)
      clear hK K
      refine AW.seq_k (fun K5 hK5 => ?_)
      refine rg fun K hK => ?_
      refine st qR221 <| st qR221 <| st qR52 <| nt (hK _ _ ?_)
      clear hK K
      refine AW.cond _ rfl (fun hc => ?_) (fun hc => ?_)
      · have hlt2 : numV l p1 < least := by simpa using hc
        rw [if_pos hlt2] at hS
        have hno := hfail hS
        refine rg fun K hK => ?_
        refine st (by exact SD.s rfl rfl rfl (by exact flags0 rfl)) <| st0 (by exact ⟨rfl, rfl, (by first | exact AStepD.store_row (k := 64) tok rfl rfl qR214 rfl rfl rfl (by first | with_reducible assumption | exact row_len _ | exact row_zero) (by first | with_reducible assumption | exact row_len _ | exact row_zero) | exact AStepD.store' tok rfl rfl qR214 qR21 qR54 qR22 rfl qR21 rfl qR55 qR56)⟩) <| st qR220 <| nt (hK _ _ ?_)
        clear hK K
        refine AW.ret (RetQ.mk (.inr rfl) qR513 ⟨?_, qR58⟩)
        exact hret hno
      · have hlt2 : ¬ numV l p1 < least := by simpa using hc
        clear hc
        rw [if_neg hlt2] at hS
        obtain ⟨a, ha⟩ := Int.eq_ofNat_of_zero_le (show 0 ≤ numV l p1 by omega)
        rw [ha] at hS hv1
        simp only [ha]
        clear ha hlt2
        refine AW.skip ?_
        refine hK5 _ _ ?_; try clear hK5 K5
        refine rg fun K hK => ?_
        refine st qR221 <| st qR220 <| nt (hK _ _ ?_)
        clear hK K
        refine AW.seq_k (fun K6 hK6 => ?_)
        have hrun : ∀ b e, stepR l p least = some (a, b, e) → ∀ T', SubT T' [(9, .v (.int .i64 (b : Nat))), (8, .v (.int .i64 (e : Nat))), (7, .v (.int .i64 (a : Nat))), (4, .ptr (H.next + 1) 0), (2, .ptr H.next 0), (0, strA l)] → K6 T' H2 := fun b e hst T' hT' => by
          obtain ⟨hrd2, hpe⟩ := hrd.step hp hst
          obtain ⟨_, _, hab, hb64, hel, _⟩ := step_sound hst
          refine hK6 _ _ ?_
          refine AW.sub hT' ?_
          clear hT' hK6 K6 hS hfail hret hst
          refine AW.seq_k (fun K8 hK8 => ?_)
          refine rg fun K hK => ?_
          refine st qR221 <| st qR220 <| nt (hK _ _ ?_)
          clear hK K
          refine AW.block ?_
          refine AW.loop_at (ι := Nat) (fun k => [(12, .v (.int .i64 (k : Nat))), (9, .v (.int .i64 (b : Nat))), (8, .v (.int .i64 (e : Nat))), (4, .ptr (H.next + 1) 0), (2, .ptr H.next 0), (0, strA l)])
            (fun k H' => a ≤ k ∧ k ≤ b + 1 ∧ H'.get (H.next + 1) = some (.cells 75 (flat (flF fun j => inR rs j || (decide (a ≤ j) && decide (j < k))))) ∧ H'.get H.next = some (.cells 75 (flat (flF fun _ => false))) ∧ Keep H H') (fun k => b + 1 - k) a qR215
            ⟨Nat.le_refl _, by omega, by
              rw [g1, flF_congr (f := inR rs) (g := fun j => inR rs j || (decide (a ≤ j) && decide (j < a))) fun j _ => by
                by_cases hj : a ≤ j
                · rw [decide_eq_false (by omega : ¬ j < a), Bool.and_false, Bool.or_false]
                · rw [decide_eq_false hj, Bool.false_and, Bool.or_false]], g0, hk⟩ ?_
          rintro k H3 ⟨k1, k2, g31, g30, hk3⟩
          have hfl := row_len fun j => inR rs j || (decide (a ≤ j) && decide (j < k))
          refine AW.lts fun hlt => ?_
          refine AW.seq_k (fun K9 hK9 => ?_)
          refine rg fun K hK => ?_
          refine st qR221 <| st qR221 <| st qR59 <| nt (hK _ _ ?_)
          clear hK K
          refine AW.cond _ rfl (fun hc => ?_) (fun hc => ?_)
          · have hkb : k ≤ b := by simpa using hc
            clear hc
            refine AW.skip ?_
            refine hK9 _ _ ?_; try clear hK9 K9
            refine AW.seq_k (fun K10 hK10 => ?_)
            refine AW.block ?_
            refine AW.region ?_
            refine st qR221 <| st qR413 <| st0 (by exact ⟨rfl, rfl, (by exact AStepD.store' tok rfl rfl qR214 qR21 qR54 qR22 rfl qR21 rfl qR55 qR56)⟩) <| AL.nil ?_
            refine hK10 _ _ ?_; try clear hK10 K10
            refine AW.region ?_
            refine st qR221 <| st (by exact SD.s rfl rfl rfl (by first | exact AStepD.add rfl rfl rfl (by first | exact IntWalk.i64_in _ (by omega) | exact IntWalk.i64_in _ (by simp only [Bool.or_eq_true, Bool.and_eq_true, Bool.or_eq_false_iff, Bool.and_eq_false_iff, Bool.not_eq_true', Bool.not_eq_false', decide_eq_true_eq, decide_eq_false_iff_not, Int.not_lt, Int.not_le, beq_iff_eq] at *; omega) | exact rfl) | exact AStepD.str_add rfl rfl rfl (by omega))) <| st qR220 <| AL.nil ?_
            refine ⟨k + 1, by omega, qR215, by omega, by omega, ?_, qR214, qR58⟩
            rw [flF_put _ (fun j => inR rs j || (decide (a ≤ j) && decide (j < k + 1))) k _ (by omega) (by rw [decide_eq_true k1, decide_eq_true (Nat.lt_succ_self k)]; simp) (fun j hj hji => by rw [show decide (j < k + 1) = decide (j < k) from decide_eq_decide.2 (by omega)])]
            exact qR214
          · have hkb : k = b + 1 := by
              have : ¬ k ≤ b := by simpa using hc
              omega
            subst hkb
            clear hc
            refine AW.exit ?_
            refine hK8 _ _ ?_; try clear hK8 K8
            refine rg fun K hK => ?_
            refine st qR221 <| st (by exact SD.s rfl rfl rfl (by first | exact AStepD.add rfl rfl rfl (by first | exact IntWalk.i64_in _ (by omega) | exact IntWalk.i64_in _ (by simp only [Bool.or_eq_true, Bool.and_eq_true, Bool.or_eq_false_iff, Bool.and_eq_false_iff, Bool.not_eq_true', Bool.not_eq_false', decide_eq_true_eq, decide_eq_false_iff_not, Int.not_lt, Int.not_le, beq_iff_eq] at *; omega) | exact rfl) | exact AStepD.str_add rfl rfl rfl (by omega))) <| st qR220 <| nt (hK _ _ ?_)
            clear hK K
            refine AW.region ?_
            refine st qR221 <| st qR220 <| AL.nil ?_
            refine ⟨(e, b + 2, rs ++ [(a, b)]), by show l.length - e < l.length - p; omega, qR215, hrd2, by show b + 2 ≤ 65; omega, ?_, g30, hk3⟩
            rw [g31]
            show _ = some (AObj.cells 75 (flat (flF (inR (rs ++ [(a, b)])))))
            rw [flF_congr (g := inR (rs ++ [(a, b)])) fun j _ => by
              rw [inR_append, inR_cons]
              show _ = (inR rs j || ((decide (a ≤ j) && decide (j ≤ b)) || false))
              rw [Bool.or_false, show decide (j < b + 1) = decide (j ≤ b) from decide_eq_decide.2 (by omega)]]
        refine rg fun K hK => ?_
        refine st qR221 <| st qR221 <| st (by exact SD.s rfl rfl rfl (by exact strA_len tok rfl rfl rfl rfl)) <| st qR52 <| st qR221 <| st (GW.p (l := [0]) qR227) <| st (GW.p (l := [8]) qR227) <| st (GW.p (l := [42, 43]) (by first | exact GW.yes rfl rfl rfl rfl rfl rfl rfl (by exact strA_index (i := numE l p1) tok rfl rfl rfl rfl rfl rfl (by have := of_decide_eq_true hb; omega)) | exact GW.no rfl rfl rfl rfl rfl rfl rfl | exact GW.none rfl rfl rfl rfl rfl | exact GW.may rfl rfl rfl rfl rfl rfl (fun hb => by (repeat (first | apply UW.yes rfl (gpf hb) | apply UW.no)); exact UW.nil (by exact strA_index (i := numE l p1) tok rfl rfl rfl rfl rfl rfl (by have := of_decide_eq_true hb; omega))) | exact GW.may2 rfl rfl rfl rfl rfl rfl (fun _ hb => by (repeat (first | apply UW.yes rfl (gpf hb) | apply UW.no)); exact UW.nil (by exact strA_index (i := numE l p1) tok rfl rfl rfl rfl rfl rfl (by have := of_decide_eq_true hb; omega))))) <| st (GW.p (l := [44]) qR514) <| st qR224 <| nt (hK _ _ ?_)
        clear hK K
        refine AW.cond _ rfl (fun hc => ?_) (fun hc => ?_)
        · have hc2 : (decide (numE l p1 < l.length) && decide (at8 l (numE l p1) = 45)) = true := by
            simp only [Bool.and_eq_true, decide_eq_true_eq] at hc ⊢
            omega
          rw [if_pos hc2] at hS
          have hel : numE l p1 + 1 ≤ l.length := by
            simp only [Bool.and_eq_true, decide_eq_true_eq] at hc2
            omega
          have hv2 := numV_lt l (numE l p1 + 1)
          clear hc hc2
          refine rg fun K hK => ?_
          refine st qR221 <| st qR221 <| st (by exact SD.s rfl rfl rfl (by exact AStepD.add (r := ((numE l p1 + 1 : Nat) : Int)) rfl rfl rfl (IntWalk.i64_in _ (by omega)))) <| st (by exact SD.s rfl rfl rfl (by exact AStepD.callf rfl en89 rfl (number_calls _ l (numE l p1 + 1) hl hel))) <| st qR221 <| st qR512 <| st qR512 <| st qR220 <| st qR220 <| nt (hK _ _ ?_)
          clear hK K
          refine AW.seq_k (fun K7 hK7 => ?_)
          refine rg fun K hK => ?_
          refine st qR221 <| st qR221 <| st qR59 <| nt (hK _ _ ?_)
          clear hK K
          refine AW.cond _ rfl (fun hc => ?_) (fun hc => ?_)
          · have hle2 : numV l (numE l p1 + 1) ≤ a := by simpa using hc
            rw [if_pos hle2] at hS
            have hno := hfail hS
            refine rg fun K hK => ?_
            refine st (by exact SD.s rfl rfl rfl (by exact flags0 rfl)) <| st0 (by exact ⟨rfl, rfl, (by first | exact AStepD.store_row (k := 64) tok rfl rfl qR214 rfl rfl rfl (by first | with_reducible assumption | exact row_len _ | exact row_zero) (by first | with_reducible assumption | exact row_len _ | exact row_zero) | exact AStepD.store' tok rfl rfl qR214 qR21 qR54 qR22 rfl qR21 rfl qR55 qR56)⟩) <| st qR220 <| nt (hK _ _ ?_)
            clear hK K
            refine AW.ret (RetQ.mk (.inr rfl) qR513 ⟨?_, qR58⟩)
            exact hret hno
          · have hle2 : ¬ numV l (numE l p1 + 1) ≤ a := by simpa using hc
            clear hc
            rw [if_neg hle2] at hS
            obtain ⟨b, hb⟩ := Int.eq_ofNat_of_zero_le (show 0 ≤ numV l (numE l p1 + 1) by omega)
            rw [hb, Int.toNat_natCast, Int.toNat_natCast] at hS
            simp only [hb]
            refine AW.skip ?_
            refine hK7 _ _ ?_; try clear hK7 K7
            refine rg fun K hK => ?_
            refine st qR221 <| st qR220 <| nt (hK _ _ ?_)
            clear hK K
            refine AW.region ?_
            refine st qR221 <| st qR220 <| AL.nil ?_
            exact hrun b _ hS _ qR215
        · have hc2 : ¬ (decide (numE l p1 < l.length) && decide (at8 l (numE l p1) = 45)) = true := by
            intro h
            have : (decide (((numE l p1 : Nat) : Int) < (l.length : Nat)) && decide ((at8 l (numE l p1) : Nat) = (45 : Int))) = true := by
              simp only [Bool.and_eq_true, decide_eq_true_eq] at h ⊢
              omega
            rw [hc] at this
            cases this
          rw [if_neg hc2, Int.toNat_natCast] at hS
          refine AW.skip ?_
          exact hrun a _ hS _ qR215
    refine rg fun K hK => ?_
    refine st qR221 <| st (by exact SD.s rfl rfl rfl (by exact AStepD.bool (AStepD.gtr rfl rfl rfl) (c := decide (0 < p)) (decide_eq_decide.2 (by omega)))) <| nt (hK _ _ ?_)
    clear hK K
    refine AW.cond _ rfl (fun hc => ?_) (fun hc => ?_)
    · have hp0 : 0 < p := of_decide_eq_true hc
      refine AW.seq_k (fun K4 hK4 => ?_)
      refine rg fun K hK => ?_
      refine st qR221 <| st qR221 <| st (by exact SD.s rfl rfl rfl (by exact strA_index (i := p) tok rfl rfl rfl rfl rfl rfl hp)) <| st (by exact SD.s rfl rfl rfl (by exact AStepD.bool (AStepD.neq rfl rfl rfl) (c := decide (at8 l p ≠ 32)) (decide_eq_decide.2 (by omega)))) <| nt (hK _ _ ?_)
      clear hK K
      refine AW.cond _ rfl (fun hc2 => ?_) (fun hc2 => ?_)
      · have hno := hfail (by rw [step_eq l p least _ rfl, hc, hc2]; rfl)
        refine rg fun K hK => ?_
        refine st (by exact SD.s rfl rfl rfl (by exact flags0 rfl)) <| st0 (by exact ⟨rfl, rfl, (by first | exact AStepD.store_row (k := 64) tok rfl rfl qR214 rfl rfl rfl (by first | with_reducible assumption | exact row_len _ | exact row_zero) (by first | with_reducible assumption | exact row_len _ | exact row_zero) | exact AStepD.store' tok rfl rfl qR214 qR21 qR54 qR22 rfl qR21 rfl qR55 qR56)⟩) <| st qR220 <| nt (hK _ _ ?_)
        clear hK K
        refine AW.ret (RetQ.mk (.inr rfl) qR513 ⟨?_, qR58⟩)
        exact hret hno
      · refine AW.skip ?_
        refine hK4 _ _ ?_; try clear hK4 K4
        refine AW.region ?_
        refine st qR221 <| st (by exact SD.s rfl rfl rfl (by exact AStepD.add (r := ((p + 1 : Nat) : Int)) rfl rfl rfl (IntWalk.i64_in _ (by omega)))) <| st qR220 <| AL.nil ?_
        exact hgo (p + 1) (by rw [if_pos hp0]) (by rw [hc, hc2]; rfl) _ qR215
    · have hp0 : ¬ 0 < p := of_decide_eq_false hc
      refine AW.skip ?_
      exact hgo p (by rw [if_neg hp0]) (by rw [hc]; rfl) _ qR215
  · have hp : ¬ p < l.length := by simpa using hc
    have hpo := hrd.done hp
    have hfl : flF (inR rs) = flF (setB rs).getLsbD := flF_congr fun j hj => (setB_bit rs j hj).symm
    rw [hfl] at g1
    refine AW.exit ?_
    refine hK1 _ _ ?_; try clear hK1 K1
    refine rg fun K hK => ?_
    refine st (by exact SD.s rfl rfl rfl (by first | exact AStepD.load_row tok rfl rfl rfl qR214 rfl (show _ = 64 from rfl) (by first | with_reducible assumption | exact row_len _ | exact row_zero) | exact AStepD.load_cel_ip tok rfl rfl rfl rfl (show _ = 64 from rfl) rfl | exact AStepD.load_agg tok rfl rfl rfl qR214 rfl (show _ = 64 from rfl) qR55 qR57 | exact AStepD.load_agg_ip tok rfl rfl rfl rfl (show _ = 64 from rfl) qR55 qR57)) <| st0 (by exact ⟨rfl, rfl, (by first | exact AStepD.store_row (k := 64) tok rfl rfl qR214 rfl rfl rfl (by first | with_reducible assumption | exact row_len _ | exact row_zero) (by first | with_reducible assumption | exact row_len _ | exact row_zero) | exact AStepD.store' tok rfl rfl qR214 qR21 qR54 qR22 rfl qR21 rfl qR55 qR56)⟩) <| st qR220 <| nt (hK _ _ ?_)
    clear hK K
    refine AW.ret (RetQ.mk (.inr rfl) qR513 ⟨?_, qR58⟩)
    rw [parseS, hpo]; rfl
end Go.Proofs.YtbcanlmpfhkklaaGreatDoor
