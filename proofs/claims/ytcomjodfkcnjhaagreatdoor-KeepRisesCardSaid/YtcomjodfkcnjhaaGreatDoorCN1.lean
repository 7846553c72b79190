/- Numbers, plainly: digits and their value. -/
import Derived.Test.YtcomjodfkcnjhaaGreatDoorCW3
import Derived.Lib.AtoiTie
import Derived.Lib.ItoaNum
import Derived.Lib.SlicesCompact
import Derived.Test.YtcomjodfkcnjhaaGreatDoorCE4
import Derived.Shelf.Slices.CompactI
set_option linter.unusedSimpArgs false
set_option linter.unusedVariables false
namespace Go.Proofs.YtcomjodfkcnjhaaGreatDoor
open Go.Ax
open Cel (c)
set_option linter.unusedSimpArgs false
set_option linter.unusedVariables false

def isD (b : UInt8) : Bool := decide (48 ≤ b.toNat) && decide (b.toNat ≤ 57)
def valF (acc : Nat) : List UInt8 → Nat
  | [] => acc
  | b :: r => valF (10 * acc + (b.toNat - 48)) r
theorem valF_snoc (l : List UInt8) (b : UInt8) : ∀ acc, valF acc (l ++ [b]) = 10 * valF acc l + (b.toNat - 48) := by
  induction l with
  | nil => intro acc; rfl
  | cons c r ih => intro acc; exact ih _
def okN (l : List UInt8) : Bool := decide (0 < l.length) && l.all isD && (decide (l.length = 1) || decide (l.head? ≠ some 48))
theorem isD_of {b : UInt8} (h : isD b = true) : 48 ≤ b.toNat ∧ b.toNat ≤ 57 := by
  simp only [isD, Bool.and_eq_true, decide_eq_true_eq] at h
  exact h
theorem val_dec : ∀ (n : Nat), okN (Lib.decDigits n) = true ∧ valF 0 (Lib.decDigits n) = n ∧ (0 < n → (Lib.decDigits n).head? ≠ some 48) := by
  intro n
  induction n using Nat.strongRecOn with
  | _ n ih =>
    have hd : ∀ d, d < 10 → isD (UInt8.ofNat (48 + d)) = true ∧ (UInt8.ofNat (48 + d)).toNat = 48 + d := fun d hd => by
      have h1 : (UInt8.ofNat (48 + d)).toNat = 48 + d := UInt8.toNat_ofNat_of_lt' (show 48 + d < 256 by omega)
      exact ⟨by simp only [isD, h1, Bool.and_eq_true, decide_eq_true_eq]; omega, h1⟩
    by_cases h : n < 10
    · rw [Lib.decDigits_one h]
      obtain ⟨d1, d2⟩ := hd n h
      refine ⟨by rw [okN, List.all_cons, d1]; rfl, ?_, fun h0 e => ?_⟩
      · show 10 * 0 + ((UInt8.ofNat (48 + n)).toNat - 48) = n
        rw [d2]; omega
      · simp only [List.head?_cons, Option.some.injEq] at e
        have := congrArg UInt8.toNat e
        rw [d2] at this
        have h48 : (48 : UInt8).toNat = 48 := rfl
        omega
    · obtain ⟨i1, i2, i3⟩ := ih (n / 10) (by omega)
      have i4 := i3 (by omega)
      obtain ⟨d1, d2⟩ := hd (n % 10) (by omega)
      rw [Lib.decDigits, dif_neg h]
      have hl : 0 < (Lib.decDigits (n / 10)).length := by
        simp only [okN, Bool.and_eq_true, decide_eq_true_eq] at i1
        exact i1.1.1
      have hh : (Lib.decDigits (n / 10) ++ [UInt8.ofNat (48 + n % 10)]).head? = (Lib.decDigits (n / 10)).head? := by
        cases hq : Lib.decDigits (n / 10) with
        | nil => rw [hq] at hl; simp at hl
        | cons c r => rfl
      refine ⟨?_, ?_, fun _ => by rw [hh]; exact i4⟩
      · simp only [okN, Bool.and_eq_true, Bool.or_eq_true, decide_eq_true_eq, List.all_append, List.all_cons, List.all_nil, Bool.and_true] at i1 ⊢
        exact ⟨⟨by simp, i1.1.2, d1⟩, .inr (by rw [hh]; exact i4)⟩
      · rw [valF_snoc, i2, d2]; omega
theorem decFrom_val : ∀ (l : List UInt8) (acc : Nat), l.all isD = true → Lib.decFrom acc l = some (valF acc l)
  | [], _, _ => rfl
  | b :: r, acc, h => by
    simp only [List.all_cons, Bool.and_eq_true] at h
    have hb := isD_of h.1
    rw [Lib.decFrom, Lib.digitVal, if_pos hb]
    show Lib.decFrom (acc * 10 + (b.toNat - 48)) r = some (valF (10 * acc + (b.toNat - 48)) r)
    rw [Nat.mul_comm acc 10]
    exact decFrom_val r _ h.2
theorem atoi_dec {n : Nat} (h : (Lib.decDigits n).length ≤ 15) : Lib.atoiAll (Lib.decDigits n) = .ok (n : Int) := by
  obtain ⟨h1, h2, _⟩ := val_dec n
  rw [Lib.atoiAll_short _ (by omega)]
  generalize Lib.decDigits n = l at h h1 h2
  simp only [okN, Bool.and_eq_true, decide_eq_true_eq] at h1
  cases l with
  | nil => simp at h1
  | cons b r =>
    have hb := isD_of (by have := h1.1.2; simp only [List.all_cons, Bool.and_eq_true] at this; exact this.1 : isD b = true)
    have e1 : (b == 45) = false := by
      rw [beq_eq_false_iff_ne]
      intro e
      rw [e] at hb
      have h45 : (45 : UInt8).toNat = 45 := rfl
      omega
    have e2 : (b == 43) = false := by
      rw [beq_eq_false_iff_ne]
      intro e
      rw [e] at hb
      have h45 : (43 : UInt8).toNat = 43 := rfl
      omega
    rw [Lib.atoi, e1, e2]
    simp only [Bool.false_eq_true, if_false]
    rw [Lib.decNat, show (b :: r).isEmpty = false from rfl]
    simp only [Bool.false_eq_true, if_false]
    rw [decFrom_val _ _ h1.1.2, h2]
    rfl
end Go.Proofs.YtcomjodfkcnjhaaGreatDoor

/- Rising lists, and who has which slot, plainly. -/

namespace Go.Proofs.YtcomjodfkcnjhaaGreatDoor
open Go.Ax
open Cel (c)
set_option linter.unusedSimpArgs false
set_option linter.unusedVariables false

/-! Conf, plain: strictly rising lists of numbers. -/
def insU (x : Int) : List Int → List Int
  | [] => [x]
  | y :: l => if x < y then x :: y :: l else if x = y then y :: l else y :: insU x l
def uniqU : List Int → List Int
  | [] => []
  | x :: l => insU x (uniqU l)
theorem mem_insU {x y : Int} : ∀ {l : List Int}, y ∈ insU x l ↔ y = x ∨ y ∈ l
  | [] => by simp [insU]
  | z :: l => by
    rw [insU]; split
    · simp
    · split
      · rename_i h; subst h; simp
      · rw [List.mem_cons, mem_insU (l := l), List.mem_cons]
        constructor
        · rintro (h | h | h) <;> simp [h]
        · rintro (h | h | h) <;> simp [h]
theorem mem_uniqU {y : Int} : ∀ {l : List Int}, y ∈ uniqU l ↔ y ∈ l
  | [] => by simp [uniqU]
  | x :: l => by rw [uniqU, mem_insU, mem_uniqU (l := l), List.mem_cons]
theorem insU_rise {x : Int} : ∀ {l : List Int}, l.Pairwise (· < ·) → (insU x l).Pairwise (· < ·)
  | [], _ => by simp [insU]
  | z :: l, h => by
    rw [List.pairwise_cons] at h
    rw [insU]; split
    · rename_i hx
      rw [List.pairwise_cons]
      refine ⟨fun y hy => ?_, List.pairwise_cons.2 h⟩
      rcases List.mem_cons.1 hy with e | hy
      · subst e; exact hx
      · exact Int.lt_trans hx (h.1 y hy)
    · split
      · exact List.pairwise_cons.2 h
      · rename_i h1 h2
        rw [List.pairwise_cons]
        refine ⟨fun y hy => ?_, insU_rise h.2⟩
        rcases mem_insU.1 hy with e | hy
        · subst e; omega
        · exact h.1 y hy
theorem uniqU_rise : ∀ (l : List Int), (uniqU l).Pairwise (· < ·)
  | [] => by simp [uniqU]
  | _ :: l => by rw [uniqU]; exact insU_rise (uniqU_rise l)
theorem rise_ext : ∀ {l m : List Int}, l.Pairwise (· < ·) → m.Pairwise (· < ·) → (∀ x, x ∈ l ↔ x ∈ m) → l = m
  | [], [], _, _, _ => rfl
  | [], y :: m, _, _, h => absurd ((h y).2 (List.mem_cons_self ..)) (List.not_mem_nil)
  | x :: l, [], _, _, h => absurd ((h x).1 (List.mem_cons_self ..)) (List.not_mem_nil)
  | x :: l, y :: m, hl, hm, h => by
    rw [List.pairwise_cons] at hl hm
    have e : x = y := by
      have h1 := (h x).1 (List.mem_cons_self ..)
      have h2 := (h y).2 (List.mem_cons_self ..)
      rcases List.mem_cons.1 h1 with e | h1
      · exact e
      rcases List.mem_cons.1 h2 with e | h2
      · exact e.symm
      have a := hm.1 x h1; have b := hl.1 y h2; omega
    subst e
    refine congrArg (x :: ·) (rise_ext hl.2 hm.2 fun z => ⟨fun hz => ?_, fun hz => ?_⟩)
    · rcases List.mem_cons.1 ((h z).1 (List.mem_cons_of_mem _ hz)) with e | hz'
      · subst e; exact absurd (hl.1 z hz) (Int.lt_irrefl z)
      · exact hz'
    · rcases List.mem_cons.1 ((h z).2 (List.mem_cons_of_mem _ hz)) with e | hz'
      · subst e; exact absurd (hm.1 z hz) (Int.lt_irrefl z)
      · exact hz'
theorem uniqU_eq {l m : List Int} (hm : m.Pairwise (· < ·)) (h : ∀ x, x ∈ m ↔ x ∈ l) : m = uniqU l :=
  rise_ext hm (uniqU_rise l) fun x => (h x).trans mem_uniqU.symm

/-! Who has which slot: `g i` is owner and epoch of slot i. -/
def putS (g f : Nat → Int × Int) (p : Int × Int) : Nat → Int × Int := fun i => if g i = p then p else f i
theorem fold_put (g : Nat → Int × Int) : ∀ (L : List (Int × Int)) (f : Nat → Int × Int) (i : Nat), L.foldl (putS g) f i = if g i ∈ L then g i else f i
  | [], f, i => by simp
  | p :: L, f, i => by
    rw [List.foldl_cons, fold_put g L, putS]
    by_cases h : g i ∈ L
    · simp [h]
    · by_cases e : g i = p
      · subst e; simp [h]
      · simp [h, e]
def gAll (g : Nat → Int × Int) : List (Int × Int) := (List.range 64).map g
def ownersG (g : Nat → Int × Int) : List Int := uniqU (((gAll g).map Prod.fst).filter fun w => decide (w ≠ 0))
def epochsG (g : Nat → Int × Int) (w : Int) : List Int := uniqU (((gAll g).filter fun p => decide (p.1 = w)).map Prod.snd)
def pairsG (g : Nat → Int × Int) : List (Int × Int) := (ownersG g).flatMap fun w => (epochsG g w).map fun e => (w, e)
theorem mem_ownersG {g : Nat → Int × Int} {w : Int} : w ∈ ownersG g ↔ w ≠ 0 ∧ ∃ i, i < 64 ∧ (g i).1 = w := by
  rw [ownersG, mem_uniqU, List.mem_filter, gAll, List.map_map, List.mem_map]
  constructor
  · rintro ⟨⟨i, hi, e⟩, h⟩
    exact ⟨of_decide_eq_true h, i, List.mem_range.1 hi, e⟩
  · rintro ⟨h, i, hi, e⟩
    exact ⟨⟨i, List.mem_range.2 hi, e⟩, decide_eq_true h⟩
theorem mem_epochsG {g : Nat → Int × Int} {w e : Int} : e ∈ epochsG g w ↔ ∃ i, i < 64 ∧ g i = (w, e) := by
  rw [epochsG, mem_uniqU, List.mem_map]
  constructor
  · rintro ⟨p, hp, rfl⟩
    rw [List.mem_filter, gAll, List.mem_map] at hp
    obtain ⟨⟨i, hi, rfl⟩, h⟩ := hp
    refine ⟨i, List.mem_range.1 hi, ?_⟩
    have := of_decide_eq_true h
    rw [← this]
  · rintro ⟨i, hi, h⟩
    refine ⟨(w, e), ?_, rfl⟩
    rw [List.mem_filter, gAll, List.mem_map]
    exact ⟨⟨i, List.mem_range.2 hi, h⟩, by simp⟩
theorem mem_pairsG {g : Nat → Int × Int} {p : Int × Int} : p ∈ pairsG g ↔ p.1 ≠ 0 ∧ ∃ i, i < 64 ∧ g i = p := by
  rw [pairsG, List.mem_flatMap]
  constructor
  · rintro ⟨w, hw, h⟩
    obtain ⟨e, he, rfl⟩ := List.mem_map.1 h
    exact ⟨(mem_ownersG.1 hw).1, mem_epochsG.1 he⟩
  · rintro ⟨h, i, hi, e⟩
    exact ⟨p.1, mem_ownersG.2 ⟨h, i, hi, by rw [e]⟩, List.mem_map.2 ⟨p.2, mem_epochsG.2 ⟨i, hi, e⟩, rfl⟩⟩
theorem fold_pairs (g : Nat → Int × Int) (hg : ∀ i, i < 64 → (g i).1 = 0 → (g i).2 = 0) (i : Nat) (hi : i < 64) : (pairsG g).foldl (putS g) (fun _ => (0, 0)) i = g i := by
  rw [fold_put]
  by_cases h : (g i).1 = 0
  · rw [if_neg fun hm => (mem_pairsG.1 hm).1 h]
    exact Prod.ext h.symm (hg i hi h).symm
  · rw [if_pos (mem_pairsG.2 ⟨h, i, hi, rfl⟩)]
def ltP (p q : Int × Int) : Prop := p.1 < q.1 ∨ (p.1 = q.1 ∧ p.2 < q.2)
theorem pairs_rise (f : Int → List Int) (hf : ∀ w, (f w).Pairwise (· < ·)) : ∀ {l : List Int}, l.Pairwise (· < ·) → (l.flatMap fun w => (f w).map fun e => (w, e)).Pairwise ltP
  | [], _ => by simp
  | w :: l, h => by
    rw [List.pairwise_cons] at h
    rw [List.flatMap_cons, List.pairwise_append]
    refine ⟨?_, pairs_rise f hf h.2, fun p hp q hq => ?_⟩
    · rw [List.pairwise_map]
      exact (hf w).imp fun h => .inr ⟨rfl, h⟩
    · obtain ⟨e, _, rfl⟩ := List.mem_map.1 hp
      obtain ⟨v, hv, hq⟩ := List.mem_flatMap.1 hq
      obtain ⟨e', _, rfl⟩ := List.mem_map.1 hq
      exact .inl (h.1 v hv)
theorem pairsG_rise (g : Nat → Int × Int) : (pairsG g).Pairwise ltP :=
  pairs_rise (epochsG g) (fun _ => uniqU_rise _) (uniqU_rise _)
theorem pairsG_nodup (g : Nat → Int × Int) : (pairsG g).Nodup :=
  (pairsG_rise g).imp fun {p q} h e => by
    subst e
    rcases h with h | ⟨_, h⟩ <;> exact Int.lt_irrefl _ h
def firstG (g : Nat → Int × Int) (i : Nat) : Bool := decide ((g i).1 ≠ 0) && (List.range i).all fun k => decide (g k ≠ g i)
theorem first_ex (g : Nat → Int × Int) : ∀ (n i : Nat), i < n → ∃ j, j ≤ i ∧ g j = g i ∧ ∀ k, k < j → g k ≠ g i
  | 0, _, h => absurd h (Nat.not_lt_zero _)
  | n + 1, i, h => by
    by_cases hk : ∃ k, k < i ∧ g k = g i
    · obtain ⟨k, hk, e⟩ := hk
      obtain ⟨j, hj, ej, hf⟩ := first_ex g n k (by omega)
      exact ⟨j, by omega, ej.trans e, fun m hm => e ▸ hf m hm⟩
    · exact ⟨i, Nat.le_refl i, rfl, fun k hk' e => hk ⟨k, hk', e⟩⟩
theorem perm_same {α : Type} [DecidableEq α] : ∀ {l m : List α}, l.Nodup → m.Nodup → (∀ x, x ∈ l ↔ x ∈ m) → l.length = m.length
  | [], [], _, _, _ => rfl
  | [], y :: m, _, _, h => absurd ((h y).2 (List.mem_cons_self ..)) (List.not_mem_nil)
  | x :: l, m, hl, hm, h => by
    have hx : x ∈ m := (h x).1 (List.mem_cons_self ..)
    rw [List.nodup_cons] at hl
    have e := List.length_erase_of_mem hx
    have hp : 0 < m.length := List.length_pos_of_mem hx
    have := perm_same (l := l) (m := m.erase x) hl.2 (hm.erase x) fun y => by
      rw [hm.mem_erase_iff, ← h y, List.mem_cons]
      constructor
      · intro hy
        exact ⟨fun e => hl.1 (e ▸ hy), .inr hy⟩
      · rintro ⟨hn, e | hy⟩
        · exact absurd e hn
        · exact hy
    rw [List.length_cons]; omega
theorem count_first (g : Nat → Int × Int) : ((List.range 64).filter (firstG g)).length = (pairsG g).length := by
  rw [← List.length_map (f := g)]
  refine perm_same ?_ (pairsG_nodup g) fun p => ?_
  · rw [List.Nodup, List.pairwise_map]
    refine (List.pairwise_lt_range.filter _).imp_of_mem fun {i j} hi hj h e => ?_
    have := (List.mem_filter.1 hj).2
    rw [firstG, Bool.and_eq_true, List.all_eq_true] at this
    exact of_decide_eq_true (this.2 i (List.mem_range.2 h)) e
  · rw [mem_pairsG, List.mem_map]
    constructor
    · rintro ⟨i, hi, rfl⟩
      rw [List.mem_filter, firstG, Bool.and_eq_true] at hi
      exact ⟨of_decide_eq_true hi.2.1, i, List.mem_range.1 hi.1, rfl⟩
    · rintro ⟨h, i, hi, rfl⟩
      obtain ⟨j, hj, e, hf⟩ := first_ex g (i + 1) i (Nat.lt_succ_self i)
      refine ⟨j, List.mem_filter.2 ⟨List.mem_range.2 (by omega), ?_⟩, e⟩
      rw [firstG, Bool.and_eq_true, List.all_eq_true]
      exact ⟨decide_eq_true (e ▸ h), fun k hk => decide_eq_true (e ▸ hf k (List.mem_range.1 hk))⟩
end Go.Proofs.YtcomjodfkcnjhaaGreatDoor

/- A line's words and numbers, plainly: what is written is read. -/

namespace Go.Proofs.YtcomjodfkcnjhaaGreatDoor
open Go.Ax
open Cel (c)
set_option linter.unusedSimpArgs false
set_option linter.unusedVariables false

def interB : List (List UInt8) → List Int → List (List UInt8)
  | w :: ws, n :: ns => w :: Lib.itoa n :: interB ws ns
  | _, _ => []
def fieldsB : List (List UInt8) → List (List UInt8) → Option (List Int)
  | [], [] => some []
  | w :: ws, p :: q :: ps => if p = w ∧ atoiB q = false then (fieldsB ws ps).map (atoiV q :: ·) else none
  | _, _ => none
theorem fields_inter : ∀ (ws : List (List UInt8)) (ns : List Int), ws.length = ns.length → (∀ n ∈ ns, atoiB (Lib.itoa n) = false ∧ atoiV (Lib.itoa n) = n) → fieldsB ws (interB ws ns) = some ns
  | [], [], _, _ => rfl
  | [], _ :: _, h, _ => by simp at h
  | _ :: _, [], h, _ => by simp at h
  | w :: ws, n :: ns, h, hn => by
    have h1 := hn n (List.mem_cons_self ..)
    have h2 := fields_inter ws ns (by simpa using h) fun m hm => hn m (List.mem_cons_of_mem _ hm)
    rw [interB, fieldsB, if_pos ⟨rfl, h1.1⟩, h2, h1.2]
    rfl
theorem fields_len : ∀ {ws ps : List (List UInt8)} {ns : List Int}, fieldsB ws ps = some ns → ps.length = 2 * ws.length ∧ ns.length = ws.length
  | [], [], ns, h => by
    rw [fieldsB] at h; cases h; exact ⟨rfl, rfl⟩
  | [], _ :: _, ns, h => by simp [fieldsB] at h
  | _ :: _, [], ns, h => by simp [fieldsB] at h
  | _ :: _, [_], ns, h => by simp [fieldsB] at h
  | w :: ws, p :: q :: ps, ns, h => by
    rw [fieldsB] at h
    split at h
    · cases e : fieldsB ws ps with
      | none => rw [e] at h; simp at h
      | some m =>
        rw [e] at h
        have := fields_len e
        simp only [Option.map_some, Option.some.injEq] at h
        subst h
        simp only [List.length_cons]; omega
    · cases h
theorem itoa_nat (n : Nat) : Lib.itoa (n : Int) = Lib.decDigits n := by
  simp [Lib.itoa]
theorem nDig_le : ∀ (k u : Nat), u < 10 ^ (k + 1) → Lib.nDigits u ≤ k + 1
  | 0, u, h => by rw [Lib.nDigits_small (by simpa using h)]; omega
  | k + 1, u, h => by
    by_cases h10 : u < 10
    · rw [Lib.nDigits_small h10]; omega
    · have := nDig_le k (u / 10) (by rw [Nat.pow_succ] at h; omega)
      rw [Lib.nDigits_big h10]; omega
theorem dec_short {n : Nat} (h : n < 1000000000000000) : (Lib.decDigits n).length ≤ 15 := by
  rw [Lib.decDigits_length]
  exact nDig_le 14 n (by omega)
theorem num_back {n : Int} (h0 : 0 ≤ n) (h1 : n < 1000000000000000) : atoiB (Lib.itoa n) = false ∧ atoiV (Lib.itoa n) = n := by
  obtain ⟨m, rfl⟩ : ∃ m : Nat, n = m := ⟨n.toNat, by omega⟩
  rw [itoa_nat, atoiB, atoiV, atoi_dec (dec_short (by omega))]
  exact ⟨rfl, rfl⟩
theorem dec_clean (n : Nat) : (32 : UInt8) ∉ Lib.decDigits n ∧ (10 : UInt8) ∉ Lib.decDigits n := by
  have h := (val_dec n).1
  rw [okN, Bool.and_eq_true, Bool.and_eq_true, List.all_eq_true] at h
  constructor <;> intro hm <;> have := isD_of (h.1.2 _ hm) <;> simp at this
theorem inter_clean : ∀ (ws : List (List UInt8)) (ns : List Int), (∀ w ∈ ws, (32 : UInt8) ∉ w) → (∀ n ∈ ns, 0 ≤ n) → ∀ p ∈ interB ws ns, (32 : UInt8) ∉ p
  | [], _, _, _, p, hp => by simp [interB] at hp
  | _ :: _, [], _, _, p, hp => by simp [interB] at hp
  | w :: ws, n :: ns, hw, hn, p, hp => by
    rw [interB] at hp
    rcases List.mem_cons.1 hp with rfl | hp
    · exact hw _ (List.mem_cons_self ..)
    rcases List.mem_cons.1 hp with rfl | hp
    · obtain ⟨m, rfl⟩ : ∃ m : Nat, n = m := ⟨n.toNat, by have := hn n (List.mem_cons_self ..); omega⟩
      rw [itoa_nat]; exact (dec_clean m).1
    · exact inter_clean ws ns (fun v hv => hw v (List.mem_cons_of_mem _ hv)) (fun v hv => hn v (List.mem_cons_of_mem _ hv)) p hp
theorem line_back (ws : List (List UInt8)) (ns : List Int) (hne : ws ≠ []) (hl : ws.length = ns.length) (hw : ∀ w ∈ ws, (32 : UInt8) ∉ w) (hn : ∀ n ∈ ns, 0 ≤ n ∧ n < 1000000000000000) : fieldsB ws (splitB 32 (Lib.join (interB ws ns) [32])) = some ns := by
  rw [split_join 32 (interB ws ns) ?_ (inter_clean ws ns hw fun n h => (hn n h).1)]
  · exact fields_inter ws ns hl fun n h => num_back (hn n h).1 (hn n h).2
  · cases ws with
    | nil => exact absurd rfl hne
    | cons w ws => cases ns with
      | nil => simp at hl
      | cons n ns => simp [interB]
end Go.Proofs.YtcomjodfkcnjhaaGreatDoor

/- Itoa and the reference's Digits at any number. -/

namespace Go.Proofs.YtcomjodfkcnjhaaGreatDoor
open Go.Ax
open Cel (c)
set_option linter.unusedSimpArgs false
set_option linter.unusedVariables false
open Cel (c)

theorem cvs_vals {ρ : Rho} {I : Imm} (f : Int → Value) : ∀ (zs : List Int) (vs : List Value), CVs ρ I (zs.map fun z => .v (f z)) vs → vs = zs.map f
  | [], vs, h => by
    have := h.1
    exact List.eq_nil_of_length_eq_zero (by simpa using this)
  | z :: r, [], h => by have := h.1; simp at this
  | z :: r, v :: vs, h => by
    have h0 := cv_v (h.2 0 _ _ rfl rfl)
    rw [List.map_cons, h0, cvs_vals f r vs ⟨by have := h.1; simpa using this, fun i a u ha hu => h.2 (i + 1) a u (by simpa using ha) (by simpa using hu)⟩]
theorem itoaG_calls (H : AHeap) (n : Int) (h0 : -9223372036854775808 ≤ n) (h1 : n ≤ 9223372036854775807) : ACalls Tryz.prog 60 [.v (.int .i64 n)] H (fun r H' => r = strA (Lib.itoa n) ∧ H' = H) := by
  refine ACalls.of_below fun ρ I w vs hc ha => ?_
  obtain ⟨v, rfl⟩ : ∃ v, vs = [v] := by
    have := ha.1
    match vs, this with
    | [v], _ => exact ⟨v, rfl⟩
  have hv := cv_v (ha.2 0 _ _ rfl rfl)
  subst hv
  obtain ⟨arr, g1, g2⟩ := hc.glob 2 _ rfl
  obtain ⟨t, fz, g4⟩ := hc.imm _ _ g1
  have g5 := cvs_vals (fun z => Value.int .u64 z) _ _ g2
  have htab : Lib.TabIs Tryz.prog w "internal/strconv.uint64pow10" .u64 Lib.pow10Tab := by
    unfold Lib.TabIs World.var?
    rw [show Tryz.prog.globalNamed "internal/strconv.uint64pow10" = some 2 by kernel_rfl]
    simp only [Option.bind_some, g4]
    rw [← g5]
  exact (Any.strconv_Itoa laysM171 n h0 h1 w htab).mono fun e w' ⟨he, k, os, hw⟩ => ⟨_, he, .v _, by
    subst hw
    exact ⟨rfl, rfl, rfl, by simp [Sort.grow, World.drewN], fun k hk => by simp only [Sort.grow]; rw [Array.getElem?_append_left (by simpa [World.drewN] using hk)]; rfl⟩⟩

end Go.Proofs.YtcomjodfkcnjhaaGreatDoor

/- A builder of texts, and a line that is written into it. -/

namespace Go.Proofs.YtcomjodfkcnjhaaGreatDoor
open Go.Ax
open Cel (c)
theorem qN11 {p : Prop} (h : p := by (conv => lhs; whnf); all_goals exact rfl) : p := h
theorem qN12 {p : Prop} (h : p := by first | exact AStepD.nilCheck_ptr rfl rfl | exact AStepD.nilCheck_ip rfl rfl | exact AStepD.nilCheck_func rfl rfl) : p := h
theorem qN13 {p : Prop} (h : p := by simp only [Nat.reduceAdd]; exact rfl) : p := h
theorem qN14 {p : Prop} (h : p := by first | omega | (simp only [za, zb, zc, zd]; omega)) : p := h
theorem qN15 {p : Prop} (h : p := by first | with_reducible assumption | exact rfl) : p := h
theorem qN16 {p : Prop} (h : p := by first | exact AStepD.eql rfl rfl rfl | exact AStepD.str_eql rfl rfl rfl | exact (AStepD.ptr_nil tok (.inl ⟨_, _, rfl⟩) rfl rfl rfl).1 rfl | exact (AStepD.nil_nil tok rfl rfl rfl rfl).1 rfl | exact (AStepD.bool_eq tok rfl rfl rfl rfl).1 rfl | exact (AStepD.ptr_same tok rfl rfl rfl rfl rfl).1 rfl | exact (AStepD.iface_nil tok rfl rfl rfl rfl).1 rfl | exact (AStepD.nilIface_nil tok rfl rfl rfl rfl).1 rfl) : p := h
theorem qN17 {p : Prop} (h : p := by first | omega | (simp; done) | (simp; omega) | (simp only [over, List.length_append, List.length_take, List.length_drop, *]; omega) | (simp_all; done) | (simp_all; omega)) : p := h
theorem qN18 {p : Prop} (h : p := by first | exact Nat.le_of_ble_eq_true rfl | (simp; done) | (simp; omega) | (simp_all; omega)) : p := h
theorem qN19 {p : Prop} (h : p := by first | with_reducible assumption | exact Cel.one _ | exact flat_ones _ | exact ones_nil | (simp only [List.forall_mem_cons, List.not_mem_nil, false_implies, implies_true, and_true, one_v, one_ptr, one_ip, one_sl, one_slc, one_vec, one_map, one_func, one_iface, Value.oneCell', *]; done) | (simp [AV.one, Value.oneCell', *]; done)) : p := h
theorem qN110 {p : Prop} (h : p := by first | ((with_reducible refine over_all ?_); exact rfl) | (simp only [over, List.take_succ_cons, List.take_zero, List.drop_succ_cons, List.drop_zero, List.length_cons, List.length_nil, List.nil_append, List.cons_append, Nat.reduceAdd, Nat.zero_add, List.drop_nil, List.append_nil]; exact rfl) | conv => lhs; whnf) : p := h
theorem qN111 {p : Prop} (h : p := by first | exact AStepD.neq rfl rfl rfl | exact AStepD.str_neq rfl rfl rfl | exact (AStepD.ptr_nil tok (.inl ⟨_, _, rfl⟩) rfl rfl rfl).2 rfl | exact (AStepD.nil_nil tok rfl rfl rfl rfl).2 rfl | exact (AStepD.bool_eq tok rfl rfl rfl rfl).2 rfl | exact (AStepD.ptr_same tok rfl rfl rfl rfl rfl).2 rfl | exact (AStepD.iface_nil tok rfl rfl rfl rfl).2 rfl | exact (AStepD.nilIface_nil tok rfl rfl rfl rfl).2 rfl) : p := h
theorem qN112 {p : Prop} (h : p := by exact AStepD.move' rfl qN11) : p := h
theorem qN113 {p : Prop} (h : p := by exact SD.s rfl rfl rfl qN12) : p := h
theorem qN114 {p : Prop} (h : p := by first | exact Nat.zero_add 0 | exact (show _ + 0 = _ from qN13) | exact (show _ + 0 = _ + 0 from rfl) | exact rfl) : p := h
theorem qN115 {p : Prop} (h : p := by first | with_reducible assumption | (simp (disch := (first | omega | (exact Lst.lab_ne (by with_reducible assumption) qN14) | (exact Lst.lab_new (by with_reducible assumption) qN14) | (refine id ?_; simp only [za, zb, zc, zd]; done) | (simp only [za, zb, zc, zd]; omega))) only [z1, z2, z3, z4, z5, z6, z7, z8, z9, ne_eq, *]; done) | (simp (disch := (first | omega | (exact Lst.lab_ne (by with_reducible assumption) qN14) | (exact Lst.lab_new (by with_reducible assumption) qN14) | (refine id ?_; simp only [za, zb, zc, zd]; done) | (simp only [za, zb, zc, zd]; omega))) only [z1, z2, z3, z4, z5, z6, z7, z8, z9, ne_eq, *]; exact rfl)) : p := h
theorem qN116 {p : Prop} (h : p := by first | exact one_cells (by with_reducible assumption) | exact qN11) : p := h
theorem qN117 {p : Prop} (h : p := by exact AStepD.assign' rfl qN11) : p := h
theorem qN118 {p : Prop} (h : p := by first | exact Nat.zero_add 1 | exact (show _ + 1 = _ from qN13) | exact (show _ + 1 = _ + 1 from rfl) | exact rfl) : p := h
theorem qN119 {p : Prop} (h : p := by first | exact AStepD.len_str tok rfl rfl rfl rfl | exact AStepD.len_sl tok rfl qN11 (by first | exact IsSl.vec | exact IsSl.sl | exact IsSl.slc | exact IsSl.nil | with_reducible assumption) rfl rfl | exact AStepD.len_arr tok rfl rfl rfl) : p := h
theorem qN120 {p : Prop} (h : p := by exact SD.s rfl rfl rfl qN112) : p := h
theorem qN121 {p : Prop} (h : p := by first | exact AStepD.fieldAddr' tok rfl rfl rfl rfl rfl rfl rfl qN114 | exact AStepD.fieldAddr_ip' tok rfl rfl rfl rfl rfl rfl rfl List.drop_zero) : p := h
theorem qN122 {p : Prop} (h : p := by first | exact AStepD.load_one tok rfl rfl rfl rfl qN115 rfl qN15 | exact AStepD.load_one_ip tok rfl rfl rfl rfl rfl qN15) : p := h
theorem qN123 {p : Prop} (h : p := by first | with_reducible assumption | exact (by assumption : ∀ o, Ax.Src _ _ _ _ _) _ | exact Ax.Src.vec | exact Ax.Src.nil | exact Ax.Src.all qN115 qN17 | exact Ax.Src.sl qN115 qN18) : p := h
theorem qN124 {p : Prop} (h : p := by exact AStepD.store' tok rfl rfl qN115 qN11 qN116 qN19 rfl qN11 rfl qN18 qN110) : p := h
theorem qN125 {p : Prop} (h : p := by exact SD.s rfl rfl rfl qN117) : p := h
theorem qN126 {p : Prop} (h : p := by first | exact AStepD.fieldAddr' tok rfl rfl rfl rfl rfl rfl rfl qN118 | exact AStepD.fieldAddr_ip' tok rfl rfl rfl rfl rfl rfl rfl (show List.drop 1 _ = _ from rfl)) : p := h
theorem qN127 {p : Prop} (h : p := by exact SD.s rfl rfl rfl qN121) : p := h
theorem qN128 {p : Prop} (h : p := by exact SD.s rfl rfl rfl qN122) : p := h
theorem qN129 {p : Prop} (h : p := by exact SD.s rfl rfl rfl qN126) : p := h
set_option linter.unusedSimpArgs false
set_option linter.unusedVariables false
set_option maxRecDepth 20000
open Cel (c)

def BdAt (H : AHeap) (B : Nat) (y : AV) (l : List UInt8) : Prop := B < H.next ∧ (∃ p, H.get B = some (.cells 61 [p, y]) ∧ (p = .v (.pointer none) ∨ p = .ptr B 0)) ∧ Lst 5 (B + 1) H y l
structure BSt (B : Nat) (H : AHeap) (y : AV) (H' : AHeap) (y' : AV) : Prop where
  nx : H.next ≤ H'.next
  keep : ∀ q, q < H.next → q ≠ B → lab y ≠ some q → H'.get q = H.get q
  fresh : ∀ q, lab y' = some q → lab y = some q ∨ H.next ≤ q
theorem BSt.refl (B : Nat) (H : AHeap) (y : AV) : BSt B H y H y := ⟨Nat.le_refl _, fun _ _ _ _ => rfl, fun _ h => .inl h⟩
theorem BSt.trans {B : Nat} {H H1 H2 : AHeap} {y y1 y2 : AV} (a : BSt B H y H1 y1) (b : BSt B H1 y1 H2 y2) : BSt B H y H2 y2 where
  nx := Nat.le_trans a.nx b.nx
  keep q h1 h2 h3 := (b.keep q (Nat.lt_of_lt_of_le h1 a.nx) h2 fun e => (a.fresh q e).elim h3 fun h => absurd h1 (Nat.not_lt.2 h)).trans (a.keep q h1 h2 h3)
  fresh q h := (b.fresh q h).elim (a.fresh q) fun h => .inr (Nat.le_trans a.nx h)
theorem BSt.ne {B : Nat} {H H1 : AHeap} {y y1 : AV} (a : BSt B H y H1 y1) {q : Nat} (h1 : q < H.next) (h3 : lab y ≠ some q) : lab y1 ≠ some q := fun e => (a.fresh q e).elim h3 fun h => absurd h1 (Nat.not_lt.2 h)
theorem BSt.more {B : Nat} {H H1 : AHeap} {y : AV} (hn : H.next ≤ H1.next) (hk : ∀ q, q < H.next → H1.get q = H.get q) : BSt B H y H1 y := ⟨hn, fun q h _ _ => hk q h, fun _ h => .inl h⟩
theorem BdAt.more {H H1 : AHeap} {B : Nat} {y : AV} {l : List UInt8} (h : BdAt H B y l) (hn : H.next ≤ H1.next) (hk : ∀ q, q < H.next → H1.get q = H.get q) : BdAt H1 B y l := by
  obtain ⟨h1, ⟨p, h2, h3⟩, h4⟩ := h
  exact ⟨by omega, ⟨p, (hk B h1).trans h2, h3⟩, h4.keep (fun D _ hD _ => hk D hD) hn⟩
theorem check_calls (H : AHeap) (B : Nat) (y : AV) (l : List UInt8) (h : BdAt H B y l) : ACalls Tryz.prog 83 [.ptr B 0] H (fun r H' => r = .tup [] ∧ H' = H.set B (.cells 61 [.ptr B 0, y])) := by
  obtain ⟨hB, ⟨p, hp, hpp⟩, hy⟩ := h
  have h1 : y.one = true := hy.one
  refine ACalls.of_body tok Tryz.func83 rfl Tryz.ntmps83 (Nat.le_of_ble_eq_true rfl) (fun base => ?_)
  rcases hpp with rfl | rfl
  · refine rg fun K hK => ?_
    refine st qN120 <| st qN113 <| st qN127 <| st qN128 <| st (by exact SD.s rfl rfl rfl qN16) <| nt (hK _ _ ?_)
    clear hK K
    refine AW.cond_true rfl rfl ?_
    refine AW.region ?_
    refine st qN120 <| st qN120 <| st (by exact SD.s rfl rfl rfl (by first | exact AStepD.convert_int tok rfl rfl rfl rfl rfl (by first | exact IntWalk.i64_in _ (by omega) | exact IntWalk.i64_in _ (by simp only [Bool.or_eq_true, Bool.and_eq_true, Bool.or_eq_false_iff, Bool.and_eq_false_iff, Bool.not_eq_true', Bool.not_eq_false', decide_eq_true_eq, decide_eq_false_iff_not, Int.not_lt, Int.not_le, beq_iff_eq] at *; omega) | exact rfl) | exact AStepD.convert_str tok rfl rfl rfl rfl rfl rfl | exact AStepD.convert_bytes_own tok rfl rfl rfl rfl rfl rfl qN115 qN17 | exact AStepD.bytes_str tok rfl rfl qN123 rfl qN17 rfl rfl rfl rfl rfl rfl | exact AStepD.to_unsafe tok rfl rfl rfl rfl rfl rfl rfl rfl qN115 qN17 | exact AStepD.from_unsafe tok rfl rfl rfl rfl rfl rfl rfl qN115 qN17 rfl)) <| st (by exact SD.s rfl rfl rfl (by exact AStepD.noEscape rfl rfl Tryz.func107 (by kernel_rfl) (by kernel_rfl) (by kernel_rfl) (by kernel_rfl))) <| st (by exact SD.s rfl rfl rfl (by first | exact AStepD.convert_int tok rfl rfl rfl rfl rfl (by first | exact IntWalk.i64_in _ (by omega) | exact IntWalk.i64_in _ (by simp only [Bool.or_eq_true, Bool.and_eq_true, Bool.or_eq_false_iff, Bool.and_eq_false_iff, Bool.not_eq_true', Bool.not_eq_false', decide_eq_true_eq, decide_eq_false_iff_not, Int.not_lt, Int.not_le, beq_iff_eq] at *; omega) | exact rfl) | exact AStepD.convert_str tok rfl rfl rfl rfl rfl rfl | exact AStepD.convert_bytes_own tok rfl rfl rfl rfl rfl rfl qN115 qN17 | exact AStepD.bytes_str tok rfl rfl qN123 rfl qN17 rfl rfl rfl rfl rfl rfl | exact AStepD.to_unsafe tok rfl rfl rfl rfl rfl rfl rfl rfl qN115 qN17 | exact AStepD.from_unsafe tok rfl rfl rfl rfl rfl rfl rfl qN115 qN17 rfl)) <| st qN113 <| st qN127 <| st0 (by exact ⟨rfl, rfl, qN124⟩) <| AL.nil ?_
    exact RetQ.mk (.inl rfl) retA_nil ⟨rfl, rfl⟩
  · refine rg fun K hK => ?_
    refine st qN120 <| st qN113 <| st qN127 <| st qN128 <| st (by exact SD.s rfl rfl rfl (by exact (AStepD.ptr_nil tok (.inl ⟨_, _, rfl⟩) rfl rfl rfl).1 rfl)) <| nt (hK _ _ ?_)
    clear hK K
    refine AW.cond_false rfl rfl ?_
    refine rg fun K hK => ?_
    refine st qN120 <| st qN113 <| st qN127 <| st qN128 <| st qN120 <| st (by exact SD.s rfl rfl rfl qN111) <| nt (hK _ _ ?_)
    clear hK K
    refine AW.cond_false rfl rfl (AW.skip ?_)
    refine RetQ.mk (.inl rfl) retA_nil ⟨rfl, ?_⟩
    refine AHeap.ext (fun k => ?_) rfl
    by_cases e : k = B
    · subst e; rw [hp, AHeap.get_set_same]
    · rw [AHeap.get_set_ne _ _ e]

theorem BdAt.grow {H : AHeap} {B : Nat} {y : AV} {l m : List UInt8} (hB : B < H.next) (hy : Lst 5 (B + 1) H y l) {H1 : AHeap} (h1 : ∀ q, q ≠ B → H1.get q = H.get q) (hn : H1.next = H.next) :
    BdAt (((H1.new (.cells 5 (flat (l ++ m)))).delv y).set B (.cells 61 [.ptr B 0, .sl H1.next 0 (l ++ m).length 1])) B (.sl H1.next 0 (l ++ m).length 1) (l ++ m) ∧ BSt B H y (((H1.new (.cells 5 (flat (l ++ m)))).delv y).set B (.cells 61 [.ptr B 0, .sl H1.next 0 (l ++ m).length 1])) (.sl H1.next 0 (l ++ m).length 1) := by
  have hlb : ∀ q, H.next ≤ q → lab y ≠ some q := fun q hq => hy.lab_new hq
  refine ⟨⟨by simp only [za, zd, zc]; omega, ⟨_, AHeap.get_set_same _ _ _, .inr rfl⟩, Lst.mk (by omega) (by simp only [za, zd, zc]; omega) (by rw [AHeap.get_set_ne _ _ (by omega), z9 _ (hlb _ (by omega)), AHeap.get_new_same]) rfl rfl rfl⟩, ⟨by simp only [za, zd, zc]; omega, fun q hq hqB hql => ?_, fun q hq => ?_⟩⟩
  · rw [AHeap.get_set_ne _ _ hqB, z9 _ hql, AHeap.get_new_ne _ _ (by omega), h1 q hqB]
  · simp only [lab, Option.some.injEq] at hq
    exact .inr (by omega)

theorem wbyte_calls (H : AHeap) (B : Nat) (y : AV) (l : List UInt8) (b : UInt8) (h : BdAt H B y l) (hl : l.length ≤ 1000000) : ACalls Tryz.prog 58 [.ptr B 0, .v (.int .u8 (b.toNat : Nat))] H (fun r H' => r = .v .nilIface ∧ ∃ y', BdAt H' B y' (l ++ [b]) ∧ BSt B H y H' y') := by
  have hc := h
  obtain ⟨hB, ⟨p, hp, hpp⟩, hy⟩ := h
  have h1 : y.one = true := hy.one
  refine ACalls.of_body tok Tryz.func58 rfl Tryz.ntmps58 (Nat.le_of_ble_eq_true rfl) (fun base => ?_)
  refine rg fun K hK => ?_
  refine st qN125 <| nt (hK _ _ ?_)
  clear hK K
  refine rg fun K hK => ?_
  refine st qN120 <| st (by exact SD.s rfl rfl rfl (by exact AStepD.callf rfl en83 rfl (check_calls H B y l hc))) <| nt (hK _ _ ?_)
  clear hK K
  have hy' : Lst 5 (B + 1) (H.set B (.cells 61 [.ptr B 0, y])) y l := hy.keep (fun D hD _ _ => AHeap.get_set_ne _ _ (by omega)) (Nat.le_refl _)
  refine rg fun K hK => ?_
  refine st qN120 <| st qN120 <| st qN113 <| st qN129 <| st qN128 <| st qN120 <| st (by exact SD.s rfl rfl rfl (by exact AStepD.vec_flat (l := [b]) (AStepD.buildSlice1 tok rfl rfl rfl rfl (show _ = 1 from rfl) qN11 qN11 rfl (by decide) qN19) rfl rfl rfl)) <| st (by exact SD.s rfl rfl rfl (by exact AStepD.append_lst (bk := 1) (l := l) (y := y) (b := B + 1) (m := (l ++ [b]).length) tok rfl rfl hy' rfl rfl rfl rfl rfl rfl (show _ = 1 from rfl) rfl rfl Src.vec rfl Nat.zero_lt_one (flat_ones _) (by simp; omega) (by simp; omega) (by simp) (show flat l ++ flat [b] = flat (l ++ [b]) from (flat_append l [b]).symm))) <| st qN113 <| st qN129 <| st0 (by exact ⟨rfl, rfl, qN124⟩) <| nt (hK _ _ ?_)
  clear hK K
  refine rg fun K hK => ?_
  refine st qN125 <| nt (hK _ _ ?_)
  clear hK K
  obtain ⟨g1, g2⟩ := BdAt.grow (m := [b]) hB hy (H1 := H.set B (.cells 61 [.ptr B 0, y])) (fun q hq => AHeap.get_set_ne _ _ hq) rfl
  exact AW.ret (RetQ.mk (.inr rfl) (retA_tmp rfl qN11 retA_nil) ⟨rfl, _, g1, g2⟩)

theorem wstr_calls (H : AHeap) (B : Nat) (y : AV) (l m : List UInt8) (h : BdAt H B y l) (hm : m ≠ []) (hl : l.length + m.length ≤ 1000000) : ACalls Tryz.prog 59 [.ptr B 0, strA m] H (fun r H' => r = .tup [.v (.int .i64 (m.length : Nat)), .v .nilIface] ∧ ∃ y', BdAt H' B y' (l ++ m) ∧ BSt B H y H' y') := by
  have hc := h
  obtain ⟨hB, ⟨p, hp, hpp⟩, hy⟩ := h
  have h1 : y.one = true := hy.one
  refine ACalls.of_body tok Tryz.func59 rfl Tryz.ntmps59 (Nat.le_of_ble_eq_true rfl) (fun base => ?_)
  refine rg fun K hK => ?_
  refine st qN125 <| st qN125 <| nt (hK _ _ ?_)
  clear hK K
  refine rg fun K hK => ?_
  refine st qN120 <| st (by exact SD.s rfl rfl rfl (by exact AStepD.callf rfl en83 rfl (check_calls H B y l hc))) <| nt (hK _ _ ?_)
  clear hK K
  have hy' : Lst 5 (B + 1) (H.set B (.cells 61 [.ptr B 0, y])) y l := hy.keep (fun D hD _ _ => AHeap.get_set_ne _ _ (by omega)) (Nat.le_refl _)
  refine rg fun K hK => ?_
  refine st qN120 <| st qN120 <| st qN113 <| st qN129 <| st qN128 <| st qN120 <| st (by exact SD.s rfl rfl rfl (by exact AStepD.append_str (y := y) (s := m) tok rfl rfl hy' rfl rfl rfl rfl rfl rfl rfl rfl hm (by omega))) <| st qN113 <| st qN129 <| st0 (by exact ⟨rfl, rfl, qN124⟩) <| nt (hK _ _ ?_)
  clear hK K
  refine rg fun K hK => ?_
  refine st qN120 <| st (by exact SD.s rfl rfl rfl (by exact strA_len tok rfl rfl rfl rfl)) <| st qN125 <| st qN125 <| nt (hK _ _ ?_)
  clear hK K
  obtain ⟨g1, g2⟩ := BdAt.grow (m := m) hB hy (H1 := H.set B (.cells 61 [.ptr B 0, y])) (fun q hq => AHeap.get_set_ne _ _ hq) rfl
  exact AW.ret (RetQ.mk (.inr rfl) (retA_tmp rfl qN11 (retA_tmp rfl qN11 retA_nil)) ⟨rfl, _, g1, g2⟩)

theorem bstring_calls (H : AHeap) (B : Nat) (y : AV) (l : List UInt8) (h : BdAt H B y l) (hne : l ≠ []) (hl : l.length ≤ 1000000) : ACalls Tryz.prog 30 [.ptr B 0] H (fun r H' => r = strA l ∧ H'.next = H.next ∧ ∀ q, q < H.next → lab y ≠ some q → H'.get q = H.get q) := by
  obtain ⟨hB, ⟨p, hp, hpp⟩, hy⟩ := h
  obtain ⟨D, rfl, hD, hDN, hg⟩ := hy.at (List.length_pos_iff.2 hne)
  have hpos := List.length_pos_iff.2 hne
  refine ACalls.of_body tok Tryz.func30 rfl Tryz.ntmps30 (Nat.le_of_ble_eq_true rfl) (fun base => ?_)
  refine rg fun K hK => ?_
  refine st qN125 <| nt (hK _ _ ?_)
  clear hK K
  refine AW.seq_k (fun K hK => ?_)
  apply AW.draw mixed [_, _, _, _, _, _, _, _, _, _, _, _] [10] [_, _] [(0, 0), (1, 0), (2, 0), (3, 0), (4, 0), (5, 0), (6, 0), (7, 0), (8, 0), (9, 0), (10, 0), (11, 1)] rfl rfl rfl (by simp only [List.getD_cons_zero, List.getD_cons_succ]; all_goals apply Eq.refl)
  · refine ⟨?_, ?_, ?_, ?_, ?_, ?_, ?_, ?_, ?_, ?_, ?_, ?_⟩
    · refine Ob.mk _ [0] 0 rfl rfl (restr_cons qN11 restr_nil) rfl ?_
      simp only [List.getD_cons_zero, List.getD_cons_succ]
      exact GStep.plain rfl qN112
    · refine Ob.mk _ [3] 0 rfl rfl (restr_cons qN11 restr_nil) rfl ?_
      simp only [List.getD_cons_zero, List.getD_cons_succ]
      exact GStep.plain rfl qN12
    · refine Ob.mk _ [4] 0 rfl rfl (restr_cons qN11 restr_nil) rfl ?_
      simp only [List.getD_cons_zero, List.getD_cons_succ]
      exact GStep.plain rfl qN126
    · refine Ob.mk _ [5] 0 rfl rfl (restr_cons qN11 restr_nil) rfl ?_
      simp only [List.getD_cons_zero, List.getD_cons_succ]
      exact GStep.plain rfl qN122
    · refine Ob.mk _ [6] 0 rfl rfl (restr_cons qN11 restr_nil) rfl ?_
      simp only [List.getD_cons_zero, List.getD_cons_succ]
      exact GStep.plain rfl (by exact AStepD.sliceData rfl rfl hpos)
    · refine Ob.mk _ [0] 0 rfl rfl (restr_cons qN11 restr_nil) rfl ?_
      simp only [List.getD_cons_zero, List.getD_cons_succ]
      exact GStep.plain rfl qN112
    · refine Ob.mk _ [8] 0 rfl rfl (restr_cons qN11 restr_nil) rfl ?_
      simp only [List.getD_cons_zero, List.getD_cons_succ]
      exact GStep.plain rfl qN12
    · refine Ob.mk _ [9] 0 rfl rfl (restr_cons qN11 restr_nil) rfl ?_
      simp only [List.getD_cons_zero, List.getD_cons_succ]
      exact GStep.plain rfl qN126
    · refine Ob.mk _ [10] 0 rfl rfl (restr_cons qN11 restr_nil) rfl ?_
      simp only [List.getD_cons_zero, List.getD_cons_succ]
      exact GStep.plain rfl qN122
    · refine Ob.mk _ [11] 0 rfl rfl (restr_cons qN11 restr_nil) rfl ?_
      simp only [List.getD_cons_zero, List.getD_cons_succ]
      exact GStep.plain rfl qN119
    · refine Ob.mk _ [7, 12] 1 rfl rfl (restr_cons qN11 (restr_cons qN11 restr_nil)) rfl ?_
      simp only [List.getD_cons_zero, List.getD_cons_succ]
      exact GStep.plain rfl (by exact AStepD.unsafeString tok rfl rfl rfl rfl hne (by unfold maxLen; omega) rfl rfl rfl rfl qN115)
    · refine Ob.mk _ [13] 1 rfl rfl (restr_cons qN11 restr_nil) rfl ?_
      simp only [List.getD_cons_zero, List.getD_cons_succ]
      exact GStep.plain rfl qN117
  refine hK _ _ ?_; clear hK K
  refine AW.frame (by simp only [frameAt, putA]; all_goals exact rfl) (by simp only [List.length_cons, List.length_nil, Nat.zero_add, Nat.reduceAdd, List.getD_cons_zero, List.getD_cons_succ]; all_goals apply Eq.refl) ?_
  exact AW.ret (RetQ.mk (.inr rfl) (retA_tmp rfl qN11 retA_nil) ⟨rfl, rfl, fun q _ hq => AHeap.get_del_ne _ (fun e => hq (by rw [e]; rfl))⟩)
end Go.Proofs.YtcomjodfkcnjhaaGreatDoor

/- A line that is written into a builder. -/

namespace Go.Proofs.YtcomjodfkcnjhaaGreatDoor
open Go.Ax
open Cel (c)
theorem qN21 {p : Prop} (h : p := by (conv => lhs; whnf); all_goals first | exact rfl | (simp; done) | (simp; omega)) : p := h
theorem qN22 {p : Prop} (h : p := by exact AStepD.assert_yes tok rfl rfl rfl rfl) : p := h
theorem qN23 {p : Prop} (h : p := by exact AStepD.extract rfl rfl rfl) : p := h
theorem qN24 {p : Prop} (h : p := by rw [List.length_append]; omega) : p := h
theorem qN25 {p : Prop} (h : p := by repeat' (first | exact SubT.nil _ | refine SubT.cons_eq qN21 ?_)) : p := h
theorem qN26 {p : Prop} (h : p := by exact SD.s rfl rfl rfl qN22) : p := h
theorem qN27 {p : Prop} (h : p := by exact SD.s rfl rfl rfl qN23) : p := h
set_option linter.unusedSimpArgs false
set_option linter.unusedVariables false
set_option maxRecDepth 20000
open Cel (c)

inductive Prt where
  | n (i : Int)
  | s (l : List UInt8)
def Prt.av : Prt → AV
  | .n i => .iface 3 (.v (.int .i64 i))
  | .s l => .iface 9 (strA l)
def Prt.txt : Prt → List UInt8
  | .n i => Lib.itoa i
  | .s l => l
def Prt.ok : Prt → Prop
  | .n i => 0 ≤ i ∧ i < 1000000000000000
  | .s l => l ≠ [] ∧ l.length ≤ 1000
instance : Cel Prt := ⟨1, fun p => [p.av], fun _ => rfl,
  fun p z h => by rw [List.mem_singleton.1 h]; cases p <;> rfl, fun p z h => by rw [List.mem_singleton.1 h]; cases p <;> exact .iface (.v _)⟩
theorem Prt.len {p : Prt} (h : p.ok) : p.txt ≠ [] ∧ p.txt.length ≤ 1000 := by
  cases p with
  | s l => exact h
  | n i =>
    have h0 : 0 ≤ i := h.1
    have h1 : i < 1000000000000000 := h.2
    obtain ⟨m, rfl⟩ := Int.eq_ofNat_of_zero_le h0
    rw [Prt.txt, itoa_nat]
    have := dec_short (n := m) (by omega)
    have h2 := (val_dec m).1
    simp only [okN, Bool.and_eq_true, decide_eq_true_eq] at h2
    exact ⟨List.length_pos_iff.1 h2.1.1, by omega⟩
def jL (ps : List Prt) : List UInt8 := Lib.join (ps.map Prt.txt) [32]
def spL (k : Nat) : List UInt8 := if k = 0 then [] else [32]
theorem jL_next (ps : List Prt) (k : Nat) (h : k < ps.length) : jL (ps.take (k + 1)) = jL (ps.take k) ++ (spL k ++ ps[k].txt) := by
  rw [take_next ps k h, jL, jL, List.map_append, spL]
  cases k with
  | zero => simp [Lib.join_one, Lib.join_nil]
  | succ k =>
    rw [join_append 32 _ _ (fun e => by have := congrArg List.length e; rw [List.length_map, List.length_take, List.length_nil] at this; omega) (by simp)]
    simp [Lib.join_one]
theorem jL_len (ps : List Prt) (hok : ∀ p ∈ ps, p.ok) (hn : ps.length ≤ 20) : (jL ps).length ≤ 20020 := by
  have := join_len (ps.map Prt.txt) 1000 fun x hx => by
    obtain ⟨p, hp, rfl⟩ := List.mem_map.1 hx
    exact (Prt.len (hok p hp)).2
  rw [List.length_map] at this
  rw [jL]; omega

theorem line_calls (H : AHeap) (B : Nat) (y : AV) (l : List UInt8) (ps : List Prt) (h : BdAt H B y l) (hok : ∀ p ∈ ps, p.ok) (hn : ps.length ≤ 20) (hl : l.length ≤ 900000) :
    ACalls Tryz.prog 24 [.ptr B 0, vecA ps] H (fun r H' => r = .tup [] ∧ ∃ y', BdAt H' B y' (l ++ (jL ps ++ [10])) ∧ BSt B H y H' y') := by
  refine ACalls.of_body tok Tryz.func24 rfl Tryz.ntmps24 (Nat.le_of_ble_eq_true rfl) (fun base => ?_)
  refine AW.seq_k (fun K1 hK1 => ?_)
  refine rg fun K hK => ?_
  refine st qN120 <| st (by exact SD.s rfl rfl rfl qN119) <| st qN120 <| nt (hK _ _ ?_)
  clear hK K
  refine AW.block ?_
  refine AW.loop_at (ι := Nat) (fun k => [(10, .v (.int .i64 (k : Nat))), (9, .v (.int .i64 (ps.length : Nat))), (8, vecA ps), (0, .ptr B 0)])
    (fun k H' => k ≤ ps.length ∧ ∃ y', BdAt H' B y' (l ++ jL (ps.take k)) ∧ BSt B H y H' y') (fun k => ps.length - k) 0 qN25 ⟨Nat.zero_le _, y, by rw [List.take_zero, show jL [] = [] from Lib.join_nil _, List.append_nil]; exact h, BSt.refl _ _ _⟩ ?_
  rintro k H2 ⟨hk, y2, hb2, hs2⟩
  refine rg fun K hK => ?_
  refine st (by exact SD.s rfl rfl rfl (by exact AStepD.lss rfl rfl rfl)) <| nt (hK _ _ ?_)
  clear hK K
  refine AW.seq_k (fun K2 hK2 => ?_)
  refine AW.cond _ rfl (fun hc => ?_) (fun hc => ?_)
  · (try simp only [Bool.or_eq_true, Bool.and_eq_true, Bool.or_eq_false_iff, Bool.and_eq_false_iff, Bool.not_eq_true', Bool.not_eq_false', decide_eq_true_eq, decide_eq_false_iff_not, Int.not_lt, Int.not_le] at hc)
    have hkl : k < ps.length := by omega
    have hp := hok ps[k] (List.getElem_mem hkl)
    have hj := jL_len (ps.take k) (fun p hp => hok p (List.mem_of_mem_take hp)) (by rw [List.length_take]; omega)
    have hnx := jL_next ps k hkl
    obtain ⟨hpn, hpl⟩ := Prt.len hp
    generalize hpk : ps[k] = p at hp hpn hpl hnx
    refine AW.skip ?_
    refine hK2 _ _ ?_; try clear hK2 K2
    refine AW.seq_k (fun K3 hK3 => ?_)
    have hend : ∀ T' H3 y3, SubT T' [(10, .v (.int .i64 (k : Nat))), (9, .v (.int .i64 (ps.length : Nat))), (8, vecA ps), (0, .ptr B 0)] → BdAt H3 B y3 (l ++ jL (ps.take (k + 1))) → BSt B H y H3 y3 → K3 T' H3 := fun T' H3 y3 hT' hb3 hs3 => by
      refine hK3 _ _ ?_
      refine AW.sub hT' ?_
      clear hT' hK3 K3
      refine AW.region ?_
      refine st (by exact SD.s rfl rfl rfl (by first | exact AStepD.add rfl rfl rfl (by first | exact IntWalk.i64_in _ (by omega) | exact IntWalk.i64_in _ (by simp only [Bool.or_eq_true, Bool.and_eq_true, Bool.or_eq_false_iff, Bool.and_eq_false_iff, Bool.not_eq_true', Bool.not_eq_false', decide_eq_true_eq, decide_eq_false_iff_not, Int.not_lt, Int.not_le, beq_iff_eq] at *; omega) | exact rfl) | exact AStepD.str_add rfl rfl rfl (by omega))) <| st qN120 <| AL.nil ?_
      exact ⟨k + 1, by omega, qN25, by omega, y3, hb3, hs3⟩
    refine AW.block ?_
    refine rg fun K hK => ?_
    refine st qN120 <| st (by exact SD.s rfl rfl rfl (by exact AStepD.indexAddr_flat (i := k) tok rfl rfl rfl rfl rfl rfl rfl rfl rfl rfl hkl)) <| st (by exact SD.s rfl rfl rfl (by exact AStepD.load_one_ip tok rfl rfl rfl rfl rfl (show _ = some p.av by rw [hpk]; rfl))) <| st qN125 <| st qN125 <| nt (hK _ _ ?_)
    clear hK K
    refine AW.seq_k (fun K4 hK4 => ?_)
    have hgo : ∀ T' H3 y3, SubT T' [(10, .v (.int .i64 (k : Nat))), (9, .v (.int .i64 (ps.length : Nat))), (8, vecA ps), (5, p.av), (0, .ptr B 0)] → BdAt H3 B y3 (l ++ jL (ps.take k) ++ spL k) → BSt B H y H3 y3 → K4 T' H3 := fun T' H3 y3 hT' hb3 hs3 => by
      have hsl : (l ++ jL (ps.take k) ++ spL k).length ≤ 990000 := by
        have : (spL k).length ≤ 1 := by rw [spL]; split <;> simp
        simp only [List.length_append]; omega
      refine hK4 _ _ ?_
      refine AW.sub hT' ?_
      clear hT' hK4 K4 hK3
      refine rg fun K hK => ?_
      refine st qN120 <| nt (hK _ _ ?_)
      clear hK K
      refine AW.block ?_
      cases p with
      | n i =>
        have h0 : 0 ≤ i := hp.1
        have h1 : i < 1000000000000000 := hp.2
        refine rg fun K hK => ?_
        refine st qN26 <| st qN27 <| st qN27 <| nt (hK _ _ ?_)
        clear hK K
        refine AW.cond_true rfl rfl ?_
        refine rg fun K hK => ?_
        refine st qN125 <| nt (hK _ _ ?_)
        clear hK K
        refine AW.region ?_
        refine st qN120 <| st qN120 <| st (by exact SD.s rfl rfl rfl (by exact AStepD.callf rfl en60 rfl (itoaG_calls _ i (by omega) (by omega)))) <| ?_
        refine AL.call rfl rfl rfl (AStep.callf rfl en59 (wstr_calls _ B y3 _ (Lib.itoa i) hb3 hpn (by have : (Lib.itoa i).length ≤ 1000 := hpl; omega))) ?_; rintro _ H4 ⟨rfl, y4, hb4, hs4⟩
        refine AL.nil ?_
        refine hend _ H4 y4 qN25 ?_ (hs3.trans hs4)
        rw [hnx, ← List.append_assoc, ← List.append_assoc]
        exact hb4
      | s m =>
        refine rg fun K hK => ?_
        refine st (by exact SD.s rfl rfl rfl (by exact AStepD.assert_no tok rfl rfl rfl rfl rfl)) <| st qN27 <| st qN27 <| nt (hK _ _ ?_)
        clear hK K
        refine AW.cond_false rfl rfl ?_
        refine rg fun K hK => ?_
        refine st qN26 <| st qN27 <| st qN27 <| nt (hK _ _ ?_)
        clear hK K
        refine AW.cond_true rfl rfl ?_
        refine rg fun K hK => ?_
        refine st qN125 <| nt (hK _ _ ?_)
        clear hK K
        refine AW.region ?_
        refine st qN120 <| st qN120 <| ?_
        refine AL.call rfl rfl rfl (AStep.callf rfl en59 (wstr_calls _ B y3 _ m hb3 hpn (by have : m.length ≤ 1000 := hpl; omega))) ?_; rintro _ H4 ⟨rfl, y4, hb4, hs4⟩
        refine AL.nil ?_
        refine hend _ H4 y4 qN25 ?_ (hs3.trans hs4)
        rw [hnx, ← List.append_assoc, ← List.append_assoc]
        exact hb4
    refine rg fun K hK => ?_
    refine st qN120 <| st (by exact SD.s rfl rfl rfl (by exact AStepD.gtr rfl rfl rfl)) <| nt (hK _ _ ?_)
    clear hK K
    refine AW.cond _ rfl (fun hc => ?_) (fun hc => ?_)
    · (try simp only [Bool.or_eq_true, Bool.and_eq_true, Bool.or_eq_false_iff, Bool.and_eq_false_iff, Bool.not_eq_true', Bool.not_eq_false', decide_eq_true_eq, decide_eq_false_iff_not, Int.not_lt, Int.not_le] at hc)
      refine AW.region ?_
      refine st qN120 <| ?_
      refine AL.call rfl rfl rfl (AStep.callf rfl en58 (wbyte_calls _ B y2 _ 32 hb2 qN24)) ?_; rintro _ H4 ⟨rfl, y4, hb4, hs4⟩
      refine AL.nil ?_
      exact hgo _ H4 y4 qN25 (by rw [spL, if_neg (by omega)]; exact hb4) (hs2.trans hs4)
    · (try simp only [Bool.or_eq_true, Bool.and_eq_true, Bool.or_eq_false_iff, Bool.and_eq_false_iff, Bool.not_eq_true', Bool.not_eq_false', decide_eq_true_eq, decide_eq_false_iff_not, Int.not_lt, Int.not_le] at hc)
      refine AW.skip ?_
      exact hgo _ H2 y2 qN25 (by rw [spL, if_pos (by omega), List.append_nil]; exact hb2) hs2
  · (try simp only [Bool.or_eq_true, Bool.and_eq_true, Bool.or_eq_false_iff, Bool.and_eq_false_iff, Bool.not_eq_true', Bool.not_eq_false', decide_eq_true_eq, decide_eq_false_iff_not, Int.not_lt, Int.not_le] at hc)
    obtain rfl : k = ps.length := by omega
    rw [List.take_length] at hb2
    have hj := jL_len ps hok hn
    refine AW.exit ?_
    refine hK1 _ _ ?_; try clear hK1 K1
    refine AW.region ?_
    refine st qN120 <| ?_
    refine AL.call rfl rfl rfl (AStep.callf rfl en58 (wbyte_calls _ B y2 _ 10 hb2 qN24)) ?_; rintro _ H4 ⟨rfl, y4, hb4, hs4⟩
    refine AL.nil ?_
    exact RetQ.mk (.inl rfl) retA_nil ⟨rfl, y4, by rw [← List.append_assoc]; exact hb4, hs2.trans hs4⟩
end Go.Proofs.YtcomjodfkcnjhaaGreatDoor

/- Rising lists out of sorted ones, plainly; where the first stands of which something holds. -/

namespace Go.Proofs.YtcomjodfkcnjhaaGreatDoor
open Go.Ax
open Cel (c)
set_option linter.unusedSimpArgs false
set_option linter.unusedVariables false

def idxF {α : Type} (p : α → Bool) (l : List α) : Int := match l.findIdx? p with | some k => (k : Nat) | none => -1
theorem idxF_at {α : Type} {p : α → Bool} {l : List α} {k : Nat} (hk : k < l.length) (h1 : p l[k] = true) (h2 : ∀ j (hj : j < l.length), j < k → p l[j] = false) : idxF p l = (k : Nat) := by
  have : l.findIdx? p = some k := List.findIdx?_eq_some_iff_getElem.2 ⟨hk, h1, fun j hj => by simp [h2 j (by omega) hj]⟩
  rw [idxF, this]
theorem idxF_no {α : Type} {p : α → Bool} {l : List α} (h : ∀ j (hj : j < l.length), p l[j] = false) : idxF p l = -1 := by
  have : l.findIdx? p = none := List.findIdx?_eq_none_iff.2 fun x hx => by
    obtain ⟨j, hj, rfl⟩ := List.mem_iff_getElem.1 hx
    simp [h j hj]
  rw [idxF, this]
theorem idxF_find {α : Type} (p : α → Bool) (l : List α) : (idxF p l = -1 ∧ l.find? p = none) ∨ ∃ (k : Nat) (hk : k < l.length), idxF p l = (k : Nat) ∧ l.find? p = some l[k] := by
  cases h : l.findIdx? p with
  | none =>
    left
    refine ⟨by rw [idxF, h], ?_⟩
    rw [List.findIdx?_eq_none_iff] at h
    exact List.find?_eq_none.2 fun x hx => by simp [h x hx]
  | some k =>
    right
    obtain ⟨hk, h1, h2⟩ := List.findIdx?_eq_some_iff_getElem.1 h
    refine ⟨k, hk, by rw [idxF, h], ?_⟩
    rw [List.find?_eq_some_iff_getElem]
    exact ⟨h1, k, hk, rfl, fun j hj => by simpa using h2 j hj⟩

theorem compact_at (l : List Int) (hs : l.Pairwise (· ≤ ·)) : (Lib.compact l).Pairwise (· < ·) := by
  rw [Lib.compact, Lib.compactUpTo, List.pairwise_map]
  refine (List.pairwise_lt_range.filter _).imp_of_mem fun {i j} hi hj h => ?_
  have hj2 := (List.mem_filter.1 hj)
  have hjl := List.mem_range.1 hj2.1
  have hk := hj2.2
  rw [Lib.keeps, decide_eq_true_eq] at hk
  rw [List.pairwise_iff_getElem] at hs
  have e : ∀ k (hk : k < l.length), l.toArray[k]! = l[k] := fun k hk => by rw [getElem!_pos _ k (by simpa using hk)]; simp
  rcases hk with hk | hk
  · omega
  · rw [e j hjl, e (j - 1) (by omega)] at hk
    rw [e i (by omega), e j hjl]
    have h1 := hs (j - 1) j (by omega) hjl (by omega)
    have h2 : l[i] ≤ l[j - 1] := by
      rcases Nat.lt_or_ge i (j - 1) with h3 | h3
      · exact hs i (j - 1) _ _ h3
      · have : i = j - 1 := by omega
        subst this; exact Int.le_refl _
    omega
theorem mem_compact (l : List Int) (x : Int) : x ∈ Lib.compact l ↔ x ∈ l := by
  have e : ∀ k (hk : k < l.length), l.toArray[k]! = l[k] := fun k hk => by rw [getElem!_pos _ k (by simpa using hk)]; simp
  rw [Lib.compact, Lib.compactUpTo, List.mem_map]
  constructor
  · rintro ⟨i, hi, rfl⟩
    have := List.mem_range.1 (List.mem_filter.1 hi).1
    rw [e i this]; exact List.getElem_mem this
  · intro hx
    obtain ⟨i, hi, rfl⟩ := List.mem_iff_getElem.1 hx
    obtain ⟨j, hj, hje, hf⟩ : ∃ j, j ≤ i ∧ l.toArray[j]! = l[i] ∧ ∀ k, k < j → l.toArray[k]! ≠ l[i] := by
      have := first_ex (fun k => (l.toArray[k]!, 0)) (i + 1) i (by omega)
      obtain ⟨j, hj, h1, h2⟩ := this
      rw [← e i hi]
      exact ⟨j, hj, congrArg Prod.fst h1, fun k hk h => h2 k hk (by rw [h])⟩
    refine ⟨j, List.mem_filter.2 ⟨List.mem_range.2 (by omega), ?_⟩, hje⟩
    rw [Lib.keeps, decide_eq_true_eq]
    by_cases h0 : j = 0
    · exact .inl h0
    · exact .inr fun h => hf (j - 1) (by omega) (h ▸ hje)
def sortI (l : List Int) : List Int := l.mergeSort fun x y => decide (x ≤ y)
theorem sortI_len (l : List Int) : (sortI l).length = l.length := List.length_mergeSort l
theorem sortI_mem (l : List Int) (x : Int) : x ∈ sortI l ↔ x ∈ l := List.mem_mergeSort
theorem sortI_le (l : List Int) : (sortI l).Pairwise (· ≤ ·) :=
  (List.pairwise_mergeSort (le := fun x y => decide (x ≤ y)) (fun a b c h1 h2 => by simp only [decide_eq_true_eq] at *; omega) (fun a b => by simp only [Bool.or_eq_true, decide_eq_true_eq]; omega) l).imp fun h => of_decide_eq_true h
theorem sortI_uniq {l : List Int} (h : l.Nodup) : sortI l = uniqU l := by
  refine uniqU_eq ?_ (fun x => sortI_mem l x)
  have hn : (sortI l).Nodup := (List.mergeSort_perm l _).nodup_iff.2 h
  exact (List.pairwise_and_iff.2 ⟨sortI_le l, hn⟩).imp fun h => Int.lt_iff_le_and_ne.2 h
def ownL (l : List Int) : List Int := (Lib.compact (sortI l)).filter fun x => decide (x ≠ 0)
theorem ownL_eq (l : List Int) : ownL l = uniqU (l.filter fun x => decide (x ≠ 0)) :=
  uniqU_eq ((compact_at _ (sortI_le l)).filter _) fun x => by rw [ownL, List.mem_filter, List.mem_filter, mem_compact, sortI_mem]
theorem int_at (l : List Int) (i : Nat) (h : i < l.length) : (flat l)[i * 1]? = some (.v (.int .i64 l[i])) := flat_getc l i 0 h Nat.zero_lt_one
theorem over_int (l : List Int) (i : Nat) (h : i < l.length) (v : Int) : Ax.over (flat l) (i * 1) [.v (.int .i64 v)] = flat (l.set i v) := over_flat l i 0 h [.v (.int .i64 v)] v (Nat.le_refl _) rfl
theorem ints_take (l : List Int) (i : Nat) : (flat l).take (i * 1) = flat (l.take i) := flat_take l i
end Go.Proofs.YtcomjodfkcnjhaaGreatDoor

/- Walks: who has slots. -/

namespace Go.Proofs.YtcomjodfkcnjhaaGreatDoor
open Go.Ax
open Cel (c)
theorem qN31 {p : Prop} (h : p := by (conv => lhs; whnf); all_goals exact rfl) : p := h
theorem qN32 {p : Prop} (h : p := by first | exact AStepD.eql rfl rfl rfl | exact AStepD.str_eql rfl rfl rfl | exact (AStepD.ptr_nil tok (.inl ⟨_, _, rfl⟩) rfl rfl rfl).1 rfl | exact (AStepD.nil_nil tok rfl rfl rfl rfl).1 rfl | exact (AStepD.bool_eq tok rfl rfl rfl rfl).1 rfl | exact (AStepD.ptr_same tok rfl rfl rfl rfl rfl).1 rfl | exact (AStepD.iface_nil tok rfl rfl rfl rfl).1 rfl | exact (AStepD.nilIface_nil tok rfl rfl rfl rfl).1 rfl) : p := h
theorem qN33 {p : Prop} (h : p := by first | omega | (simp; done) | (simp; omega) | (simp only [over, List.length_append, List.length_take, List.length_drop, *]; omega) | (simp_all; done) | (simp_all; omega)) : p := h
theorem qN34 {p : Prop} (h : p := by first | with_reducible assumption | exact Cel.one _ | exact flat_ones _ | exact ones_nil | (simp only [List.forall_mem_cons, List.not_mem_nil, false_implies, implies_true, and_true, one_v, one_ptr, one_ip, one_sl, one_slc, one_vec, one_map, one_func, one_iface, Value.oneCell', *]; done) | (simp [AV.one, Value.oneCell', *]; done)) : p := h
theorem qN35 {p : Prop} (h : p := by simp only [List.flatMap_cons, List.flatMap_nil, cells_v, cells_any, cells_ptr, cells_ip, cells_sl, cells_vec, cells_map, cells_func, cells_agg, cells_iface, List.cons_append, List.nil_append, List.append_nil]; all_goals exact rfl) : p := h
theorem qN36 {p : Prop} (h : p := by first | omega | (simp only [za, zb, zc, zd]; omega)) : p := h
theorem qN37 {p : Prop} (h : p := by (conv => lhs; whnf); all_goals first | exact rfl | (simp; done) | (simp; omega)) : p := h
theorem qN38 {p : Prop} (h : p := by first | exact rfl | exact (Int.toNat_of_nonneg (by omega)).symm) : p := h
theorem qN39 {p : Prop} (h : p := by first | (simp only [Nat.zero_add, Nat.zero_mul, Nat.sub_zero, Nat.add_zero]; exact rfl) | exact rfl) : p := h
theorem qN310 {p : Prop} (h : p := by exact AStepD.assign' rfl qN31) : p := h
theorem qN311 {p : Prop} (h : p := by exact AStepD.move' rfl qN31) : p := h
theorem qN312 {p : Prop} (h : p := by first | exact AStepD.buildSlice0 tok rfl rfl rfl rfl (show _ = 1 from rfl) | exact AStepD.buildSlice1 tok rfl rfl rfl rfl (show _ = 1 from rfl) qN31 qN31 qN33 (by decide) qN34 | exact AStepD.buildSlice_seq tok rfl rfl rfl rfl (show _ = 1 from rfl) map_n rfl (by decide) (by decide) rfl qN35 qN34 | exact AStepD.buildSlice tok rfl rfl rfl rfl qN31 (by decide) (by decide) rfl qN34) : p := h
theorem qN313 {p : Prop} (h : p := by first | with_reducible assumption | (simp (disch := (first | omega | (exact Lst.lab_ne (by with_reducible assumption) qN36) | (exact Lst.lab_new (by with_reducible assumption) qN36) | (refine id ?_; simp only [za, zb, zc, zd]; done) | (simp only [za, zb, zc, zd]; omega))) only [z1, z2, z3, z4, z5, z6, z7, z8, z9, ne_eq, *]; done) | (simp (disch := (first | omega | (exact Lst.lab_ne (by with_reducible assumption) qN36) | (exact Lst.lab_new (by with_reducible assumption) qN36) | (refine id ?_; simp only [za, zb, zc, zd]; done) | (simp only [za, zb, zc, zd]; omega))) only [z1, z2, z3, z4, z5, z6, z7, z8, z9, ne_eq, *]; exact rfl)) : p := h
theorem qN314 {p : Prop} (h : p := by repeat' (first | exact SubT.nil _ | refine SubT.cons_eq qN37 ?_)) : p := h
theorem qN315 {p : Prop} (h : p := by first | exact AStepD.indexAddr_flat tok rfl rfl rfl rfl rfl rfl rfl (show _ = 1 from rfl) rfl qN38 qN33 | exact AStepD.indexAddr_vec' tok rfl rfl rfl rfl rfl rfl (show _ = 1 from rfl) qN38 qN33 | exact AStepD.indexAddr_sl' tok rfl rfl rfl rfl rfl rfl (show _ = 1 from rfl) qN38 qN33 qN39 | exact AStepD.indexAddr_arr' tok rfl rfl rfl rfl rfl rfl (show _ = 1 from rfl) qN38 qN33 qN39) : p := h
theorem qN316 {p : Prop} (h : p := by exact SD.s rfl rfl rfl qN310) : p := h
theorem qN317 {p : Prop} (h : p := by exact SD.s rfl rfl rfl qN311) : p := h
set_option linter.unusedSimpArgs false
set_option linter.unusedVariables false
set_option maxRecDepth 20000
open Cel (c)

theorem sort_calls (H : AHeap) (zs : List Int) (D : Nat) (hD : H.get D = some (.cells 3 (flat zs))) (hl : zs.length ≤ 1000000) : ACalls Tryz.prog 28 [.sl D 0 zs.length 1] H (fun r H' => r = .tup [] ∧ H' = H.set D (.cells 3 (flat (sortI zs)))) :=
  ACalls.ints_row (Ret := fun u _ _ => u = .tuple #[]) hD (sortI_len zs) (fun w b cap _ _ hH hb => (Any.slices_Sort_int lays189 b 0 cap zs w hH hb (by omega)).mono fun e w' ⟨he, n, os, hw⟩ => ⟨_, n, os, he, hw, rfl⟩)
    (fun ρ I B cap u _ _ _ _ hu => by subst hu; exact .tup (vs := []) rfl (by simp))
theorem compact_calls (H : AHeap) (zs : List Int) (D : Nat) (hD : H.get D = some (.cells 3 (flat zs))) (hl : zs.length ≤ 1000000) : ACalls Tryz.prog 63 [.sl D 0 zs.length 1] H (fun r H' => r = .sl D 0 (Lib.compact zs).length 1 ∧ H' = H.set D (.cells 3 (flat (Lib.compact zs ++ List.replicate (zs.length - (Lib.compact zs).length) 0)))) :=
  ACalls.ints_row (Ret := fun u b cap => u = .slice (some ⟨b, 0, none⟩) (Lib.compact zs).length cap) hD (by have := Lib.compact_length_le zs; simp; omega)
    (fun w b cap hcap _ hH hb => (Any.slices_Compact_int laysNm220 b 0 cap zs w hH (by omega) hcap).mono fun e w' ⟨he, n, hw⟩ => ⟨_, n, #[], he, by rw [hw, Sort.grow_empty], rfl⟩)
    (fun ρ I B cap u hB h1 h2 h3 hu => by subst hu; have := Lib.compact_length_le zs; exact .sl hB (by omega) h2 (by omega))
theorem iszero_calls (H : AHeap) (a : Int) : ACalls Tryz.prog 64 [.v (.int .i64 a)] H (fun r H' => r = .v (.bool (decide (a = 0))) ∧ H' = H) := by
  refine ACalls.of_body tok Tryz.func64 rfl Tryz.ntmps64 (Nat.le_of_ble_eq_true rfl) (fun base => ?_)
  refine rg fun K hK => ?_
  refine st qN316 <| nt (hK _ _ ?_)
  clear hK K
  refine rg fun K hK => ?_
  refine st qN317 <| st (by exact SD.s rfl rfl rfl qN32) <| st qN316 <| nt (hK _ _ ?_)
  clear hK K
  exact AW.ret (RetQ.mk (.inr rfl) (retA_tmp rfl qN31 retA_nil) ⟨rfl, rfl⟩)
theorem clone_calls (H : AHeap) (L : Nat) (own : List Int) (r : List AV) (hL : H.get L = some (.cells 32 (flat own ++ r))) (hl : own.length = 64) : ACalls Tryz.prog 61 [.sl L 0 64 1] H (fun r' H' => ∃ D, r' = .sl D 0 64 1 ∧ H.next ≤ D ∧ D < H'.next ∧ H'.get D = some (.cells 3 (flat own)) ∧ Keep H H') := by
  refine ACalls.lts fun hlt => ?_
  have hLn := hlt _ _ hL
  refine ACalls.of_body tok Tryz.func61 rfl Tryz.ntmps61 (Nat.le_of_ble_eq_true rfl) (fun base => ?_)
  refine rg fun K hK => ?_
  refine st qN316 <| nt (hK _ _ ?_)
  clear hK K
  refine AW.seq_k (fun K1 hK1 => ?_)
  refine AW.seq_region (fun K hK => ?_)
  refine AL.step rfl rfl rfl qN311 ?_
  refine AL.call rfl rfl rfl ((AStep.eq_nil tok rfl IsSl.sl rfl rfl rfl)) ?_
  rintro _ H ⟨rfl, b, rfl, hb⟩
  obtain rfl : b = false := by cases b with | false => rfl | true => exact absurd (hb rfl) (by omega)
  refine AL.nil_then (hK _ _ ?_); clear hK K
  refine AW.cond_false rfl rfl (AW.skip ?_)
  refine hK1 _ _ ?_; try clear hK1 K1
  have hfl : (flat own).length = 64 := (flat_length own).trans (by rw [hl]; rfl)
  have hsrc : Ax.Src (H.new (.cells 3 [])) 1 (.sl L 0 64 1) 64 (flat own) := by
    have h : Ax.Src (H.new (.cells 3 [])) 1 (.sl L 0 64 1) 64 (((flat own ++ r).drop 0).take (64 * 1)) := .sl ((AHeap.get_new_ne H _ (by omega : L ≠ H.next)).trans hL) (by rw [List.length_append]; omega)
    rwa [List.drop_zero, List.take_append_of_le_length (by omega), List.take_of_length_le (by omega)] at h
  refine rg fun K hK => ?_
  refine st (by exact SD.s rfl rfl rfl qN312) <| st qN317 <| st (by exact SD.s rfl rfl rfl (by exact AStepD.append' (bk := 64) (l := H.next) (cs := []) (ys := flat own) (n := 64) (m := 64) (zs := flat own) (src := .sl L 0 64 1) tok rfl rfl rfl rfl rfl rfl rfl rfl (show _ = 1 from rfl) rfl (by rw [AHeap.get_new_same]) rfl rfl hsrc (by rw [hfl]) (flat_ones own) (by omega) (by omega) rfl rfl)) <| st qN316 <| nt (hK _ _ ?_)
  clear hK K
  exact AW.ret (RetQ.mk (.inr rfl) (retA_tmp rfl qN31 retA_nil) ⟨_, rfl, by simp only [zc]; omega, by simp only [za, zb, zc]; omega, qN313, (by repeat' (first | exact Keep.refl _ | apply Keep.new | apply Keep.set | apply Keep.del | (first | omega | (simp only [za, zb, zc]; omega))))⟩)

def RdL (H : AHeap) (s : AV) (zs : List Int) : Prop := s = vecA zs ∨ ∃ D cs, s = .sl D 0 zs.length 1 ∧ H.get D = some (.cells 3 cs) ∧ cs.take zs.length = flat zs ∧ zs.length ≤ cs.length
theorem RdL.isSl {H : AHeap} {s : AV} {zs : List Int} (h : RdL H s zs) : IsSl s zs.length := by
  rcases h with rfl | ⟨D, cs, rfl, _⟩
  · exact .vec
  · exact .sl
theorem RdL.at {H : AHeap} {D : Nat} {cs : List AV} {zs : List Int} (h : cs.take zs.length = flat zs) {i : Nat} (hi : i < zs.length) : cs[i * 1]? = some (.v (.int .i64 zs[i])) := by
  have h1 := int_at zs i hi
  rw [← h, List.getElem?_take, if_pos (by omega)] at h1
  exact h1
theorem idx_calls (H : AHeap) (s : AV) (zs : List Int) (g : FuncId) (caps : List AV) (p : Int → Bool) (hs : RdL H s zs) (he : Go.Ax.Enters Tryz.prog g) (hlen : zs.length ≤ 1000)
    (hp : ∀ a ∈ zs, ACalls Tryz.prog g (.v (.int .i64 a) :: caps) H (fun v H' => v = .v (.bool (p a)) ∧ H' = H)) :
    ACalls Tryz.prog 79 [s, .func (.func g) caps] H (fun r H' => r = .v (.int .i64 (idxF p zs)) ∧ H' = H) := by
  have hsl := hs.isSl
  refine ACalls.of_body tok Tryz.func79 rfl Tryz.ntmps79 (Nat.le_of_ble_eq_true rfl) (fun base => ?_)
  refine rg fun K hK => ?_
  refine st qN316 <| nt (hK _ _ ?_)
  clear hK K
  refine AW.seq_k (fun K1 hK1 => ?_)
  refine rg fun K hK => ?_
  refine st qN317 <| st (by exact SD.s rfl rfl rfl (by exact AStepD.len_sl tok rfl rfl hsl rfl rfl)) <| st qN317 <| nt (hK _ _ ?_)
  clear hK K
  refine AW.block ?_
  refine AW.loop_at (ι := Nat) (fun i => [(8, .v (.int .i64 (i : Nat))), (7, .v (.int .i64 (zs.length : Nat))), (1, .func (.func g) caps), (0, s)])
    (fun i H' => i ≤ zs.length ∧ H' = H ∧ ∀ j (hj : j < zs.length), j < i → p zs[j] = false) (fun i => zs.length - i) 0 qN314 ⟨Nat.zero_le _, rfl, fun _ _ h => by omega⟩ ?_
  rintro i H ⟨hi, rfl, hno⟩
  refine rg fun K hK => ?_
  refine st (by exact SD.s rfl rfl rfl (by exact AStepD.lss rfl rfl rfl)) <| nt (hK _ _ ?_)
  clear hK K
  refine AW.seq_k (fun K2 hK2 => ?_)
  refine AW.cond _ rfl (fun hc => ?_) (fun hc => ?_)
  · have hc := of_decide_eq_true hc
    have hil : i < zs.length := by omega
    refine AW.skip ?_
    refine hK2 _ _ ?_; clear hK2 K2
    refine AW.seq_k (fun K3 hK3 => ?_)
    refine AW.block ?_
    refine rg fun K hK => ?_
    refine st qN317 <| st qN316 <| nt (hK _ _ ?_)
    clear hK K
    rcases hs with rfl | ⟨D, cs, rfl, hD, hcs, hcl⟩
    · refine rg fun K hK => ?_
      refine st qN317 <| st qN317 <| st qN317 <| st (by exact SD.s rfl rfl rfl (by exact AStepD.indexAddr_flat (i := i) tok rfl rfl rfl rfl rfl rfl rfl rfl rfl rfl hil)) <| st (by exact SD.s rfl rfl rfl (by exact AStepD.load_one_ip tok rfl rfl rfl rfl rfl (show _ = some (.v (.int .i64 zs[i])) from rfl))) <| st (by exact SD.s rfl rfl rfl (by exact AStepD.callv rfl rfl he rfl (hp _ (List.getElem_mem hil)))) <| nt (hK _ _ ?_)
      clear hK K
      refine AW.cond _ rfl (fun hc => ?_) (fun hc => ?_)
      · refine rg fun K hK => ?_
        refine st qN317 <| st qN316 <| nt (hK _ _ ?_)
        clear hK K
        refine AW.ret (RetQ.mk (.inr rfl) (retA_tmp rfl qN31 retA_nil) ⟨?_, rfl⟩)
        rw [idxF_at hil hc hno]; rfl
      · refine AW.skip ?_
        refine hK3 _ _ ?_; clear hK3 K3
        refine AW.region ?_
        refine st (by exact SD.s rfl rfl rfl (by first | exact AStepD.add rfl rfl rfl (by first | exact IntWalk.i64_in _ (by omega) | exact IntWalk.i64_in _ (by simp only [Bool.or_eq_true, Bool.and_eq_true, Bool.or_eq_false_iff, Bool.and_eq_false_iff, Bool.not_eq_true', Bool.not_eq_false', decide_eq_true_eq, decide_eq_false_iff_not, Int.not_lt, Int.not_le, beq_iff_eq] at *; omega) | exact rfl) | exact AStepD.str_add rfl rfl rfl (by omega))) <| st qN317 <| AL.nil ?_
        refine ⟨i + 1, by omega, qN314, hil, rfl, fun j hj hji => ?_⟩
        rcases Nat.lt_succ_iff_lt_or_eq.1 hji with h | rfl
        · exact hno j hj h
        · exact hc
    · refine rg fun K hK => ?_
      refine st qN317 <| st qN317 <| st qN317 <| st (by exact SD.s rfl rfl rfl qN315) <| st (by exact SD.s rfl rfl rfl (by exact AStepD.load_one tok rfl rfl rfl rfl hD rfl (RdL.at (H := H) (D := D) hcs hil))) <| st (by exact SD.s rfl rfl rfl (by exact AStepD.callv rfl rfl he rfl (hp _ (List.getElem_mem hil)))) <| nt (hK _ _ ?_)
      clear hK K
      refine AW.cond _ rfl (fun hc => ?_) (fun hc => ?_)
      · refine rg fun K hK => ?_
        refine st qN317 <| st qN316 <| nt (hK _ _ ?_)
        clear hK K
        refine AW.ret (RetQ.mk (.inr rfl) (retA_tmp rfl qN31 retA_nil) ⟨?_, rfl⟩)
        rw [idxF_at hil hc hno]; rfl
      · refine AW.skip ?_
        refine hK3 _ _ ?_; clear hK3 K3
        refine AW.region ?_
        refine st (by exact SD.s rfl rfl rfl (by first | exact AStepD.add rfl rfl rfl (by first | exact IntWalk.i64_in _ (by omega) | exact IntWalk.i64_in _ (by simp only [Bool.or_eq_true, Bool.and_eq_true, Bool.or_eq_false_iff, Bool.and_eq_false_iff, Bool.not_eq_true', Bool.not_eq_false', decide_eq_true_eq, decide_eq_false_iff_not, Int.not_lt, Int.not_le, beq_iff_eq] at *; omega) | exact rfl) | exact AStepD.str_add rfl rfl rfl (by omega))) <| st qN317 <| AL.nil ?_
        refine ⟨i + 1, by omega, qN314, hil, rfl, fun j hj hji => ?_⟩
        rcases Nat.lt_succ_iff_lt_or_eq.1 hji with h | rfl
        · exact hno j hj h
        · exact hc
  · have hc := of_decide_eq_false hc
    have hil : i = zs.length := by omega
    refine AW.exit ?_
    refine hK1 _ _ ?_; try clear hK1 K1
    refine rg fun K hK => ?_
    refine st qN316 <| nt (hK _ _ ?_)
    clear hK K
    refine AW.ret (RetQ.mk (.inr rfl) (retA_tmp rfl qN31 retA_nil) ⟨?_, rfl⟩)
    rw [idxF_no fun j hj => hno j hj (by omega)]; rfl
end Go.Proofs.YtcomjodfkcnjhaaGreatDoor

/- Walks: DeleteFunc of noughts, Owners, Of. -/

namespace Go.Proofs.YtcomjodfkcnjhaaGreatDoor
open Go.Ax
open Cel (c)
theorem qN41 {p : Prop} (h : p := by first | exact AStepD.len_str tok rfl rfl rfl rfl | exact AStepD.len_sl tok rfl qN31 (by first | exact IsSl.vec | exact IsSl.sl | exact IsSl.slc | exact IsSl.nil | with_reducible assumption) rfl rfl | exact AStepD.len_arr tok rfl rfl rfl) : p := h
theorem qN42 {p : Prop} (h : p := by exact SD.s rfl rfl rfl qN315) : p := h
set_option linter.unusedSimpArgs false
set_option linter.unusedVariables false
set_option maxRecDepth 20000
open Cel (c)

theorem contI_calls (H : AHeap) (zs : List Int) (g : FuncId) (caps : List AV) (p : Int → Bool) (he : Go.Ax.Enters Tryz.prog g) (hlen : zs.length ≤ 1000)
    (hp : ∀ a ∈ zs, ACalls Tryz.prog g (.v (.int .i64 a) :: caps) H (fun v H' => v = .v (.bool (p a)) ∧ H' = H)) :
    ACalls Tryz.prog 52 [vecA zs, .func (.func g) caps] H (fun r H' => r = .v (.bool (zs.any p)) ∧ H' = H) := by
  refine ACalls.of_body tok Tryz.func52 rfl Tryz.ntmps52 (Nat.le_of_ble_eq_true rfl) (fun base => ?_)
  refine rg fun K hK => ?_
  refine st qN316 <| nt (hK _ _ ?_)
  clear hK K
  refine rg fun K hK => ?_
  refine st qN317 <| st qN317 <| st (by exact SD.s rfl rfl rfl (by exact AStepD.callf rfl en79 rfl (idx_calls H _ zs g caps p (.inl rfl) he hlen hp))) <| st (by exact SD.s rfl rfl rfl (by exact AStepD.geq rfl rfl rfl)) <| st qN316 <| nt (hK _ _ ?_)
  clear hK K
  refine AW.ret (RetQ.mk (.inr rfl) (retA_tmp rfl qN31 retA_nil) ⟨?_, rfl⟩)
  show AV.v (.bool (decide (0 ≤ idxF p zs))) = _
  rcases idxF_find p zs with ⟨h1, h2⟩ | ⟨k, hk, h1, h2⟩
  · rw [h1]
    rw [List.find?_eq_none] at h2
    rw [show zs.any p = false from List.any_eq_false.2 h2]; rfl
  · rw [h1]
    have := List.find?_some h2
    rw [show zs.any p = true from List.any_eq_true.2 ⟨_, List.getElem_mem hk, this⟩]
    simp
def nz (x : Int) : Bool := decide (x ≠ 0)
theorem nz_dec (x : Int) : (!decide (x = 0)) = nz x := by rw [nz, ← decide_not]
theorem filter_take (l : List Int) (j : Nat) (h : j < l.length) : (l.take (j + 1)).filter nz = (l.take j).filter nz ++ (if nz l[j] then [l[j]] else []) := by
  rw [take_next l j h, List.filter_append]
  congr 1
  cases h2 : nz l[j] <;> simp [h2]
set_option maxHeartbeats 2000000 in
theorem delz_calls (H : AHeap) (D m : Nat) (zs : List Int) (hD : H.get D = some (.cells 3 (flat zs))) (hm : m ≤ zs.length) (hlen : zs.length ≤ 1000) :
    ACalls Tryz.prog 62 [.sl D 0 m 1, .func (.func 64) []] H (fun r H' => ∃ cs, r = .sl D 0 ((zs.take m).filter nz).length 1 ∧ H'.get D = some (.cells 3 cs) ∧ cs.take ((zs.take m).filter nz).length = flat ((zs.take m).filter nz) ∧ ((zs.take m).filter nz).length ≤ cs.length ∧ H'.next = H.next ∧ ∀ q, q ≠ D → H'.get q = H.get q) := by
  have hfl : (flat zs).length = zs.length := (flat_length zs).trans (Nat.mul_one _)
  have hml : (zs.take m).length = m := by rw [List.length_take]; omega
  have hrd : RdL H (.sl D 0 m 1) (zs.take m) := .inr ⟨D, flat zs, by rw [hml], hD, by rw [hml]; have := ints_take zs m; rwa [Nat.mul_one] at this, by rw [hml, hfl]; exact hm⟩
  refine ACalls.of_body tok Tryz.func62 rfl Tryz.ntmps62 (Nat.le_of_ble_eq_true rfl) (fun base => ?_)
  refine rg fun K hK => ?_
  refine st qN316 <| nt (hK _ _ ?_)
  clear hK K
  refine rg fun K hK => ?_
  refine st qN317 <| st qN317 <| st (by exact SD.s rfl rfl rfl (by exact AStepD.callf rfl en79 rfl (idx_calls H _ (zs.take m) 64 [] (fun a => decide (a = 0)) hrd en64 (by omega) (fun a _ => iszero_calls H a)))) <| st qN316 <| nt (hK _ _ ?_)
  clear hK K
  refine AW.seq_k (fun K1 hK1 => ?_)
  rcases idxF_find (fun a => decide (a = 0)) (zs.take m) with ⟨h1, h2⟩ | ⟨k, hk, h1, h2⟩
  · rw [h1]
    have hall : (zs.take m).filter nz = zs.take m := List.filter_eq_self.2 fun x hx => by
      have := List.find?_eq_none.1 h2 x hx
      rw [← nz_dec]; simpa using this
    refine rg fun K hK => ?_
    refine st qN317 <| st (by exact SD.s rfl rfl rfl qN32) <| nt (hK _ _ ?_)
    clear hK K
    refine AW.cond_true rfl rfl ?_
    refine rg fun K hK => ?_
    refine st qN317 <| st qN316 <| nt (hK _ _ ?_)
    clear hK K
    refine AW.ret (RetQ.mk (.inr rfl) (retA_tmp rfl qN31 retA_nil) ⟨flat zs, by rw [hall, hml]; rfl, hD, ?_, by rw [hall, hml, hfl]; exact hm, rfl, fun _ _ => rfl⟩)
    rw [hall, hml]
    have := ints_take zs m
    rwa [Nat.mul_one] at this
  rw [h1]
  obtain ⟨hk0, hk1⟩ : (zs.take m)[k] = 0 ∧ ∀ j (hj : j < k), (zs.take m)[j]'(by omega) ≠ 0 := by
    rw [List.find?_eq_some_iff_getElem] at h2
    obtain ⟨h3, i, hi, h4, h5⟩ := h2
    have hik : i = k := by
      rcases Nat.lt_trichotomy i k with h | h | h
      · obtain ⟨_, q1, q2⟩ := List.findIdx?_eq_some_iff_getElem.1 (show (zs.take m).findIdx? (fun a => decide (a = 0)) = some k by
          rw [idxF] at h1
          cases e : (zs.take m).findIdx? (fun a => decide (a = 0)) with
          | none => rw [e] at h1; simp only at h1; omega
          | some q => rw [e] at h1; simp only at h1; congr 1; omega)
        have := q2 i h
        rw [h4] at this
        exact absurd h3 this
      · exact h
      · have := h5 k h
        have q := of_decide_eq_true h3
        simp [q] at this
    subst hik
    exact ⟨of_decide_eq_true h3, fun j hj => by have := h5 j hj; simpa using this⟩
  have hkm : k < m := by omega
  rw [List.getElem_take] at hk0
  have hstart : ((zs.take m).take (k + 1)).filter nz = zs.take k := by
    rw [List.take_take, Nat.min_eq_left (by omega), filter_take zs k (by omega), hk0]
    rw [show nz 0 = false from rfl]
    simp only [Bool.false_eq_true, if_false, List.append_nil]
    refine List.filter_eq_self.2 fun x hx => ?_
    obtain ⟨j, hj, rfl⟩ := List.mem_iff_getElem.1 hx
    rw [List.length_take] at hj
    have := hk1 j (by omega)
    rw [List.getElem_take] at this ⊢
    rw [nz]; exact decide_eq_true this
  refine rg fun K hK => ?_
  refine st qN317 <| st (by exact SD.s rfl rfl rfl (by exact AStepD.bool (AStepD.eql rfl rfl rfl) (c := false) (by simp))) <| nt (hK _ _ ?_)
  clear hK K
  refine AW.cond_false rfl rfl (AW.skip ?_)
  refine hK1 _ _ ?_; try clear hK1 K1
  refine AW.seq_k (fun K2 hK2 => ?_)
  refine rg fun K hK => ?_
  refine st qN317 <| st (by exact SD.s rfl rfl rfl (by exact AStepD.add (r := ((k + 1 : Nat) : Int)) rfl rfl rfl (by show IntKind.i64.wrap ((k : Int) + 1) = _; exact IntWalk.i64_in _ (by omega)))) <| st qN316 <| nt (hK _ _ ?_)
  clear hK K
  refine AW.block ?_
  refine AW.loop_at (ι := Nat × Nat × List Int) (fun x => [(6, .v (.int .i64 (x.2.1 : Nat))), (5, .v (.int .i64 (x.1 : Nat))), (1, .func (.func 64) []), (0, .sl D 0 m 1)])
    (fun x H' => x.1 < x.2.1 ∧ x.2.1 ≤ m ∧ x.2.2.length = zs.length ∧ x.2.2.take x.1 = (zs.take x.2.1).filter nz ∧ x.2.2.drop x.2.1 = zs.drop x.2.1 ∧ H' = H.set D (.cells 3 (flat x.2.2))) (fun x => m - x.2.1) (k, k + 1, zs) qN314
    ⟨by show k < k + 1; omega, by show k + 1 ≤ m; omega, rfl, by rw [List.take_take, Nat.min_eq_left (by omega)] at hstart; exact hstart.symm, rfl, (AHeap.set_eq hD).symm⟩ ?_
  rintro ⟨i, j, arr⟩ H2 ⟨hij, hjm, hal, ha1, ha2, rfl⟩
  dsimp only at hij hjm hal ha1 ha2 ⊢
  refine AW.seq_k (fun K3 hK3 => ?_)
  refine rg fun K hK => ?_
  refine st qN317 <| st qN317 <| st (by exact SD.s rfl rfl rfl qN41) <| st (by exact SD.s rfl rfl rfl (by exact AStepD.lss rfl rfl rfl)) <| nt (hK _ _ ?_)
  clear hK K
  refine AW.cond _ rfl (fun hc => ?_) (fun hc => ?_)
  · (try simp only [Bool.or_eq_true, Bool.and_eq_true, Bool.or_eq_false_iff, Bool.and_eq_false_iff, Bool.not_eq_true', Bool.not_eq_false', decide_eq_true_eq, decide_eq_false_iff_not, Int.not_lt, Int.not_le] at hc)
    have hjl : j < m := by omega
    have hjz : j < zs.length := by omega
    have hja : j < arr.length := by omega
    have hv : arr[j] = zs[j] := by
      have h3 := congrArg (fun l => l[0]?) ha2
      simp only [List.getElem?_drop, Nat.add_zero] at h3
      rw [List.getElem?_eq_getElem hja, List.getElem?_eq_getElem hjz] at h3
      exact Option.some.inj h3
    have hnext := filter_take zs j hjz
    have hdrop : arr.drop (j + 1) = zs.drop (j + 1) := by
      have := congrArg (fun l => l.drop 1) ha2
      simpa [List.drop_drop] using this
    refine AW.skip ?_
    refine hK3 _ _ ?_; try clear hK3 K3
    refine AW.seq_k (fun K4 hK4 => ?_)
    refine AW.block ?_
    refine rg fun K hK => ?_
    refine st qN317 <| st qN317 <| st qN42 <| st (by exact SD.s rfl rfl rfl (by exact AStepD.load_one tok rfl rfl rfl rfl (AHeap.get_set_same _ _ _) rfl (int_at arr j hja))) <| st qN316 <| nt (hK _ _ ?_)
    clear hK K
    rw [hv]
    refine rg fun K hK => ?_
    refine st qN317 <| st qN317 <| st (by exact SD.s rfl rfl rfl (by exact AStepD.callv rfl rfl en64 rfl (iszero_calls _ zs[j]))) <| st (by exact SD.s rfl rfl rfl (by exact AStepD.bool (AStepD.not rfl rfl) (c := nz zs[j]) (nz_dec _))) <| nt (hK _ _ ?_)
    clear hK K
    refine AW.cond _ rfl (fun hc => ?_) (fun hc => ?_)
    · rw [hc] at hnext
      simp only [if_true] at hnext
      have hia : i < arr.length := by omega
      refine rg fun K hK => ?_
      refine st qN317 <| st qN317 <| st qN317 <| st qN42 <| st0 (by exact ⟨rfl, rfl, (by exact AStepD.store' tok rfl rfl (AHeap.get_set_same _ _ _) rfl rfl (fun z hz => by rw [List.mem_singleton.1 hz]; rfl) rfl rfl rfl (by rw [flat_length, hal]; show i * 1 + 1 ≤ _ * 1; omega) (over_int arr i hia zs[j]))⟩) <| nt (hK _ _ ?_)
      clear hK K
      refine AW.region ?_
      refine st qN317 <| st (by exact SD.s rfl rfl rfl (by exact AStepD.add (r := ((i + 1 : Nat) : Int)) rfl rfl rfl (by show IntKind.i64.wrap ((i : Int) + 1) = _; exact IntWalk.i64_in _ (by omega)))) <| st qN316 <| AL.nil ?_
      refine hK4 _ _ ?_; try clear hK4 K4
      refine AW.region ?_
      refine st qN317 <| st (by exact SD.s rfl rfl rfl (by exact AStepD.add (r := ((j + 1 : Nat) : Int)) rfl rfl rfl (by show IntKind.i64.wrap ((j : Int) + 1) = _; exact IntWalk.i64_in _ (by omega)))) <| st qN316 <| AL.nil ?_
      refine ⟨(i + 1, j + 1, arr.set i zs[j]), by show m - (j + 1) < m - j; omega, qN314, by show i + 1 < j + 1; omega, by show j + 1 ≤ m; omega, by rw [List.length_set]; exact hal, ?_, ?_, ?_⟩
      · show (arr.set i zs[j]).take (i + 1) = (zs.take (j + 1)).filter nz
        rw [hnext, ← ha1, take_next _ i (by rw [List.length_set]; exact hia), List.getElem_set_self, List.take_set_of_le (Nat.le_refl _)]
      · show (arr.set i zs[j]).drop (j + 1) = zs.drop (j + 1)
        rw [List.drop_set_of_lt (by omega)]; exact hdrop
      · rw [AHeap.set_set]
    · have hc : nz zs[j] = false := hc
      rw [hc] at hnext
      simp only [Bool.false_eq_true, if_false, List.append_nil] at hnext
      refine AW.skip ?_
      refine hK4 _ _ ?_; try clear hK4 K4
      refine AW.region ?_
      refine st qN317 <| st (by exact SD.s rfl rfl rfl (by exact AStepD.add (r := ((j + 1 : Nat) : Int)) rfl rfl rfl (by show IntKind.i64.wrap ((j : Int) + 1) = _; exact IntWalk.i64_in _ (by omega)))) <| st qN316 <| AL.nil ?_
      exact ⟨(i, j + 1, arr), by show m - (j + 1) < m - j; omega, qN314, by show i < j + 1; omega, by show j + 1 ≤ m; omega, hal, by rw [hnext]; exact ha1, hdrop, rfl⟩
  · (try simp only [Bool.or_eq_true, Bool.and_eq_true, Bool.or_eq_false_iff, Bool.and_eq_false_iff, Bool.not_eq_true', Bool.not_eq_false', decide_eq_true_eq, decide_eq_false_iff_not, Int.not_lt, Int.not_le] at hc)
    obtain rfl : j = m := by omega
    have hi : i = ((zs.take j).filter nz).length := by rw [← ha1, List.length_take]; omega
    have hal2 : (flat arr).length = zs.length := by rw [flat_length, hal]; exact Nat.mul_one _
    refine AW.exit ?_
    refine hK2 _ _ ?_; try clear hK2 K2
    refine rg fun K hK => ?_
    refine st qN317 <| st qN317 <| st (by exact SD.s rfl rfl rfl (by exact AStepD.weak (AStepD.slice_sl_in (l := i) (h := j) (m := j - i) (off' := i * 1) tok rfl rfl rfl rfl rfl rfl rfl rfl (by omega) (Nat.le_refl _) (.inl hij) rfl (Nat.zero_add _)) SubV.sl_slc)) <| st0 (by exact ⟨rfl, rfl, (by exact AStepD.clear_slc tok rfl rfl rfl rfl rfl (show _ = 1 from rfl) (by decide) (AHeap.get_set_same _ _ _) (by rw [hal2]; omega) rfl)⟩) <| nt (hK _ _ ?_)
    clear hK K
    refine rg fun K hK => ?_
    refine st qN317 <| st qN317 <| st (by exact SD.s rfl rfl rfl (by exact AStepD.slice_sl_in (l := 0) (h := i) (m := i) (off' := 0) tok rfl rfl rfl rfl rfl rfl rfl rfl (Nat.zero_le _) (by omega) (.inr rfl) rfl rfl)) <| st qN316 <| nt (hK _ _ ?_)
    clear hK K
    refine AW.ret (RetQ.mk (.inr rfl) (retA_tmp rfl qN31 retA_nil) ⟨_, by rw [← hi]; rfl, AHeap.get_set_same _ _ _, ?_, ?_, rfl, fun q hq => by rw [AHeap.get_set_ne _ _ hq, AHeap.get_set_ne _ _ hq]⟩)
    · rw [← hi, ← ha1]
      have h3 := take_over (cs := flat arr) (ys := zerosA (tt 3).zero (j - i)) (off := i * 1) (by rw [hal2]; omega)
      rw [Nat.mul_one] at h3
      rw [Nat.mul_one]
      refine h3.trans ?_
      have := ints_take arr i
      rwa [Nat.mul_one] at this
    · have hz : (zerosA (tt 3).zero (j - i)).length = j - i := by simp only [zerosA, List.length_map, List.length_range]; exact Nat.mul_one _
      rw [← hi, over_length (by rw [hal2, hz]; omega), hal2]; omega
end Go.Proofs.YtcomjodfkcnjhaaGreatDoor
