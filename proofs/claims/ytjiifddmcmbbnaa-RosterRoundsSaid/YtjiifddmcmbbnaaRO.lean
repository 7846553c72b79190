/- The walk of the statement on rounds. -/
import Derived.Test.YtjiifddmcmbbnaaRJ
namespace Go.Proofs.Ytjiifddmcmbbnaa
open Go.Ax
set_option linter.unusedSimpArgs false
set_option linter.unusedVariables false

/-- How often the i-th of N comes in T turns. -/
def cnt (T N i : Nat) : Nat := T / N + (if i < T % N then 1 else 0)
theorem cnt_zero (N i : Nat) : cnt 0 N i = 0 := by simp [cnt]
theorem cnt_succ {T N i : Nat} (hN : 0 < N) (hi : i < N) : cnt (T + 1) N i = cnt T N i + (if T % N = i then 1 else 0) := by
  have hr := Nat.mod_lt T hN
  have e : T + 1 = N * (T / N) + (T % N + 1) := by have := Nat.div_add_mod T N; omega
  have h1 : (T + 1) / N = T / N + (T % N + 1) / N := by
    conv => lhs; rw [e]
    exact Nat.mul_add_div hN _ _
  have h2 : (T + 1) % N = (T % N + 1) % N := by
    conv => lhs; rw [e]
    exact Nat.mul_add_mod _ _ _
  unfold cnt
  rw [h1, h2]
  by_cases h : T % N + 1 < N
  · rw [Nat.div_eq_of_lt h, Nat.mod_eq_of_lt h]
    repeat' split
    all_goals omega
  · have h3 : T % N + 1 = N := by omega
    rw [h3, Nat.div_self hN, Nat.mod_self]
    repeat' split
    all_goals omega
theorem cnt_le (T N i : Nat) : cnt T N i ≤ T + 1 := by
  unfold cnt
  have := Nat.div_le_self T N
  split <;> omega
/-- The counts, those ahead of u counted once more at T. -/
def cnts (T N u : Nat) : List Int := (List.range N).map fun i => ((cnt T N i + (if i < u ∧ T % N = i then 1 else 0) : Nat) : Int)
theorem cnts_length (T N u : Nat) : (cnts T N u).length = N := by simp [cnts]
theorem cnts_at (T N u i : Nat) (h : i < (cnts T N u).length) : (cnts T N u)[i] = ((cnt T N i + (if i < u ∧ T % N = i then 1 else 0) : Nat) : Int) := by simp [cnts]
theorem cnts_next (T N : Nat) : cnts T N N = cnts (T + 1) N 0 := by
  refine List.ext_getElem (by simp [cnts]) fun i h1 h2 => ?_
  rw [cnts_length] at h1
  rw [cnts_at, cnts_at, cnt_succ (by omega) h1]
  have : ¬ i < 0 := by omega
  by_cases e : T % N = i <;> simp [e, h1]
theorem cnts_skip (T N u : Nat) (h : T % N ≠ u) : cnts T N (u + 1) = cnts T N u := by
  refine List.ext_getElem (by simp [cnts]) fun i h1 h2 => ?_
  rw [cnts_at, cnts_at]
  congr 2
  have : (i < u + 1 ∧ T % N = i) ↔ (i < u ∧ T % N = i) := by omega
  simp only [this]
theorem cnts_step (T N u : Nat) (hu : u < N) (h : T % N = u) : cnts T N (u + 1) = (cnts T N u).set u ((cnt T N u : Int) + 1) := by
  refine List.ext_getElem (by simp [cnts]) fun i h1 h2 => ?_
  rw [cnts_at, List.getElem_set]
  by_cases e : u = i
  · subst e
    rw [if_pos (by omega), if_pos rfl]
    omega
  · rw [if_neg e, cnts_at]
    congr 2
    have : (i < u + 1 ∧ T % N = i) ↔ (i < u ∧ T % N = i) := by omega
    simp only [this]
theorem intsA_set (l : List Int) (u : Nat) (z : Int) (h : u < l.length) : (intsA l).take (u * 1) ++ [.v (.int .i64 z)] ++ (intsA l).drop (u * 1 + 1) = intsA (l.set u z) := by
  rw [List.set_eq_take_append_cons_drop, if_pos h, Nat.mul_one, intsA, intsA, List.map_append, List.map_cons, List.map_take, List.map_drop, List.append_assoc]
  rfl
/-- Nobody has the id 0. -/
theorem allBut_zero {r : Ros} (h : MemOK r) : allBut r.ms 0 = r.ms.map (·.i) := by
  unfold allBut
  rw [List.filter_eq_self.2]
  intro m hm
  have := (h m hm).1
  simp [idB] at this
  simp
  omega
end Go.Proofs.Ytjiifddmcmbbnaa
