/- Whole plays of a roster, in lists: what the program's bans and the document's have in common. -/
import Derived.Test.YtjiifddmcmbbnaaQF
namespace Go.Proofs.Ytjiifddmcmbbnaa
open Go.Ax
set_option linter.unusedSimpArgs false
set_option linter.unusedVariables false

def Uniq : List (Int × Int) → Prop
  | [] => True
  | p :: r => (∀ q ∈ r, q.1 ≠ p.1) ∧ Uniq r
theorem getB_none {bs : List (Int × Int)} {w : Int} (h : ∀ q ∈ bs, q.1 ≠ w) : getB bs w = none := by
  induction bs with
  | nil => rfl
  | cons p r ih =>
    rw [getB, if_neg (h p (by simp))]
    exact ih fun q hq => h q (by simp [hq])
theorem getB_del {bs : List (Int × Int)} (hu : Uniq bs) (w v : Int) : getB (delB bs w) v = if v = w then none else getB bs v := by
  induction bs with
  | nil => simp [delB, getB]
  | cons p r ih =>
    simp only [delB]
    by_cases h : p.1 = w
    · rw [if_pos h]
      by_cases hv : v = w
      · rw [if_pos hv, hv, ← h]
        exact getB_none hu.1
      · rw [if_neg hv, getB, if_neg (by omega)]
    · rw [if_neg h, getB, getB]
      by_cases hp : p.1 = v
      · rw [if_pos hp, if_pos hp, if_neg (by omega)]
      · rw [if_neg hp, if_neg hp, ih hu.2]
theorem getB_put (bs : List (Int × Int)) (w u v : Int) : getB (putB bs w u) v = if v = w then some u else getB bs v := by
  induction bs with
  | nil =>
    by_cases h : v = w
    · subst h; simp [putB, getB]
    · simp [putB, getB, h]; omega
  | cons p r ih =>
    simp only [putB]
    by_cases h : p.1 = w
    · rw [if_pos h, getB, getB]
      by_cases hv : v = w
      · subst hv; simp
      · rw [if_neg (show ¬ w = v by omega), if_neg hv, if_neg (by omega)]
    · rw [if_neg h, getB, getB]
      by_cases hp : p.1 = v
      · rw [if_pos hp, if_pos hp, if_neg (by omega)]
      · rw [if_neg hp, if_neg hp, ih]
theorem del_mem {bs : List (Int × Int)} {w : Int} {q : Int × Int} (h : q ∈ delB bs w) : q ∈ bs := by
  induction bs with
  | nil => exact h
  | cons p r ih =>
    simp only [delB] at h
    split at h
    · simp [h]
    · rcases List.mem_cons.1 h with rfl | h
      · simp
      · simp [ih h]
theorem put_mem {bs : List (Int × Int)} {w u : Int} {q : Int × Int} (h : q ∈ putB bs w u) : q.1 = w ∨ q ∈ bs := by
  induction bs with
  | nil => simp [putB] at h; left; rw [h]
  | cons p r ih =>
    simp only [putB] at h
    split at h
    · rcases List.mem_cons.1 h with rfl | h
      · exact .inl rfl
      · exact .inr (by simp [h])
    · rcases List.mem_cons.1 h with rfl | h
      · exact .inr (by simp)
      · rcases ih h with h | h
        · exact .inl h
        · exact .inr (by simp [h])
theorem Uniq.del {bs : List (Int × Int)} (h : Uniq bs) (w : Int) : Uniq (delB bs w) := by
  induction bs with
  | nil => trivial
  | cons p r ih =>
    simp only [delB]
    split
    · exact h.2
    · exact ⟨fun q hq => h.1 q (del_mem hq), ih h.2⟩
theorem Uniq.put {bs : List (Int × Int)} (h : Uniq bs) (w u : Int) : Uniq (putB bs w u) := by
  induction bs with
  | nil => exact ⟨fun _ hq => absurd hq List.not_mem_nil, trivial⟩
  | cons p r ih =>
    simp only [putB]
    split
    · rename_i e
      exact ⟨fun q hq => by rw [← e]; exact h.1 q hq, h.2⟩
    · rename_i e
      refine ⟨fun q hq => ?_, ih h.2⟩
      rcases put_mem hq with hq | hq
      · rw [hq]; exact fun e2 => e e2.symm
      · exact h.1 q hq
/-- The program's bans and the document's say the same. -/
def Rel (bs cs : List (Int × Int)) : Prop := ∀ w t, refB cs w t = banned bs w t
theorem refB_no (cs : List (Int × Int)) (w v t : Int) : refB (noB cs w) v t = if v = w then false else refB cs v t := by
  unfold refB noB
  rw [List.any_filter]
  by_cases h : v = w
  · rw [if_pos h, List.any_eq_false]
    intro p _
    by_cases e : p.1 = v
    · simp [e, h]
    · simp [e]
  · rw [if_neg h]
    congr 1
    funext p
    by_cases e : p.1 = v
    · have : p.1 ≠ w := by omega
      simp [this]
    · simp [e]
theorem Rel.add {bs cs : List (Int × Int)} (h : Rel bs cs) (hu : Uniq bs) (w : Int) : Rel (delB bs w) (noB cs w) := by
  intro v t
  rw [refB_no, banned, getB_del hu]
  by_cases e : v = w
  · rw [if_pos e, if_pos e]
  · rw [if_neg e, if_neg e]; exact h v t
theorem Rel.forget {bs cs : List (Int × Int)} (h : Rel bs cs) (w u : Int) : Rel (putB bs w u) (noB cs w ++ [(w, u)]) := by
  intro v t
  have e1 : refB (noB cs w ++ [(w, u)]) v t = (refB (noB cs w) v t || (decide (w = v) && decide (t ≤ u))) := by simp [refB]
  rw [e1, refB_no, banned, getB_put]
  by_cases e : v = w
  · subst e; simp
  · rw [if_neg e, if_neg e, decide_eq_false (show ¬ w = v by omega), Bool.false_and, Bool.or_false]; exact h v t
/-- The document's roster beside the program's. -/
def beside (r : Ros) (cs : List (Int × Int)) : Ros := ⟨r.self, r.ms, cs, r.cur⟩
theorem radd_eq {r : Ros} {cs : List (Int × Int)} (h : Rel r.bs cs) (w t : Int) : raddE (beside r cs) w t = addE r w t := by
  show (if asked r.self w t ≠ 0 then asked r.self w t else if has r.ms w then 32 else if refB cs w t then 34 else if r.ms.length = 15 then 31 else 0) = _
  rw [h w t]; rfl
/-- All that holds of a play. -/
structure Play (r : Ros) (cs : List (Int × Int)) (i : Nat) (me : Int) : Prop where
  inv : Inv r
  slf : r.self = me
  uniq : Uniq r.bs
  rel : Rel r.bs cs
  len : cs.length ≤ i
  cur : r.cur ≤ i * 1000
theorem Play.new (a : Int) : Play ⟨a, [], [], 0⟩ [] 0 a := ⟨Inv.new a, rfl, trivial, fun _ _ => rfl, Nat.le_refl _, Nat.le_refl _⟩
set_option maxRecDepth 100000 in
theorem Play.skip {r : Ros} {cs : List (Int × Int)} {i : Nat} {a : Int} (h : Play r cs i a) : Play r cs (i + 1) a := ⟨h.inv, h.slf, h.uniq, h.rel, by have := h.len; omega, by have := h.cur; omega⟩
set_option maxRecDepth 100000 in
theorem Play.add {r : Ros} {cs : List (Int × Int)} {i : Nat} {a : Int} (h : Play r cs i a) (w t : Int) : Play (if addE r w t = 0 then addR r w else r) (if addE r w t = 0 then noB cs w else cs) (i + 1) a := by
  by_cases e : addE r w t = 0
  · rw [if_pos e, if_pos e]
    have h1 := noB_le cs w
    have h2 := h.len
    have h3 := h.cur
    exact ⟨h.inv.add e, h.slf, h.uniq.del w, h.rel.add h.uniq w, by omega, by show r.cur ≤ _; omega⟩
  · rw [if_neg e, if_neg e]; exact h.skip
set_option maxRecDepth 100000 in
theorem Play.forget {r : Ros} {cs : List (Int × Int)} {i : Nat} {a : Int} (h : Play r cs i a) (w t : Int) : Play (if forE r w t = 0 then forR r w t else r) (if forE r w t = 0 then noB cs w ++ [(w, t + 60000)] else cs) (i + 1) a := by
  by_cases e : forE r w t = 0
  · rw [if_pos e, if_pos e]
    have h1 := noB_le cs w
    have h2 := h.len
    have h3 := h.cur
    exact ⟨h.inv.forget, h.slf, h.uniq.put w _, h.rel.forget w _, by simp; omega, by show r.cur ≤ _; omega⟩
  · rw [if_neg e, if_neg e]; exact h.skip
set_option maxRecDepth 100000 in
theorem Play.set {r : Ros} {cs : List (Int × Int)} {i : Nat} {a : Int} (h : Play r cs i a) (m : Mem) : Play (if setE r m = 0 then setR r m else r) cs (i + 1) a := by
  by_cases e : setE r m = 0
  · rw [if_pos e]
    have h2 := h.len
    have h3 := h.cur
    exact ⟨(setR_facts h.inv e).1, h.slf, h.uniq, h.rel, by omega, by show r.cur ≤ _; omega⟩
  · rw [if_neg e]; exact h.skip
set_option maxRecDepth 100000 in
theorem Play.next {r : Ros} {cs : List (Int × Int)} {i : Nat} {a : Int} (h : Play r cs i a) (k w : Int) : Play { r with cur := r.cur + many k (allBut r.ms w).length } cs (i + 1) a := by
  have h1 := many_le k (allBut r.ms w).length
  have h2 := allBut_le r.ms w
  have h3 := h.inv.2
  have h4 := h.len
  have h5 := h.cur
  exact ⟨h.inv, h.slf, h.uniq, h.rel, by omega, by show r.cur + many k (allBut r.ms w).length ≤ _; omega⟩
end Go.Proofs.Ytjiifddmcmbbnaa
