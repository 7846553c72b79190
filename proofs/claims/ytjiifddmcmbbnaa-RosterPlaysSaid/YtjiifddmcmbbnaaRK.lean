/- The walk of the statement on the members' order. -/
import Derived.Test.YtjiifddmcmbbnaaRJ
namespace Go.Proofs.Ytjiifddmcmbbnaa
open Go.Ax
set_option linter.unusedSimpArgs false
set_option linter.unusedVariables false

theorem sorted_ints_ext : ∀ (a b : List Int), a.Pairwise (· < ·) → b.Pairwise (· < ·) → (∀ w, w ∈ a ↔ w ∈ b) → a = b
  | [], [], _, _, _ => rfl
  | [], y :: b, _, _, h => by simpa using (h y).2 (by simp)
  | x :: a, [], _, _, h => by simpa using (h x).1 (by simp)
  | x :: a, y :: b, ha, hb, h => by
    have ha1 := List.pairwise_cons.1 ha
    have hb1 := List.pairwise_cons.1 hb
    have e : x = y := by
      rcases List.mem_cons.1 ((h x).1 (by simp)) with e | hx
      · exact e
      · rcases List.mem_cons.1 ((h y).2 (by simp)) with e | hy
        · exact e.symm
        · have h1 := hb1.1 x hx
          have h2 := ha1.1 y hy
          omega
    subst e
    rw [sorted_ints_ext a b ha1.2 hb1.2 fun w => ⟨fun hw => ?_, fun hw => ?_⟩]
    · rcases List.mem_cons.1 ((h w).1 (by simp [hw])) with e | hw'
      · have := ha1.1 w hw; omega
      · exact hw'
    · rcases List.mem_cons.1 ((h w).2 (by simp [hw])) with e | hw'
      · have := hb1.1 w hw; omega
      · exact hw'
/-- All as they came. -/
def AllFresh (ms : List Mem) : Prop := ∀ m ∈ ms, m = fresh m.i
theorem fresh_ext {a b : List Mem} (ha : Sorted a) (hb : Sorted b) (fa : AllFresh a) (fb : AllFresh b) (h : ∀ w, has a w = true ↔ has b w = true) : a = b := by
  have e : a.map (·.i) = b.map (·.i) := by
    refine sorted_ints_ext _ _ (List.pairwise_map.2 ha) (List.pairwise_map.2 hb) fun w => ?_
    have := h w
    rw [has_mem, has_mem] at this
    simpa using this
  have re : ∀ l : List Mem, AllFresh l → l = (l.map (·.i)).map fresh := by
    intro l hl
    rw [List.map_map]
    exact (List.map_id l).symm.trans (List.map_congr_left fun m hm => hl m hm)
  rw [re a fa, re b fb, e]
/-- A roster to which members were added alone. -/
structure Added (r : Ros) (l : List Int) : Prop where
  inv : Inv r
  self : r.self = 1
  bs : r.bs = []
  fr : AllFresh r.ms
  len : r.ms.length ≤ l.length
  mem : ∀ w, has r.ms w = true ↔ (idB w = true ∧ w ≠ 1 ∧ w ∈ l)
theorem Added.new : Added ⟨1, [], [], 0⟩ [] := ⟨Inv.new 1, rfl, rfl, fun _ h => absurd h List.not_mem_nil, Nat.le_refl _, fun w => by simp [has]⟩
theorem Added.add {r : Ros} {l : List Int} (h : Added r l) (w : Int) (hl : l.length < 15) : Added (if addE r w 0 = 0 then addR r w else r) (l ++ [w]) := by
  have hb : banned r.bs w 0 = false := by rw [h.bs]; rfl
  have hlen := h.len
  by_cases ha : asked r.self w 0 = 0
  · obtain ⟨h1, _, h3⟩ := asked_time ha
    rw [h.self] at h3
    by_cases hh : has r.ms w = true
    · have he : addE r w 0 = 32 := by rw [addE, if_neg (by omega), if_pos hh]
      rw [if_neg (by omega)]
      refine ⟨h.inv, h.self, h.bs, h.fr, by simp; omega, fun v => ?_⟩
      rw [h.mem v]
      have := (h.mem w).1 hh
      constructor
      · rintro ⟨a, b, c⟩; exact ⟨a, b, by simp [c]⟩
      · rintro ⟨a, b, c⟩
        rcases List.mem_append.1 c with c | c
        · exact ⟨a, b, c⟩
        · rw [List.mem_singleton.1 c]; exact this
    · have he : addE r w 0 = 0 := by rw [addE, if_neg (by omega), if_neg hh, if_neg (by rw [hb]; decide), if_neg (by omega)]
      rw [if_pos he]
      refine ⟨h.inv.add he, h.self, ?_, ?_, ?_, fun v => ?_⟩
      · show delB r.bs w = []
        rw [h.bs]; rfl
      · intro m hm
        rcases List.mem_append.1 hm with hm | hm
        · exact h.fr m (List.mem_of_mem_take hm)
        · rcases List.mem_cons.1 hm with rfl | hm
          · rfl
          · exact h.fr m (List.mem_of_mem_drop hm)
      · rw [addR_length]; simp; omega
      · have hv : has (addR r w).ms v = true ↔ (has r.ms v = true ∨ v = w) := by
          rw [has_mem, has_mem]
          constructor
          · rintro ⟨m, hm, rfl⟩
            rcases List.mem_append.1 hm with hm | hm
            · exact .inl ⟨m, List.mem_of_mem_take hm, rfl⟩
            · rcases List.mem_cons.1 hm with rfl | hm
              · exact .inr rfl
              · exact .inl ⟨m, List.mem_of_mem_drop hm, rfl⟩
          · rintro (⟨m, hm, rfl⟩ | rfl)
            · rw [← List.take_append_drop (pos r.ms w) r.ms] at hm
              rcases List.mem_append.1 hm with hm | hm
              · exact ⟨m, List.mem_append.2 (.inl hm), rfl⟩
              · exact ⟨m, List.mem_append.2 (.inr (List.mem_cons.2 (.inr hm))), rfl⟩
            · exact ⟨fresh v, List.mem_append.2 (.inr (List.mem_cons.2 (.inl rfl))), rfl⟩
        rw [hv, h.mem v]
        constructor
        · rintro (⟨a, b, c⟩ | rfl)
          · exact ⟨a, b, by simp [c]⟩
          · exact ⟨h1, h3, by simp⟩
        · rintro ⟨a, b, c⟩
          rcases List.mem_append.1 c with c | c
          · exact .inl ⟨a, b, c⟩
          · exact .inr (List.mem_singleton.1 c)
  · have he : addE r w 0 ≠ 0 := by rw [addE, if_pos ha]; exact ha
    rw [if_neg he]
    refine ⟨h.inv, h.self, h.bs, h.fr, by simp; omega, fun v => ?_⟩
    rw [h.mem v]
    constructor
    · rintro ⟨a, b, c⟩; exact ⟨a, b, by simp [c]⟩
    · rintro ⟨a, b, c⟩
      rcases List.mem_append.1 c with c | c
      · exact ⟨a, b, c⟩
      · refine (ha ?_).elim
        rw [List.mem_singleton.1 c] at a b
        rw [asked, h.self, a, show timeB 0 = true by decide, if_neg (by decide), if_neg b]
def Mem.zs (m : Mem) : List Int := [m.i, m.ma, m.co, m.op, m.fa]
theorem st34 : Try.prog.stoodInHeld 34 = false := by kernel_rfl
theorem eg34 : Try.prog.eqGuardType Try.prog.depth 34 = false := by kernel_rfl
theorem fi34 : ∀ fs, (tt 34).und = .struct fs → flatInts tt 0 fs.toList = true := by
  intro fs h
  cases h
  rfl
end Go.Proofs.Ytjiifddmcmbbnaa
