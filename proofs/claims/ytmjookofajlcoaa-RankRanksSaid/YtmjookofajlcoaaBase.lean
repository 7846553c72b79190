/- What the rows of this layer share: how arguments read. -/
import Derived.Test.YtmjookofajlcoaaRows
import Derived.Test.YtmjookofajlcoaaH
namespace Go.Proofs.Ytmjookofajlcoaa
open Go.Ax
open Cel (c)

theorem ownKnobNone : ownKnob Try.prog.godebug = none := by kernel_rfl
theorem laidOut : laidOutB Try.prog = true := by kernel_rfl
theorem int_of {a : AV} (h : ShV tt 3 a) : ∃ n : Int, a = .v (.int .i64 n) ∧ -9223372036854775808 ≤ n ∧ n ≤ 9223372036854775807 := by
  obtain ⟨n, h1, h2, h3⟩ := (h.one rfl).int_inv (k := .i64) rfl
  simp only [List.cons.injEq, and_true] at h1
  exact ⟨n, h1, h2, h3⟩
def I64 (n : Int) : Prop := -9223372036854775808 ≤ n ∧ n ≤ 9223372036854775807
theorem rep_cells {cs : List AV} (h : Sh tt 29 cs) : ∃ r : Rep, cs = c r ∧ I64 r.id ∧ I64 r.off := by
  obtain ⟨rows, rfl, hl, hr, _⟩ := h.struct_inv (fs := _) rfl
  obtain ⟨r0, r1, rfl⟩ : ∃ a b, rows = [a, b] := by
    match rows, hl with
    | [a, b], _ => exact ⟨a, b, rfl⟩
  obtain ⟨a, rfl, ha, ha'⟩ := (hr 0 _ r0 rfl rfl).int_inv (k := .i64) rfl
  obtain ⟨b, rfl, hb, hb'⟩ := (hr 1 _ r1 rfl rfl).int_inv (k := .i64) rfl
  exact ⟨⟨a, b⟩, rfl, ⟨ha, ha'⟩, hb, hb'⟩
theorem rep_of {a : AV} (h : ShV tt 29 a) : ∃ r : Rep, a = .agg (c r) ∧ I64 r.id ∧ I64 r.off := by
  obtain ⟨cs, rfl, hs⟩ := h.cells rfl
  obtain ⟨m, rfl, hb⟩ := rep_cells hs
  exact ⟨m, rfl, hb⟩
/-- Rows, each of a value of which p holds. -/
theorem rows_ofP {α : Type} {p : List AV → Prop} {q : α → Prop} {g : α → List AV} (hg : ∀ r, p r → ∃ x, r = g x ∧ q x) : ∀ rows : List (List AV), (∀ r ∈ rows, p r) → ∃ xs : List α, xs.length = rows.length ∧ rows = xs.map g ∧ ∀ x ∈ xs, q x
  | [], _ => ⟨[], rfl, rfl, by simp⟩
  | r :: rs, h => by
    obtain ⟨x, rfl, hq⟩ := hg r (h r (by simp))
    obtain ⟨xs, h1, h2, h3⟩ := rows_ofP hg rs (fun q hq => h q (by simp [hq]))
    exact ⟨x :: xs, by simp [h1], by rw [h2]; rfl, by simpa using ⟨hq, h3⟩⟩
theorem reps_of {a : AV} (h : ShV tt 22 a) : ∃ l : List Rep, a = vecA l ∧ l.length ≤ maxLen ∧ ∀ r ∈ l, I64 r.id ∧ I64 r.off := by
  obtain ⟨rows, h1, hm, hr⟩ := (h.one rfl).slice_inv (e := 29) rfl
  obtain ⟨l, h2, rfl, h3⟩ := rows_ofP (g := Cel.c) (fun r hr => rep_cells hr) rows hr.1
  simp only [List.cons.injEq, and_true] at h1
  refine ⟨l, ?_, by simpa using hm, h3⟩
  rw [h1]
  simp [vecA, flat, List.flatMap_def]
theorem one {xs : List AV} (h : xs.length = 1) : ∃ a, xs = [a] := by
  match xs, h with
  | [a], _ => exact ⟨a, rfl⟩
theorem two {xs : List AV} (h : xs.length = 2) : ∃ a b, xs = [a, b] := by
  match xs, h with
  | [a, b], _ => exact ⟨a, b, rfl⟩
theorem three {xs : List AV} (h : xs.length = 3) : ∃ a b c, xs = [a, b, c] := by
  match xs, h with
  | [a, b, c], _ => exact ⟨a, b, c, rfl⟩
theorem four {xs : List AV} (h : xs.length = 4) : ∃ a b c d, xs = [a, b, c, d] := by
  match xs, h with
  | [a, b, c, d], _ => exact ⟨a, b, c, d, rfl⟩
end Go.Proofs.Ytmjookofajlcoaa
