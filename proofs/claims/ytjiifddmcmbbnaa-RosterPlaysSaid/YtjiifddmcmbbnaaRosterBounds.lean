/- Whatever ids are added: the statement that there are never more than fifteen members answers true, and its argument reads as it did. No condition. -/
import Derived.Test.YtjiifddmcmbbnaaRows
import Derived.Test.YtjiifddmcmbbnaaRG
namespace Go.Proofs.Ytjiifddmcmbbnaa
open Go.Ax

theorem ownKnobNone : ownKnob Try.prog.godebug = none := by kernel_rfl
theorem laidOut : laidOutB Try.prog = true := by kernel_rfl
theorem int_of {a : AV} (h : ShV tt 3 a) : ∃ n : Int, a = .v (.int .i64 n) ∧ -9223372036854775808 ≤ n ∧ n ≤ 9223372036854775807 := by
  obtain ⟨n, h1, h2, h3⟩ := (h.one rfl).int_inv (k := .i64) rfl
  simp only [List.cons.injEq, and_true] at h1
  exact ⟨n, h1, h2, h3⟩
theorem ints_of {a : AV} (h : ShV tt 22 a) : ∃ ps : List Int, a = .vec ps.length (intsA ps) ∧ ps.length ≤ maxLen ∧ ∀ n ∈ ps, -9223372036854775808 ≤ n ∧ n ≤ 9223372036854775807 := by
  obtain ⟨ps, h1, h2, h3⟩ := (h.one rfl).ints_inv (k := .i64) rfl rfl
  simp only [List.cons.injEq, and_true] at h1
  exact ⟨ps, h1, h2, h3⟩
theorem one {xs : List AV} (h : xs.length = 1) : ∃ a, xs = [a] := by
  match xs, h with
  | [a], _ => exact ⟨a, rfl⟩
theorem two {xs : List AV} (h : xs.length = 2) : ∃ a b, xs = [a, b] := by
  match xs, h with
  | [a, b], _ => exact ⟨a, b, rfl⟩
theorem three {xs : List AV} (h : xs.length = 3) : ∃ a b c, xs = [a, b, c] := by
  match xs, h with
  | [a, b, c], _ => exact ⟨a, b, c, rfl⟩

set_option maxRecDepth 100000 in
theorem rosterBounds_lifted (os : Os) (started : os.Started) (H : Type) (enc : TypeId × Value → H) :
    ReturnsInHanded {} Try.checked os 3 .any (Rows.rosterBoundsSpec.pre6 enc Try.prog Try.f3 Rows.rosterBoundsRow.domain false) (Rows.rosterBoundsSpec.post enc Try.prog Try.f3 false true false false) := by
  refine returnsInHanded_of_change (C := Try.checked) ownKnobNone started (by kernel_rfl) Try.func3
    (ChangeSpec.witness6 (enc := enc) (C := Try.checked) false ⟨#[], #[.slice none 0 0], []⟩ 8 (by kernel_rfl) (by kernel_rfl) (by kernel_rfl) (by kernel_rfl)) ?_
  intro W base args ds gs before hval hW _ _
  refine law_contract tok laidOut (ts := [22]) (tb := 4) 8 (by kernel_rfl) (by kernel_rfl) (by kernel_rfl) (by kernel_rfl) rfl ?_ ?_ hval hW
  · intro ds hd
    match ds, hd with
    | [d1], _ => exact ⟨rfl, rfl, rfl⟩
  · intro xs hl ha
    obtain ⟨a0, rfl⟩ := one hl
    obtain ⟨ps, rfl, _⟩ := ints_of (ha 0 22 a0 rfl rfl)
    exact bounds_law ps

theorem rosterBounds_holds : Rows.RosterBoundsSaid :=
  OpenClaim.holds_of_wide 3 Try.f3 rfl rfl rfl rfl rfl rfl rfl ⟨rfl, rfl, rfl, rfl, rfl⟩ rfl rfl rfl rfl rfl (by kernel_rfl) Try.func3 (by kernel_rfl)
    (of_decide_eq_true (by kernel_rfl)) (by unfold Func.isWrapper; first | (rw [if_pos (by decide +kernel)]; kernel_rfl) | (rw [if_neg (by decide +kernel)]; exact ⟨rfl, rfl⟩))
    (fun os started H enc _ => rosterBounds_lifted os started H enc)
end Go.Proofs.Ytjiifddmcmbbnaa
