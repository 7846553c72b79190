/- Whoever is added and forgotten, however many are spoken of: the statement on forgetting answers true, and its arguments read as they did. No condition. -/
import Derived.Test.YtjiifddmcmbbnaaRosterBounds
import Derived.Test.YtjiifddmcmbbnaaRJ
namespace Go.Proofs.Ytjiifddmcmbbnaa
open Go.Ax

set_option maxRecDepth 100000 in
theorem rosterForgets_lifted (os : Os) (started : os.Started) (H : Type) (enc : TypeId × Value → H) :
    ReturnsInHanded {} Try.checked os 8 .any (Rows.rosterForgetsSpec.pre6 enc Try.prog Try.f8 Rows.rosterForgetsRow.domain false) (Rows.rosterForgetsSpec.post enc Try.prog Try.f8 false true false false) := by
  refine returnsInHanded_of_change (C := Try.checked) ownKnobNone started (by kernel_rfl) Try.func8
    (ChangeSpec.witness6 (enc := enc) (C := Try.checked) false ⟨#[], #[.slice none 0 0, .int .i64 0, .int .i64 0], []⟩ 8 (by kernel_rfl) (by kernel_rfl) (by kernel_rfl) (by kernel_rfl)) ?_
  intro W base args ds gs before hval hW _ _
  refine law_contract tok laidOut (ts := [22, 3, 3]) (tb := 4) 8 (by kernel_rfl) (by kernel_rfl) (by kernel_rfl) (by kernel_rfl) rfl ?_ ?_ hval hW
  · intro ds hd
    match ds, hd with
    | [d1, d2, d3], _ => exact ⟨rfl, rfl, rfl⟩
  · intro xs hl ha
    obtain ⟨a0, a1, a2, rfl⟩ := three hl
    obtain ⟨x0, rfl, _, b0⟩ := ints_of (ha 0 22 a0 rfl rfl)
    obtain ⟨x1, rfl, b1⟩ := int_of (ha 1 3 a1 rfl rfl)
    obtain ⟨x2, rfl, b2⟩ := int_of (ha 2 3 a2 rfl rfl)
    exact forgets_law x0 x1 x2

theorem rosterForgets_holds : Rows.RosterForgetsSaid :=
  OpenClaim.holds_of_wide 8 Try.f8 rfl rfl rfl rfl rfl rfl rfl ⟨rfl, rfl, rfl, rfl, rfl⟩ rfl rfl rfl rfl rfl (by kernel_rfl) Try.func8 (by kernel_rfl)
    (of_decide_eq_true (by kernel_rfl)) (by unfold Func.isWrapper; first | (rw [if_pos (by decide +kernel)]; kernel_rfl) | (rw [if_neg (by decide +kernel)]; exact ⟨rfl, rfl⟩))
    (fun os started H enc _ => rosterForgets_lifted os started H enc)
end Go.Proofs.Ytjiifddmcmbbnaa
