/- Whatever members are added in whatever order: the statement on their order answers true, and its argument reads as it did. No condition. -/
import Derived.Test.YtjiifddmcmbbnaaRosterBounds
import Derived.Test.YtjiifddmcmbbnaaRL
namespace Go.Proofs.Ytjiifddmcmbbnaa
open Go.Ax

set_option maxRecDepth 100000 in
theorem rosterOrder_lifted (os : Os) (started : os.Started) (H : Type) (enc : TypeId × Value → H) :
    ReturnsInHanded {} Try.checked os 5 .any (Rows.rosterOrderSpec.pre6 enc Try.prog Try.f5 Rows.rosterOrderRow.domain false) (Rows.rosterOrderSpec.post enc Try.prog Try.f5 false true false false) := by
  refine returnsInHanded_of_change (C := Try.checked) ownKnobNone started (by kernel_rfl) Try.func5
    (ChangeSpec.witness6 (enc := enc) (C := Try.checked) false ⟨#[], #[.slice none 0 0], []⟩ 8 (by kernel_rfl) (by kernel_rfl) (by kernel_rfl) (by kernel_rfl)) ?_
  intro W base args ds gs before hval hW _ _
  refine law_contract tok laidOut (ts := [22]) (tb := 4) 8 (by kernel_rfl) (by kernel_rfl) (by kernel_rfl) (by kernel_rfl) rfl ?_ ?_ hval hW
  · intro ds hd
    match ds, hd with
    | [d1], _ => exact ⟨rfl, rfl, rfl⟩
  · intro xs hl ha
    obtain ⟨a0, rfl⟩ := one hl
    obtain ⟨x0, rfl, _, b0⟩ := ints_of (ha 0 22 a0 rfl rfl)
    exact order_law x0

theorem rosterOrder_holds : Rows.RosterOrderSaid :=
  OpenClaim.holds_of_wide 5 Try.f5 rfl rfl rfl rfl rfl rfl rfl ⟨rfl, rfl, rfl, rfl, rfl⟩ rfl rfl rfl rfl rfl (by kernel_rfl) Try.func5 (by kernel_rfl)
    (of_decide_eq_true (by kernel_rfl)) (by unfold Func.isWrapper; first | (rw [if_pos (by decide +kernel)]; kernel_rfl) | (rw [if_neg (by decide +kernel)]; exact ⟨rfl, rfl⟩))
    (fun os started H enc _ => rosterOrder_lifted os started H enc)
end Go.Proofs.Ytjiifddmcmbbnaa
