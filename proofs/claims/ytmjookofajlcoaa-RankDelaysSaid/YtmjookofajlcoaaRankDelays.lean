/- Whatever ranks and draws: the statement that a rank's delay is the document's, and grows with the rank, answers true, and its arguments read as they did. No condition. -/
import Derived.Test.YtmjookofajlcoaaBase
import Derived.Test.YtmjookofajlcoaaI
namespace Go.Proofs.Ytmjookofajlcoaa
open Go.Ax
open Cel (c)

set_option maxRecDepth 100000 in
theorem rankDelays_lifted (os : Os) (started : os.Started) (H : Type) (enc : TypeId × Value → H) :
    ReturnsInHanded {} Try.checked os 4 .any (Rows.rankDelaysSpec.pre6 enc Try.prog Try.f4 Rows.rankDelaysRow.domain false) (Rows.rankDelaysSpec.post enc Try.prog Try.f4 false true false false) := by
  refine returnsInHanded_of_change (C := Try.checked) ownKnobNone started (by kernel_rfl) Try.func4
    (ChangeSpec.witness6 (enc := enc) (C := Try.checked) false ⟨#[], #[.int .i64 0, .int .i64 0, .int .i64 0, .int .i64 0], []⟩ 8 (by kernel_rfl) (by kernel_rfl) (by kernel_rfl) (by kernel_rfl)) ?_
  intro W base args ds gs before hval hW _ _
  refine law_contract tok laidOut (ts := [3, 3, 3, 3]) (tb := 4) 8 (by kernel_rfl) (by kernel_rfl) (by kernel_rfl) (by kernel_rfl) rfl ?_ ?_ hval hW
  · intro ds hd
    match ds, hd with
    | [d1, d2, d3, d4], _ => exact ⟨rfl, rfl, rfl⟩
  · intro xs hl ha
    obtain ⟨a0, a1, a2, a3, rfl⟩ := four hl
    obtain ⟨x0, rfl, b0⟩ := int_of (ha 0 3 a0 rfl rfl)
    obtain ⟨x1, rfl, b1⟩ := int_of (ha 1 3 a1 rfl rfl)
    obtain ⟨x2, rfl, b2⟩ := int_of (ha 2 3 a2 rfl rfl)
    obtain ⟨x3, rfl, b3⟩ := int_of (ha 3 3 a3 rfl rfl)
    exact delays_law x0 x1 x2 x3

theorem rankDelays_holds : Rows.RankDelaysSaid :=
  OpenClaim.holds_of_wide 4 Try.f4 rfl rfl rfl rfl rfl rfl rfl ⟨rfl, rfl, rfl, rfl, rfl⟩ rfl rfl rfl rfl rfl (by kernel_rfl) Try.func4 (by kernel_rfl)
    (of_decide_eq_true (by kernel_rfl)) (by unfold Func.isWrapper; first | (rw [if_pos (by decide +kernel)]; kernel_rfl) | (rw [if_neg (by decide +kernel)]; exact ⟨rfl, rfl⟩))
    (fun os started H enc _ => rankDelays_lifted os started H enc)
end Go.Proofs.Ytmjookofajlcoaa
