/- Whatever age and timeout: the statement that data are young enough just up to ten times the timeout answers true, and its arguments read as they did. No condition. -/
import Derived.Test.YtmjookofajlcoaaBase
import Derived.Test.YtmjookofajlcoaaI
namespace Go.Proofs.Ytmjookofajlcoaa
open Go.Ax
open Cel (c)

set_option maxRecDepth 100000 in
theorem rankFresh_lifted (os : Os) (started : os.Started) (H : Type) (enc : TypeId × Value → H) :
    ReturnsInHanded {} Try.checked os 6 .any (Rows.rankFreshSpec.pre6 enc Try.prog Try.f6 Rows.rankFreshRow.domain false) (Rows.rankFreshSpec.post enc Try.prog Try.f6 false true false false) := by
  refine returnsInHanded_of_change (C := Try.checked) ownKnobNone started (by kernel_rfl) Try.func6
    (ChangeSpec.witness6 (enc := enc) (C := Try.checked) false ⟨#[], #[.int .i64 0, .int .i64 0], []⟩ 8 (by kernel_rfl) (by kernel_rfl) (by kernel_rfl) (by kernel_rfl)) ?_
  intro W base args ds gs before hval hW _ _
  refine law_contract tok laidOut (ts := [3, 3]) (tb := 4) 8 (by kernel_rfl) (by kernel_rfl) (by kernel_rfl) (by kernel_rfl) rfl ?_ ?_ hval hW
  · intro ds hd
    match ds, hd with
    | [d1, d2], _ => exact ⟨rfl, rfl, rfl⟩
  · intro xs hl ha
    obtain ⟨a0, a1, rfl⟩ := two hl
    obtain ⟨x0, rfl, b0⟩ := int_of (ha 0 3 a0 rfl rfl)
    obtain ⟨x1, rfl, b1⟩ := int_of (ha 1 3 a1 rfl rfl)
    exact fresh_law x0 x1

theorem rankFresh_holds : Rows.RankFreshSaid :=
  OpenClaim.holds_of_wide 6 Try.f6 rfl rfl rfl rfl rfl rfl rfl ⟨rfl, rfl, rfl, rfl, rfl⟩ rfl rfl rfl rfl rfl (by kernel_rfl) Try.func6 (by kernel_rfl)
    (of_decide_eq_true (by kernel_rfl)) (by unfold Func.isWrapper; first | (rw [if_pos (by decide +kernel)]; kernel_rfl) | (rw [if_neg (by decide +kernel)]; exact ⟨rfl, rfl⟩))
    (fun os started H enc _ => rankFresh_lifted os started H enc)
end Go.Proofs.Ytmjookofajlcoaa
