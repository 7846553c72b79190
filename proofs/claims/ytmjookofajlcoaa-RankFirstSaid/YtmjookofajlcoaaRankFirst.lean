/- Whatever replicas and one more: the statement that one more moves no rank by more than one, and the best stands first, answers true, and they read as they did. No condition. -/
import Derived.Test.YtmjookofajlcoaaBase
import Derived.Test.YtmjookofajlcoaaO
namespace Go.Proofs.Ytmjookofajlcoaa
open Go.Ax
open Cel (c)

set_option maxRecDepth 100000 in
theorem rankFirst_lifted (os : Os) (started : os.Started) (H : Type) (enc : TypeId × Value → H) :
    ReturnsInHanded {} Try.checked os 8 .any (Rows.rankFirstSpec.pre6 enc Try.prog Try.f8 Rows.rankFirstRow.domain false) (Rows.rankFirstSpec.post enc Try.prog Try.f8 false true false false) := by
  refine returnsInHanded_of_change (C := Try.checked) ownKnobNone started (by kernel_rfl) Try.func8
    (ChangeSpec.witness6 (enc := enc) (C := Try.checked) false ⟨#[], #[.slice none 0 0, .agg #[.int .i64 0, .int .i64 0]], []⟩ 8 (by kernel_rfl) (by kernel_rfl) (by kernel_rfl) (by kernel_rfl)) ?_
  intro W base args ds gs before hval hW _ _
  refine law_contract tok laidOut (ts := [22, 29]) (tb := 4) 8 (by kernel_rfl) (by kernel_rfl) (by kernel_rfl) (by kernel_rfl) rfl ?_ ?_ hval hW
  · intro ds hd
    match ds, hd with
    | [d1, d2], _ => exact ⟨rfl, rfl, rfl⟩
  · intro xs hl ha
    obtain ⟨a0, a1, rfl⟩ := two hl
    obtain ⟨x0, rfl, b0⟩ := reps_of (ha 0 22 a0 rfl rfl)
    obtain ⟨x1, rfl, b1⟩ := rep_of (ha 1 29 a1 rfl rfl)
    exact first_law x0 x1

theorem rankFirst_holds : Rows.RankFirstSaid :=
  OpenClaim.holds_of_wide 8 Try.f8 rfl rfl rfl rfl rfl rfl rfl ⟨rfl, rfl, rfl, rfl, rfl⟩ rfl rfl rfl rfl rfl (by kernel_rfl) Try.func8 (by kernel_rfl)
    (of_decide_eq_true (by kernel_rfl)) (by unfold Func.isWrapper; first | (rw [if_pos (by decide +kernel)]; kernel_rfl) | (rw [if_neg (by decide +kernel)]; exact ⟨rfl, rfl⟩))
    (fun os started H enc _ => rankFirst_lifted os started H enc)
end Go.Proofs.Ytmjookofajlcoaa
