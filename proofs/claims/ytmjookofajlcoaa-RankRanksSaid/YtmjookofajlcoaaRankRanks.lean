/- Whatever replicas and id: the statement that a rank is how many stand ahead answers true, and they read as they did. No condition. -/
import Derived.Test.YtmjookofajlcoaaBase
import Derived.Test.YtmjookofajlcoaaM
namespace Go.Proofs.Ytmjookofajlcoaa
open Go.Ax
open Cel (c)

set_option maxRecDepth 100000 in
theorem rankRanks_lifted (os : Os) (started : os.Started) (H : Type) (enc : TypeId × Value → H) :
    ReturnsInHanded {} Try.checked os 7 .any (Rows.rankRanksSpec.pre6 enc Try.prog Try.f7 Rows.rankRanksRow.domain false) (Rows.rankRanksSpec.post enc Try.prog Try.f7 false true false false) := by
  refine returnsInHanded_of_change (C := Try.checked) ownKnobNone started (by kernel_rfl) Try.func7
    (ChangeSpec.witness6 (enc := enc) (C := Try.checked) false ⟨#[], #[.slice none 0 0, .int .i64 0], []⟩ 8 (by kernel_rfl) (by kernel_rfl) (by kernel_rfl) (by kernel_rfl)) ?_
  intro W base args ds gs before hval hW _ _
  refine law_contract tok laidOut (ts := [22, 3]) (tb := 4) 8 (by kernel_rfl) (by kernel_rfl) (by kernel_rfl) (by kernel_rfl) rfl ?_ ?_ hval hW
  · intro ds hd
    match ds, hd with
    | [d1, d2], _ => exact ⟨rfl, rfl, rfl⟩
  · intro xs hl ha
    obtain ⟨a0, a1, rfl⟩ := two hl
    obtain ⟨x0, rfl, b0⟩ := reps_of (ha 0 22 a0 rfl rfl)
    obtain ⟨x1, rfl, b1⟩ := int_of (ha 1 3 a1 rfl rfl)
    exact ranks_law x0 x1

theorem rankRanks_holds : Rows.RankRanksSaid :=
  OpenClaim.holds_of_wide 7 Try.f7 rfl rfl rfl rfl rfl rfl rfl ⟨rfl, rfl, rfl, rfl, rfl⟩ rfl rfl rfl rfl rfl (by kernel_rfl) Try.func7 (by kernel_rfl)
    (of_decide_eq_true (by kernel_rfl)) (by unfold Func.isWrapper; first | (rw [if_pos (by decide +kernel)]; kernel_rfl) | (rw [if_neg (by decide +kernel)]; exact ⟨rfl, rfl⟩))
    (fun os started H enc _ => rankRanks_lifted os started H enc)
end Go.Proofs.Ytmjookofajlcoaa
