/- A stretch of slots has the text of its ends; two stretches with a gap between have both texts, the lower one first; without a gap they are one. No condition. The card leans on what the row lists: the library's variables as the program's text lays them. -/
import Derived.Test.YtopbofalkcblgaaDoorCBase
set_option linter.unusedSimpArgs false
set_option linter.unusedVariables false
namespace Go.Proofs.YtopbofalkcblgaaDoor
open Go.Ax
open Cel (c)
open Go

set_option maxRecDepth 100000 in
theorem slotsStretches_lifted (os : Os) (started : os.Started) (H : Type) (enc : TypeId × Value → H) :
    ReturnsInHanded {} Tryd.checked os 5 .any (fun w args => (Rows.slotsStretchesSpec.pre enc Tryd.prog Tryd.f5 Rows.slotsStretchesRow.domain false w args ∧ laidMetH Tryd.prog laidL w) ∧ sizedMet enc Tryd.prog Tryd.f5 (OpenSpec.ofChange Rows.slotsStretchesSpec) false w args)
      (Rows.slotsStretchesSpec.post enc Tryd.prog Tryd.f5 false true false false) := by
  refine returnsInHanded_of_change_and (C := Tryd.checked) (X := fun w _ => laidMetH Tryd.prog laidL w) (fun _ _ _ hh h => h.of_heap hh) ownNone started (by kernel_rfl) Tryd.func5
    (ChangeSpec.witness_shaped (enc := enc) (C := Tryd.checked) (os := os) (X := fun w _ => laidMetH Tryd.prog laidL w) false (World.laidAll Tryd.prog os laidL) #[.int .i64 0, .int .i64 0, .int .i64 0, .int .i64 0] 8 (World.laidAll_os _ _ _)
      (world_shaped os _) (by kernel_rfl) (by kernel_rfl) (by kernel_rfl) (world_met os _)) ?_
  intro W base args ds gs before hval hW _ _ hL _
  refine law_contract tok laidOut (ts := [3, 3, 3, 3]) (tb := 4) 8 (by kernel_rfl) (by kernel_rfl) (by kernel_rfl) (by kernel_rfl) rfl ?_ ?_ hval hW (glob_ok hL)
  · intro ds hd
    match ds, hd with
    | [d1, d2, d3, d4], _ => exact ⟨rfl, rfl, rfl⟩
  · intro xs hl ha
    obtain ⟨a0, a1, a2, a3, rfl⟩ := four hl
    obtain ⟨x0, rfl⟩ := int_of (ha 0 3 a0 rfl rfl)
    obtain ⟨x1, rfl⟩ := int_of (ha 1 3 a1 rfl rfl)
    obtain ⟨x2, rfl⟩ := int_of (ha 2 3 a2 rfl rfl)
    obtain ⟨x3, rfl⟩ := int_of (ha 3 3 a3 rfl rfl)
    exact stretches_law AHeap.empty x0 x1 x2 x3

theorem slotsStretches_holds : Rows.SlotsStretchesSaid :=
  OpenClaim.holds_of_wide 5 Tryd.f5 rfl rfl rfl rfl rfl rfl rfl ⟨rfl, rfl, rfl, rfl, rfl⟩ rfl rfl rfl rfl rfl (by kernel_rfl) Tryd.func5 (by kernel_rfl)
    (of_decide_eq_true (by kernel_rfl)) (by unfold Func.isWrapper; first | (rw [if_pos (by decide +kernel)]; kernel_rfl) | (rw [if_neg (by decide +kernel)]; exact ⟨rfl, rfl⟩))
    (fun os started H enc _ => slotsStretches_lifted os started H enc)
theorem slotsStretchesCard_holds : Rows.SlotsStretchesCardSaid :=
  Claim7.holds_tied_plain_at .later [] [.data, .data, .data, .data, .sentinel, .sentinel, .pinned] true (true, "fd01b54efc0af86c851f4b04d72462a61a190ba1cce470d2576248ab98b19b54") true slotsStretches_holds (fun _ h => by cases h) (by kernel_rfl) (fun _ h => by cases h) slotsStretches_row_tie rfl ⟨rfl, rfl⟩ (by kernel_rfl) rfl
    (fun f fn hf hfn => by
      obtain rfl : f = 5 := Option.some.inj ((show Tryd.prog.funcNamed "grapevine/grapevinelaw02.SlotsStretches" = some 5 by kernel_rfl).symm.trans hf) |>.symm
      obtain rfl : fn = Tryd.f5 := (Option.some.inj (Tryd.func5.symm.trans hfn)).symm
      exact ⟨by kernel_rfl, fun j t ht => by
        have hp : Tryd.f5.params = #[3, 3, 3, 3] := by kernel_rfl
        rw [hp] at ht
        have hm : t ∈ [3, 3, 3, 3] := by simpa using Array.mem_of_getElem? ht
        have hall : ([3, 3, 3, 3].all fun u => !Tryd.prog.wantsStandIn u) = true := by kernel_rfl
        exact (show Tryd.prog.wantsStandIn t = false by simpa using List.all_eq_true.1 hall t hm)⟩)
    (by kernel_rfl)
end Go.Proofs.YtopbofalkcblgaaDoor
