/- Where each state that is saved carries the one ahead of it, what is loaded behind any crash carries what was loaded ahead of it. No condition. The card leans on what the row lists: the library's variables as the program's text lays them. -/
import Derived.Test.YtcomjodfkcnjhaaGreatDoorCBase
import Derived.Test.YtcomjodfkcnjhaaGreatDoorCK3
set_option linter.unusedSimpArgs false
set_option linter.unusedVariables false
namespace Go.Proofs.YtcomjodfkcnjhaaGreatDoor
open Go.Ax
open Cel (c)
open Go

set_option maxRecDepth 100000 in
theorem keepRises_lifted (os : Os) (started : os.Started) (H : Type) (enc : TypeId × Value → H) :
    ReturnsInHanded {} Tryz.checked os 7 .any (fun w args => (Rows.keepRisesSpec.pre enc Tryz.prog Tryz.f7 Rows.keepRisesRow.domain false w args ∧ laidMetH Tryz.prog laidL w) ∧ sizedMet enc Tryz.prog Tryz.f7 (OpenSpec.ofChange Rows.keepRisesSpec) false w args)
      (Rows.keepRisesSpec.post enc Tryz.prog Tryz.f7 false true false false) := by
  refine returns_shaped (C := Tryz.checked) (X := fun w _ => laidMetH Tryz.prog laidL w) (fun _ _ _ hh h => h.of_heap hh) ownNone started (by kernel_rfl) Tryz.func7
    (ChangeSpec.witness_shaped (enc := enc) (C := Tryz.checked) (os := os) (X := fun w _ => laidMetH Tryz.prog laidL w) false (World.laidAll Tryz.prog os laidL) #[.slice none 0 0, .slice none 0 0, .slice none 0 0] 8 (World.laidAll_os _ _ _)
      (world_shaped os _) (by kernel_rfl) (by kernel_rfl) (by kernel_rfl) (world_met os _)) ?_
  intro W base args ds gs before hS hval hW _ _ hL _
  refine law_contract tok laidOut (ts := [22, 51, 51]) (tb := 4) 8 (by kernel_rfl) (by kernel_rfl) (by kernel_rfl) (by kernel_rfl) rfl ?_ ?_ hval hW (glob_ok hL hS)
  · intro ds hd
    match ds, hd with
    | [d1, d2, d3], _ => exact ⟨rfl, rfl, rfl⟩
  · intro xs hl ha
    obtain ⟨a0, a1, a2, rfl⟩ := three3 hl
    obtain ⟨x0, rfl⟩ := sts_of (ha 0 22 a0 rfl rfl)
    obtain ⟨x1, rfl, b1⟩ := ints_of (ha 1 51 a1 rfl rfl)
    obtain ⟨x2, rfl, b2⟩ := ints_of (ha 2 51 a2 rfl rfl)
    exact rises_law AHeap.empty x0 x1 x2 b1

theorem keepRises_holds : Rows.KeepRisesSaid :=
  OpenClaim.holds_of_wide 7 Tryz.f7 rfl rfl rfl rfl rfl rfl rfl ⟨rfl, rfl, rfl, rfl, rfl⟩ rfl rfl rfl rfl rfl (by kernel_rfl) Tryz.func7 (by kernel_rfl)
    (of_decide_eq_true (by kernel_rfl)) (by unfold Func.isWrapper; first | (rw [if_pos (by decide +kernel)]; kernel_rfl) | (rw [if_neg (by decide +kernel)]; exact ⟨rfl, rfl⟩))
    (fun os started H enc _ => keepRises_lifted os started H enc)
theorem keepRisesCard_holds : Rows.KeepRisesCardSaid :=
  Claim7.holds_tied_plain_at .later [] [.data, .data, .data, .data, .sentinel, .sentinel, .pinned] true (true, "162b1f85e290da7e4e6030a12cc2c0afff596fcd1c2d071b23ae05271d400c8c") true keepRises_holds (fun _ h => by cases h) (by kernel_rfl) (fun _ h => by cases h) keepRises_row_tie rfl ⟨rfl, rfl⟩ (by kernel_rfl) rfl
    (fun f fn hf hfn => by
      obtain rfl : f = 7 := Option.some.inj ((show Tryz.prog.funcNamed "grapevine/grapevinelaw14.KeepRises" = some 7 by kernel_rfl).symm.trans hf) |>.symm
      obtain rfl : fn = Tryz.f7 := (Option.some.inj (Tryz.func7.symm.trans hfn)).symm
      exact ⟨by kernel_rfl, fun j t ht => by
        have hp : Tryz.f7.params = #[22, 51, 51] := by kernel_rfl
        rw [hp] at ht
        have hm : t ∈ [22, 51, 51] := by simpa using Array.mem_of_getElem? ht
        have hall : ([22, 51, 51].all fun u => !Tryz.prog.wantsStandIn u) = true := by kernel_rfl
        exact (show Tryz.prog.wantsStandIn t = false by simpa using List.all_eq_true.1 hall t hm)⟩)
    (by kernel_rfl)
end Go.Proofs.YtcomjodfkcnjhaaGreatDoor
