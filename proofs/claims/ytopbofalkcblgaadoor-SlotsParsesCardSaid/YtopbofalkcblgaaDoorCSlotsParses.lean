/- Any text is the set that the document says, or none. No condition. The card leans on what the row lists: the library's variables as the program's text lays them. -/
import Derived.Test.YtopbofalkcblgaaDoorCBase
set_option linter.unusedSimpArgs false
set_option linter.unusedVariables false
namespace Go.Proofs.YtopbofalkcblgaaDoor
open Go.Ax
open Cel (c)
open Go

set_option maxRecDepth 100000 in
theorem slotsParses_lifted (os : Os) (started : os.Started) (H : Type) (enc : TypeId × Value → H) :
    ReturnsInHanded {} Tryd.checked os 4 .any (fun w args => (Rows.slotsParsesSpec.pre enc Tryd.prog Tryd.f4 Rows.slotsParsesRow.domain false w args ∧ laidMetH Tryd.prog laidL w) ∧ sizedMet enc Tryd.prog Tryd.f4 (OpenSpec.ofChange Rows.slotsParsesSpec) false w args)
      (Rows.slotsParsesSpec.post enc Tryd.prog Tryd.f4 false true false false) := by
  refine returnsInHanded_of_change_and (C := Tryd.checked) (X := fun w _ => laidMetH Tryd.prog laidL w) (fun _ _ _ hh h => h.of_heap hh) ownNone started (by kernel_rfl) Tryd.func4
    (ChangeSpec.witness_shaped (enc := enc) (C := Tryd.checked) (os := os) (X := fun w _ => laidMetH Tryd.prog laidL w) false (World.laidAll Tryd.prog os laidL) #[.string ⟨#[]⟩] 8 (World.laidAll_os _ _ _)
      (world_shaped os _) (by kernel_rfl) (by kernel_rfl) (by kernel_rfl) (world_met os _)) ?_
  intro W base args ds gs before hval hW _ _ hL _
  refine law_contract tok laidOut (ts := [9]) (tb := 4) 8 (by kernel_rfl) (by kernel_rfl) (by kernel_rfl) (by kernel_rfl) rfl ?_ ?_ hval hW (glob_ok hL)
  · intro ds hd
    match ds, hd with
    | [d1], _ => exact ⟨rfl, rfl, rfl⟩
  · intro xs hl ha
    obtain ⟨a0, rfl⟩ := one hl
    obtain ⟨x0, rfl⟩ := str_of_arg (ha 0 9 a0 rfl rfl)
    exact parses_law AHeap.empty x0

theorem slotsParses_holds : Rows.SlotsParsesSaid :=
  OpenClaim.holds_of_wide 4 Tryd.f4 rfl rfl rfl rfl rfl rfl rfl ⟨rfl, rfl, rfl, rfl, rfl⟩ rfl rfl rfl rfl rfl (by kernel_rfl) Tryd.func4 (by kernel_rfl)
    (of_decide_eq_true (by kernel_rfl)) (by unfold Func.isWrapper; first | (rw [if_pos (by decide +kernel)]; kernel_rfl) | (rw [if_neg (by decide +kernel)]; exact ⟨rfl, rfl⟩))
    (fun os started H enc _ => slotsParses_lifted os started H enc)
theorem slotsParsesCard_holds : Rows.SlotsParsesCardSaid :=
  Claim7.holds_tied_plain_at .later [] [.data, .data, .data, .data, .sentinel, .sentinel, .pinned] true (true, "fd01b54efc0af86c851f4b04d72462a61a190ba1cce470d2576248ab98b19b54") true slotsParses_holds (fun _ h => by cases h) (by kernel_rfl) (fun _ h => by cases h) slotsParses_row_tie rfl ⟨rfl, rfl⟩ (by kernel_rfl) rfl
    (fun f fn hf hfn => by
      obtain rfl : f = 4 := Option.some.inj ((show Tryd.prog.funcNamed "grapevine/grapevinelaw02.SlotsParses" = some 4 by kernel_rfl).symm.trans hf) |>.symm
      obtain rfl : fn = Tryd.f4 := (Option.some.inj (Tryd.func4.symm.trans hfn)).symm
      exact ⟨by kernel_rfl, fun j t ht => by
        have hp : Tryd.f4.params = #[9] := by kernel_rfl
        rw [hp] at ht
        have hm : t ∈ [9] := by simpa using Array.mem_of_getElem? ht
        have hall : ([9].all fun u => !Tryd.prog.wantsStandIn u) = true := by kernel_rfl
        exact (show Tryd.prog.wantsStandIn t = false by simpa using List.all_eq_true.1 hall t hm)⟩)
    (by kernel_rfl)
end Go.Proofs.YtopbofalkcblgaaDoor
