/- A right text whose lines behind the first stand in another order is none. No condition. The card leans on what the row lists: the library's variables as the program's text lays them. -/
import Derived.Test.YtbcanlmpfhkklaaGreatDoorCBase
import Derived.Test.YtbcanlmpfhkklaaGreatDoorCV2
set_option linter.unusedSimpArgs false
set_option linter.unusedVariables false
namespace Go.Proofs.YtbcanlmpfhkklaaGreatDoor
open Go.Ax
open Cel (c)
open Go

set_option maxRecDepth 100000 in
theorem confSwaps_lifted (os : Os) (started : os.Started) (H : Type) (enc : TypeId × Value → H) :
    ReturnsInHanded {} Tryz.checked os 8 .any (fun w args => (Rows.confSwapsSpec.pre enc Tryz.prog Tryz.f8 Rows.confSwapsRow.domain false w args ∧ laidMetH Tryz.prog laidL w) ∧ sizedMet enc Tryz.prog Tryz.f8 (OpenSpec.ofChange Rows.confSwapsSpec) false w args)
      (Rows.confSwapsSpec.post enc Tryz.prog Tryz.f8 false true false false) := by
  refine returns_shaped (C := Tryz.checked) (X := fun w _ => laidMetH Tryz.prog laidL w) (fun _ _ _ hh h => h.of_heap hh) ownNone started (by kernel_rfl) Tryz.func8
    (ChangeSpec.witness_shaped (enc := enc) (C := Tryz.checked) (os := os) (X := fun w _ => laidMetH Tryz.prog laidL w) false (World.laidAll Tryz.prog os laidL) #[stV, .int .i64 0] 8 (World.laidAll_os _ _ _)
      (world_shaped os _) (by kernel_rfl) (by kernel_rfl) (by kernel_rfl) (world_met os _)) ?_
  intro W base args ds gs before hS hval hW _ _ hL _
  refine law_contract tok laidOut (ts := [29, 3]) (tb := 4) 8 (by kernel_rfl) (by kernel_rfl) (by kernel_rfl) (by kernel_rfl) rfl ?_ ?_ hval hW (glob_ok hL hS)
  · intro ds hd
    match ds, hd with
    | [d1, d2], _ => exact ⟨rfl, rfl, rfl⟩
  · intro xs hl ha
    obtain ⟨a0, a1, rfl⟩ := two hl
    obtain ⟨x0, rfl, b0⟩ := stt_of (ha 0 29 a0 rfl rfl)
    obtain ⟨x1, rfl, l1, b1⟩ := int_of_arg (ha 1 3 a1 rfl rfl)
    exact swaps_law AHeap.empty x0 b0 x1 b1

theorem confSwaps_holds : Rows.ConfSwapsSaid :=
  OpenClaim.holds_of_wide 8 Tryz.f8 rfl rfl rfl rfl rfl rfl rfl ⟨rfl, rfl, rfl, rfl, rfl⟩ rfl rfl rfl rfl rfl (by kernel_rfl) Tryz.func8 (by kernel_rfl)
    (of_decide_eq_true (by kernel_rfl)) (by unfold Func.isWrapper; first | (rw [if_pos (by decide +kernel)]; kernel_rfl) | (rw [if_neg (by decide +kernel)]; exact ⟨rfl, rfl⟩))
    (fun os started H enc _ => confSwaps_lifted os started H enc)
theorem confSwapsCard_holds : Rows.ConfSwapsCardSaid :=
  Claim7.holds_tied_plain_at .later [] [.data, .data, .data, .data, .sentinel, .sentinel, .pinned] true (true, "2ef3dd32979820b11006bfea26b377f3aae4145732527d2fe21ef216dfe14442") true confSwaps_holds (fun _ h => by cases h) (by kernel_rfl) (fun _ h => by cases h) confSwaps_row_tie rfl ⟨rfl, rfl⟩ (by kernel_rfl) rfl
    (fun f fn hf hfn => by
      obtain rfl : f = 8 := Option.some.inj ((show Tryz.prog.funcNamed "grapevine/grapevinelaw13.ConfSwaps" = some 8 by kernel_rfl).symm.trans hf) |>.symm
      obtain rfl : fn = Tryz.f8 := (Option.some.inj (Tryz.func8.symm.trans hfn)).symm
      exact ⟨by kernel_rfl, fun j t ht => by
        have hp : Tryz.f8.params = #[29, 3] := by kernel_rfl
        rw [hp] at ht
        have hm : t ∈ [29, 3] := by simpa using Array.mem_of_getElem? ht
        have hall : ([29, 3].all fun u => !Tryz.prog.wantsStandIn u) = true := by kernel_rfl
        exact (show Tryz.prog.wantsStandIn t = false by simpa using List.all_eq_true.1 hall t hm)⟩)
    (by kernel_rfl)
end Go.Proofs.YtbcanlmpfhkklaaGreatDoor
