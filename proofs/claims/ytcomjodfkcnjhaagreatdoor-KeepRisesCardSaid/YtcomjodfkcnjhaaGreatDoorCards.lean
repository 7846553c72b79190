/-
  DERIVED. GIVEN WITH THE SEED: THE CARDS: each row of YtcomjodfkcnjhaaGreatDoorRows.lean that lists a variable, with what it lists TIED to the program's text (the seventh form; the later family's looks); each row that meets fmt, with fmt's text TOLD by the authors' own Lean function (tested against real Go, not proved from fmt's source: count such statements apart). THE CARD IS WHAT COUNTS. Prove the row's statement (the work); the ties are given (YtcomjodfkcnjhaaGreatDoorTie.lean); close each card by the builder's one call (the guide's Derived/Test/ToyasCard.lean, 'card_holds'). Laid BY PROGRAM, IN A SANDBOX (cutbox-door.mjs). By AI agents, Wed Nov 11 2026. No macro, syntax, notation, axiom, sorry.
-/
import Derived.Test.YtcomjodfkcnjhaaGreatDoorRows
import GoSem.ClaimSeven
namespace Go.Proofs.YtcomjodfkcnjhaaGreatDoor
namespace Rows

/-- THE TIED CARD OF 'grapevinelaw14.KeepBack'. -/
def keepBackCard : Claim7 := { stood := { row := keepBackRow, standIns := [], harness := (true, "162b1f85e290da7e4e6030a12cc2c0afff596fcd1c2d071b23ae05271d400c8c"), looks := true }, kinds := [], alts := [], laidByText := true, laidKinds := [.data, .data, .data, .data, .sentinel, .sentinel, .pinned], laidTests := true, laidLooks := .later }
def KeepBackCardSaid : Prop := Claim7.holds Tryz.pinned (.plain (OpenSpec.ofChange keepBackSpec)) keepBackCard

/-- THE TIED CARD OF 'grapevinelaw14.KeepReads'. -/
def keepReadsCard : Claim7 := { stood := { row := keepReadsRow, standIns := [], harness := (true, "162b1f85e290da7e4e6030a12cc2c0afff596fcd1c2d071b23ae05271d400c8c"), looks := true }, kinds := [], alts := [], laidByText := true, laidKinds := [.data, .data, .data, .data, .sentinel, .sentinel, .pinned], laidTests := true, laidLooks := .later }
def KeepReadsCardSaid : Prop := Claim7.holds Tryz.pinned (.plain (OpenSpec.ofChange keepReadsSpec)) keepReadsCard

/-- THE TIED CARD OF 'grapevinelaw14.KeepCarries'. -/
def keepCarriesCard : Claim7 := { stood := { row := keepCarriesRow, standIns := [], harness := (true, "162b1f85e290da7e4e6030a12cc2c0afff596fcd1c2d071b23ae05271d400c8c"), looks := true }, kinds := [], alts := [], laidByText := true, laidKinds := [.data, .data, .data, .data, .sentinel, .sentinel, .pinned], laidTests := true, laidLooks := .later }
def KeepCarriesCardSaid : Prop := Claim7.holds Tryz.pinned (.plain (OpenSpec.ofChange keepCarriesSpec)) keepCarriesCard

/-- THE TIED CARD OF 'grapevinelaw14.KeepLasts'. -/
def keepLastsCard : Claim7 := { stood := { row := keepLastsRow, standIns := [], harness := (true, "162b1f85e290da7e4e6030a12cc2c0afff596fcd1c2d071b23ae05271d400c8c"), looks := true }, kinds := [], alts := [], laidByText := true, laidKinds := [.data, .data, .data, .data, .sentinel, .sentinel, .pinned], laidTests := true, laidLooks := .later }
def KeepLastsCardSaid : Prop := Claim7.holds Tryz.pinned (.plain (OpenSpec.ofChange keepLastsSpec)) keepLastsCard

/-- THE TIED CARD OF 'grapevinelaw14.KeepRises'. -/
def keepRisesCard : Claim7 := { stood := { row := keepRisesRow, standIns := [], harness := (true, "162b1f85e290da7e4e6030a12cc2c0afff596fcd1c2d071b23ae05271d400c8c"), looks := true }, kinds := [], alts := [], laidByText := true, laidKinds := [.data, .data, .data, .data, .sentinel, .sentinel, .pinned], laidTests := true, laidLooks := .later }
def KeepRisesCardSaid : Prop := Claim7.holds Tryz.pinned (.plain (OpenSpec.ofChange keepRisesSpec)) keepRisesCard

/-- THE SECOND FORM's CARD OF 'grapevinelaw14.KeepBack'. -/
def keepBackUptoCard : Claim7 := { stood := { row := keepBackUptoRow, standIns := [], harness := (true, "162b1f85e290da7e4e6030a12cc2c0afff596fcd1c2d071b23ae05271d400c8c"), looks := true }, kinds := [], alts := [], laidByText := true, laidKinds := [.data, .data, .data, .data, .sentinel, .sentinel, .pinned], laidTests := true, laidLooks := .later }
def KeepBackUptoCardSaid : Prop := Claim7.holds Tryz.pinned (.plain (OpenSpec.upto keepBackSpec)) keepBackUptoCard

/-- THE SECOND FORM's CARD OF 'grapevinelaw14.KeepReads'. -/
def keepReadsUptoCard : Claim7 := { stood := { row := keepReadsUptoRow, standIns := [], harness := (true, "162b1f85e290da7e4e6030a12cc2c0afff596fcd1c2d071b23ae05271d400c8c"), looks := true }, kinds := [], alts := [], laidByText := true, laidKinds := [.data, .data, .data, .data, .sentinel, .sentinel, .pinned], laidTests := true, laidLooks := .later }
def KeepReadsUptoCardSaid : Prop := Claim7.holds Tryz.pinned (.plain (OpenSpec.upto keepReadsSpec)) keepReadsUptoCard

/-- THE SECOND FORM's CARD OF 'grapevinelaw14.KeepCarries'. -/
def keepCarriesUptoCard : Claim7 := { stood := { row := keepCarriesUptoRow, standIns := [], harness := (true, "162b1f85e290da7e4e6030a12cc2c0afff596fcd1c2d071b23ae05271d400c8c"), looks := true }, kinds := [], alts := [], laidByText := true, laidKinds := [.data, .data, .data, .data, .sentinel, .sentinel, .pinned], laidTests := true, laidLooks := .later }
def KeepCarriesUptoCardSaid : Prop := Claim7.holds Tryz.pinned (.plain (OpenSpec.upto keepCarriesSpec)) keepCarriesUptoCard

/-- THE SECOND FORM's CARD OF 'grapevinelaw14.KeepLasts'. -/
def keepLastsUptoCard : Claim7 := { stood := { row := keepLastsUptoRow, standIns := [], harness := (true, "162b1f85e290da7e4e6030a12cc2c0afff596fcd1c2d071b23ae05271d400c8c"), looks := true }, kinds := [], alts := [], laidByText := true, laidKinds := [.data, .data, .data, .data, .sentinel, .sentinel, .pinned], laidTests := true, laidLooks := .later }
def KeepLastsUptoCardSaid : Prop := Claim7.holds Tryz.pinned (.plain (OpenSpec.upto keepLastsSpec)) keepLastsUptoCard

/-- THE SECOND FORM's CARD OF 'grapevinelaw14.KeepRises'. -/
def keepRisesUptoCard : Claim7 := { stood := { row := keepRisesUptoRow, standIns := [], harness := (true, "162b1f85e290da7e4e6030a12cc2c0afff596fcd1c2d071b23ae05271d400c8c"), looks := true }, kinds := [], alts := [], laidByText := true, laidKinds := [.data, .data, .data, .data, .sentinel, .sentinel, .pinned], laidTests := true, laidLooks := .later }
def KeepRisesUptoCardSaid : Prop := Claim7.holds Tryz.pinned (.plain (OpenSpec.upto keepRisesSpec)) keepRisesUptoCard
end Rows
end Go.Proofs.YtcomjodfkcnjhaaGreatDoor
