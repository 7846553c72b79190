/-
  DERIVED. GIVEN WITH THE SEED: THE CARDS: each row of YtbcanlmpfhkklaaGreatDoorRows.lean that lists a variable, with what it lists TIED to the program's text (the seventh form; the later family's looks); each row that meets fmt, with fmt's text TOLD by the authors' own Lean function (tested against real Go, not proved from fmt's source: count such statements apart). THE CARD IS WHAT COUNTS. Prove the row's statement (the work); the ties are given (YtbcanlmpfhkklaaGreatDoorTie.lean); close each card by the builder's one call (the guide's Derived/Test/ToyasCard.lean, 'card_holds'). Laid BY PROGRAM, IN A SANDBOX (cutbox-door.mjs). By AI agents, Wed Nov 11 2026. No macro, syntax, notation, axiom, sorry.
-/
import Derived.Test.YtbcanlmpfhkklaaGreatDoorRows
import GoSem.ClaimSeven
namespace Go.Proofs.YtbcanlmpfhkklaaGreatDoor
namespace Rows

/-- THE TIED CARD OF 'grapevinelaw13.ConfTexts'. -/
def confTextsCard : Claim7 := { stood := { row := confTextsRow, standIns := [], harness := (true, "2ef3dd32979820b11006bfea26b377f3aae4145732527d2fe21ef216dfe14442"), looks := true }, kinds := [], alts := [], laidByText := true, laidKinds := [.data, .data, .data, .data, .sentinel, .sentinel, .pinned], laidTests := true, laidLooks := .later }
def ConfTextsCardSaid : Prop := Claim7.holds Tryz.pinned (.plain (OpenSpec.ofChange confTextsSpec)) confTextsCard

/-- THE TIED CARD OF 'grapevinelaw13.ConfParses'. -/
def confParsesCard : Claim7 := { stood := { row := confParsesRow, standIns := [], harness := (true, "2ef3dd32979820b11006bfea26b377f3aae4145732527d2fe21ef216dfe14442"), looks := true }, kinds := [], alts := [], laidByText := true, laidKinds := [.data, .data, .data, .data, .sentinel, .sentinel, .pinned], laidTests := true, laidLooks := .later }
def ConfParsesCardSaid : Prop := Claim7.holds Tryz.pinned (.plain (OpenSpec.ofChange confParsesSpec)) confParsesCard

/-- THE TIED CARD OF 'grapevinelaw13.ConfCuts'. -/
def confCutsCard : Claim7 := { stood := { row := confCutsRow, standIns := [], harness := (true, "2ef3dd32979820b11006bfea26b377f3aae4145732527d2fe21ef216dfe14442"), looks := true }, kinds := [], alts := [], laidByText := true, laidKinds := [.data, .data, .data, .data, .sentinel, .sentinel, .pinned], laidTests := true, laidLooks := .later }
def ConfCutsCardSaid : Prop := Claim7.holds Tryz.pinned (.plain (OpenSpec.ofChange confCutsSpec)) confCutsCard

/-- THE TIED CARD OF 'grapevinelaw13.ConfUnlike'. -/
def confUnlikeCard : Claim7 := { stood := { row := confUnlikeRow, standIns := [], harness := (true, "2ef3dd32979820b11006bfea26b377f3aae4145732527d2fe21ef216dfe14442"), looks := true }, kinds := [], alts := [], laidByText := true, laidKinds := [.data, .data, .data, .data, .sentinel, .sentinel, .pinned], laidTests := true, laidLooks := .later }
def ConfUnlikeCardSaid : Prop := Claim7.holds Tryz.pinned (.plain (OpenSpec.ofChange confUnlikeSpec)) confUnlikeCard

/-- THE TIED CARD OF 'grapevinelaw13.ConfLines'. -/
def confLinesCard : Claim7 := { stood := { row := confLinesRow, standIns := [], harness := (true, "2ef3dd32979820b11006bfea26b377f3aae4145732527d2fe21ef216dfe14442"), looks := true }, kinds := [], alts := [], laidByText := true, laidKinds := [.data, .data, .data, .data, .sentinel, .sentinel, .pinned], laidTests := true, laidLooks := .later }
def ConfLinesCardSaid : Prop := Claim7.holds Tryz.pinned (.plain (OpenSpec.ofChange confLinesSpec)) confLinesCard

/-- THE TIED CARD OF 'grapevinelaw13.ConfSwaps'. -/
def confSwapsCard : Claim7 := { stood := { row := confSwapsRow, standIns := [], harness := (true, "2ef3dd32979820b11006bfea26b377f3aae4145732527d2fe21ef216dfe14442"), looks := true }, kinds := [], alts := [], laidByText := true, laidKinds := [.data, .data, .data, .data, .sentinel, .sentinel, .pinned], laidTests := true, laidLooks := .later }
def ConfSwapsCardSaid : Prop := Claim7.holds Tryz.pinned (.plain (OpenSpec.ofChange confSwapsSpec)) confSwapsCard

/-- THE SECOND FORM's CARD OF 'grapevinelaw13.ConfTexts'. -/
def confTextsUptoCard : Claim7 := { stood := { row := confTextsUptoRow, standIns := [], harness := (true, "2ef3dd32979820b11006bfea26b377f3aae4145732527d2fe21ef216dfe14442"), looks := true }, kinds := [], alts := [], laidByText := true, laidKinds := [.data, .data, .data, .data, .sentinel, .sentinel, .pinned], laidTests := true, laidLooks := .later }
def ConfTextsUptoCardSaid : Prop := Claim7.holds Tryz.pinned (.plain (OpenSpec.upto confTextsSpec)) confTextsUptoCard

/-- THE SECOND FORM's CARD OF 'grapevinelaw13.ConfParses'. -/
def confParsesUptoCard : Claim7 := { stood := { row := confParsesUptoRow, standIns := [], harness := (true, "2ef3dd32979820b11006bfea26b377f3aae4145732527d2fe21ef216dfe14442"), looks := true }, kinds := [], alts := [], laidByText := true, laidKinds := [.data, .data, .data, .data, .sentinel, .sentinel, .pinned], laidTests := true, laidLooks := .later }
def ConfParsesUptoCardSaid : Prop := Claim7.holds Tryz.pinned (.plain (OpenSpec.upto confParsesSpec)) confParsesUptoCard

/-- THE SECOND FORM's CARD OF 'grapevinelaw13.ConfCuts'. -/
def confCutsUptoCard : Claim7 := { stood := { row := confCutsUptoRow, standIns := [], harness := (true, "2ef3dd32979820b11006bfea26b377f3aae4145732527d2fe21ef216dfe14442"), looks := true }, kinds := [], alts := [], laidByText := true, laidKinds := [.data, .data, .data, .data, .sentinel, .sentinel, .pinned], laidTests := true, laidLooks := .later }
def ConfCutsUptoCardSaid : Prop := Claim7.holds Tryz.pinned (.plain (OpenSpec.upto confCutsSpec)) confCutsUptoCard

/-- THE SECOND FORM's CARD OF 'grapevinelaw13.ConfUnlike'. -/
def confUnlikeUptoCard : Claim7 := { stood := { row := confUnlikeUptoRow, standIns := [], harness := (true, "2ef3dd32979820b11006bfea26b377f3aae4145732527d2fe21ef216dfe14442"), looks := true }, kinds := [], alts := [], laidByText := true, laidKinds := [.data, .data, .data, .data, .sentinel, .sentinel, .pinned], laidTests := true, laidLooks := .later }
def ConfUnlikeUptoCardSaid : Prop := Claim7.holds Tryz.pinned (.plain (OpenSpec.upto confUnlikeSpec)) confUnlikeUptoCard

/-- THE SECOND FORM's CARD OF 'grapevinelaw13.ConfLines'. -/
def confLinesUptoCard : Claim7 := { stood := { row := confLinesUptoRow, standIns := [], harness := (true, "2ef3dd32979820b11006bfea26b377f3aae4145732527d2fe21ef216dfe14442"), looks := true }, kinds := [], alts := [], laidByText := true, laidKinds := [.data, .data, .data, .data, .sentinel, .sentinel, .pinned], laidTests := true, laidLooks := .later }
def ConfLinesUptoCardSaid : Prop := Claim7.holds Tryz.pinned (.plain (OpenSpec.upto confLinesSpec)) confLinesUptoCard

/-- THE SECOND FORM's CARD OF 'grapevinelaw13.ConfSwaps'. -/
def confSwapsUptoCard : Claim7 := { stood := { row := confSwapsUptoRow, standIns := [], harness := (true, "2ef3dd32979820b11006bfea26b377f3aae4145732527d2fe21ef216dfe14442"), looks := true }, kinds := [], alts := [], laidByText := true, laidKinds := [.data, .data, .data, .data, .sentinel, .sentinel, .pinned], laidTests := true, laidLooks := .later }
def ConfSwapsUptoCardSaid : Prop := Claim7.holds Tryz.pinned (.plain (OpenSpec.upto confSwapsSpec)) confSwapsUptoCard
end Rows
end Go.Proofs.YtbcanlmpfhkklaaGreatDoor
