/-
  DERIVED. GIVEN WITH THE SEED: THE CARDS: each row of YtopbofalkcblgaaDoorRows.lean that lists a variable, with what it lists TIED to the program's text (the seventh form; the later family's looks); each row that meets fmt, with fmt's text TOLD by the authors' own Lean function (tested against real Go, not proved from fmt's source: count such statements apart). THE CARD IS WHAT COUNTS. Prove the row's statement (the work); the ties are given (YtopbofalkcblgaaDoorTie.lean); close each card by the builder's one call (the guide's Derived/Test/ToyasCard.lean, 'card_holds'). Laid BY PROGRAM, IN A SANDBOX (cutbox-door.mjs). By AI agents, Wed Nov 11 2026. No macro, syntax, notation, axiom, sorry.
-/
import Derived.Test.YtopbofalkcblgaaDoorRows
import GoSem.ClaimSeven
namespace Go.Proofs.YtopbofalkcblgaaDoor
namespace Rows

/-- THE TIED CARD OF 'grapevinelaw02.SlotsTexts'. -/
def slotsTextsCard : Claim7 := { stood := { row := slotsTextsRow, standIns := [], harness := (true, "fd01b54efc0af86c851f4b04d72462a61a190ba1cce470d2576248ab98b19b54"), looks := true }, kinds := [], alts := [], laidByText := true, laidKinds := [.data, .data, .data, .data, .sentinel, .sentinel, .pinned], laidTests := true, laidLooks := .later }
def SlotsTextsCardSaid : Prop := Claim7.holds Tryd.pinned (.plain (OpenSpec.ofChange slotsTextsSpec)) slotsTextsCard

/-- THE TIED CARD OF 'grapevinelaw02.SlotsParses'. -/
def slotsParsesCard : Claim7 := { stood := { row := slotsParsesRow, standIns := [], harness := (true, "fd01b54efc0af86c851f4b04d72462a61a190ba1cce470d2576248ab98b19b54"), looks := true }, kinds := [], alts := [], laidByText := true, laidKinds := [.data, .data, .data, .data, .sentinel, .sentinel, .pinned], laidTests := true, laidLooks := .later }
def SlotsParsesCardSaid : Prop := Claim7.holds Tryd.pinned (.plain (OpenSpec.ofChange slotsParsesSpec)) slotsParsesCard

/-- THE TIED CARD OF 'grapevinelaw02.SlotsStretches'. -/
def slotsStretchesCard : Claim7 := { stood := { row := slotsStretchesRow, standIns := [], harness := (true, "fd01b54efc0af86c851f4b04d72462a61a190ba1cce470d2576248ab98b19b54"), looks := true }, kinds := [], alts := [], laidByText := true, laidKinds := [.data, .data, .data, .data, .sentinel, .sentinel, .pinned], laidTests := true, laidLooks := .later }
def SlotsStretchesCardSaid : Prop := Claim7.holds Tryd.pinned (.plain (OpenSpec.ofChange slotsStretchesSpec)) slotsStretchesCard

/-- THE TIED CARD OF 'grapevinelaw02.SlotsOf'. -/
def slotsOfCard : Claim7 := { stood := { row := slotsOfRow, standIns := [], harness := (true, "fd01b54efc0af86c851f4b04d72462a61a190ba1cce470d2576248ab98b19b54"), looks := true }, kinds := [], alts := [], laidByText := true, laidKinds := [.data, .data, .data, .data, .sentinel, .sentinel, .pinned], laidTests := true, laidLooks := .later }
def SlotsOfCardSaid : Prop := Claim7.holds Tryd.pinned (.plain (OpenSpec.ofChange slotsOfSpec)) slotsOfCard

/-- THE TIED CARD OF 'grapevinelaw02.SlotsShares'. -/
def slotsSharesCard : Claim7 := { stood := { row := slotsSharesRow, standIns := [], harness := (true, "fd01b54efc0af86c851f4b04d72462a61a190ba1cce470d2576248ab98b19b54"), looks := true }, kinds := [], alts := [], laidByText := true, laidKinds := [.data, .data, .data, .data, .sentinel, .sentinel, .pinned], laidTests := true, laidLooks := .later }
def SlotsSharesCardSaid : Prop := Claim7.holds Tryd.pinned (.plain (OpenSpec.ofChange slotsSharesSpec)) slotsSharesCard

/-- THE TIED CARD OF 'grapevinelaw02.SlotsUnions'. -/
def slotsUnionsCard : Claim7 := { stood := { row := slotsUnionsRow, standIns := [], harness := (true, "fd01b54efc0af86c851f4b04d72462a61a190ba1cce470d2576248ab98b19b54"), looks := true }, kinds := [], alts := [], laidByText := true, laidKinds := [.data, .data, .data, .data, .sentinel, .sentinel, .pinned], laidTests := true, laidLooks := .later }
def SlotsUnionsCardSaid : Prop := Claim7.holds Tryd.pinned (.plain (OpenSpec.ofChange slotsUnionsSpec)) slotsUnionsCard

/-- THE TIED CARD OF 'grapevinelaw02.SlotsLoose'. -/
def slotsLooseCard : Claim7 := { stood := { row := slotsLooseRow, standIns := [], harness := (true, "fd01b54efc0af86c851f4b04d72462a61a190ba1cce470d2576248ab98b19b54"), looks := true }, kinds := [], alts := [], laidByText := true, laidKinds := [.data, .data, .data, .data, .sentinel, .sentinel, .pinned], laidTests := true, laidLooks := .later }
def SlotsLooseCardSaid : Prop := Claim7.holds Tryd.pinned (.plain (OpenSpec.ofChange slotsLooseSpec)) slotsLooseCard

/-- THE SECOND FORM's CARD OF 'grapevinelaw02.SlotsTexts'. -/
def slotsTextsUptoCard : Claim7 := { stood := { row := slotsTextsUptoRow, standIns := [], harness := (true, "fd01b54efc0af86c851f4b04d72462a61a190ba1cce470d2576248ab98b19b54"), looks := true }, kinds := [], alts := [], laidByText := true, laidKinds := [.data, .data, .data, .data, .sentinel, .sentinel, .pinned], laidTests := true, laidLooks := .later }
def SlotsTextsUptoCardSaid : Prop := Claim7.holds Tryd.pinned (.plain (OpenSpec.upto slotsTextsSpec)) slotsTextsUptoCard

/-- THE SECOND FORM's CARD OF 'grapevinelaw02.SlotsParses'. -/
def slotsParsesUptoCard : Claim7 := { stood := { row := slotsParsesUptoRow, standIns := [], harness := (true, "fd01b54efc0af86c851f4b04d72462a61a190ba1cce470d2576248ab98b19b54"), looks := true }, kinds := [], alts := [], laidByText := true, laidKinds := [.data, .data, .data, .data, .sentinel, .sentinel, .pinned], laidTests := true, laidLooks := .later }
def SlotsParsesUptoCardSaid : Prop := Claim7.holds Tryd.pinned (.plain (OpenSpec.upto slotsParsesSpec)) slotsParsesUptoCard

/-- THE SECOND FORM's CARD OF 'grapevinelaw02.SlotsStretches'. -/
def slotsStretchesUptoCard : Claim7 := { stood := { row := slotsStretchesUptoRow, standIns := [], harness := (true, "fd01b54efc0af86c851f4b04d72462a61a190ba1cce470d2576248ab98b19b54"), looks := true }, kinds := [], alts := [], laidByText := true, laidKinds := [.data, .data, .data, .data, .sentinel, .sentinel, .pinned], laidTests := true, laidLooks := .later }
def SlotsStretchesUptoCardSaid : Prop := Claim7.holds Tryd.pinned (.plain (OpenSpec.upto slotsStretchesSpec)) slotsStretchesUptoCard

/-- THE SECOND FORM's CARD OF 'grapevinelaw02.SlotsOf'. -/
def slotsOfUptoCard : Claim7 := { stood := { row := slotsOfUptoRow, standIns := [], harness := (true, "fd01b54efc0af86c851f4b04d72462a61a190ba1cce470d2576248ab98b19b54"), looks := true }, kinds := [], alts := [], laidByText := true, laidKinds := [.data, .data, .data, .data, .sentinel, .sentinel, .pinned], laidTests := true, laidLooks := .later }
def SlotsOfUptoCardSaid : Prop := Claim7.holds Tryd.pinned (.plain (OpenSpec.upto slotsOfSpec)) slotsOfUptoCard

/-- THE SECOND FORM's CARD OF 'grapevinelaw02.SlotsShares'. -/
def slotsSharesUptoCard : Claim7 := { stood := { row := slotsSharesUptoRow, standIns := [], harness := (true, "fd01b54efc0af86c851f4b04d72462a61a190ba1cce470d2576248ab98b19b54"), looks := true }, kinds := [], alts := [], laidByText := true, laidKinds := [.data, .data, .data, .data, .sentinel, .sentinel, .pinned], laidTests := true, laidLooks := .later }
def SlotsSharesUptoCardSaid : Prop := Claim7.holds Tryd.pinned (.plain (OpenSpec.upto slotsSharesSpec)) slotsSharesUptoCard

/-- THE SECOND FORM's CARD OF 'grapevinelaw02.SlotsUnions'. -/
def slotsUnionsUptoCard : Claim7 := { stood := { row := slotsUnionsUptoRow, standIns := [], harness := (true, "fd01b54efc0af86c851f4b04d72462a61a190ba1cce470d2576248ab98b19b54"), looks := true }, kinds := [], alts := [], laidByText := true, laidKinds := [.data, .data, .data, .data, .sentinel, .sentinel, .pinned], laidTests := true, laidLooks := .later }
def SlotsUnionsUptoCardSaid : Prop := Claim7.holds Tryd.pinned (.plain (OpenSpec.upto slotsUnionsSpec)) slotsUnionsUptoCard

/-- THE SECOND FORM's CARD OF 'grapevinelaw02.SlotsLoose'. -/
def slotsLooseUptoCard : Claim7 := { stood := { row := slotsLooseUptoRow, standIns := [], harness := (true, "fd01b54efc0af86c851f4b04d72462a61a190ba1cce470d2576248ab98b19b54"), looks := true }, kinds := [], alts := [], laidByText := true, laidKinds := [.data, .data, .data, .data, .sentinel, .sentinel, .pinned], laidTests := true, laidLooks := .later }
def SlotsLooseUptoCardSaid : Prop := Claim7.holds Tryd.pinned (.plain (OpenSpec.upto slotsLooseSpec)) slotsLooseUptoCard
end Rows
end Go.Proofs.YtopbofalkcblgaaDoor
