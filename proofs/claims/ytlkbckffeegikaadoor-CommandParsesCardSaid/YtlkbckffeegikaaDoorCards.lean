/-
  DERIVED. GIVEN WITH THE SEED: THE CARDS: each row of YtlkbckffeegikaaDoorRows.lean that lists a variable, with what it lists TIED to the program's text (the seventh form; the later family's looks); each row that meets fmt, with fmt's text TOLD by the authors' own Lean function (tested against real Go, not proved from fmt's source: count such statements apart). THE CARD IS WHAT COUNTS. Prove the row's statement (the work); the ties are given (YtlkbckffeegikaaDoorTie.lean); close each card by the builder's one call (the guide's Derived/Test/ToyasCard.lean, 'card_holds'). Laid BY PROGRAM, IN A SANDBOX (cutbox-door.mjs). By AI agents, Wed Nov 11 2026. No macro, syntax, notation, axiom, sorry.
-/
import Derived.Test.YtlkbckffeegikaaDoorRows
import GoSem.ClaimSeven
namespace Go.Proofs.YtlkbckffeegikaaDoor
namespace Rows

/-- THE TIED CARD OF 'grapevinelaw17.CommandParses'. -/
def commandParsesCard : Claim7 := { stood := { row := commandParsesRow, standIns := [], harness := (true, "634eab36823d0310a0a0c4cb5f108f9b999e972214137ad3dfc78f19dc806942"), looks := true }, kinds := [], alts := [], laidByText := true, laidKinds := [.data, .data, .data, .data, .sentinel, .sentinel, .pinned], laidTests := true, laidLooks := .later }
def CommandParsesCardSaid : Prop := Claim7.holds Tryd.pinned (.plain (OpenSpec.ofChange commandParsesSpec)) commandParsesCard

/-- THE TIED CARD OF 'grapevinelaw17.CommandTexts'. -/
def commandTextsCard : Claim7 := { stood := { row := commandTextsRow, standIns := [], harness := (true, "634eab36823d0310a0a0c4cb5f108f9b999e972214137ad3dfc78f19dc806942"), looks := true }, kinds := [], alts := [], laidByText := true, laidKinds := [.data, .data, .data, .data, .sentinel, .sentinel, .pinned], laidTests := true, laidLooks := .later }
def CommandTextsCardSaid : Prop := Claim7.holds Tryd.pinned (.plain (OpenSpec.ofChange commandTextsSpec)) commandTextsCard

/-- THE TIED CARD OF 'grapevinelaw17.CommandCases'. -/
def commandCasesCard : Claim7 := { stood := { row := commandCasesRow, standIns := [], harness := (true, "634eab36823d0310a0a0c4cb5f108f9b999e972214137ad3dfc78f19dc806942"), looks := true }, kinds := [], alts := [], laidByText := true, laidKinds := [.data, .data, .data, .data, .sentinel, .sentinel, .pinned], laidTests := true, laidLooks := .later }
def CommandCasesCardSaid : Prop := Claim7.holds Tryd.pinned (.plain (OpenSpec.ofChange commandCasesSpec)) commandCasesCard

/-- THE TIED CARD OF 'grapevinelaw17.CommandMore'. -/
def commandMoreCard : Claim7 := { stood := { row := commandMoreRow, standIns := [], harness := (true, "634eab36823d0310a0a0c4cb5f108f9b999e972214137ad3dfc78f19dc806942"), looks := true }, kinds := [], alts := [], laidByText := true, laidKinds := [.data, .data, .data, .data, .sentinel, .sentinel, .pinned], laidTests := true, laidLooks := .later }
def CommandMoreCardSaid : Prop := Claim7.holds Tryd.pinned (.plain (OpenSpec.ofChange commandMoreSpec)) commandMoreCard

/-- THE SECOND FORM's CARD OF 'grapevinelaw17.CommandParses'. -/
def commandParsesUptoCard : Claim7 := { stood := { row := commandParsesUptoRow, standIns := [], harness := (true, "634eab36823d0310a0a0c4cb5f108f9b999e972214137ad3dfc78f19dc806942"), looks := true }, kinds := [], alts := [], laidByText := true, laidKinds := [.data, .data, .data, .data, .sentinel, .sentinel, .pinned], laidTests := true, laidLooks := .later }
def CommandParsesUptoCardSaid : Prop := Claim7.holds Tryd.pinned (.plain (OpenSpec.upto commandParsesSpec)) commandParsesUptoCard

/-- THE SECOND FORM's CARD OF 'grapevinelaw17.CommandTexts'. -/
def commandTextsUptoCard : Claim7 := { stood := { row := commandTextsUptoRow, standIns := [], harness := (true, "634eab36823d0310a0a0c4cb5f108f9b999e972214137ad3dfc78f19dc806942"), looks := true }, kinds := [], alts := [], laidByText := true, laidKinds := [.data, .data, .data, .data, .sentinel, .sentinel, .pinned], laidTests := true, laidLooks := .later }
def CommandTextsUptoCardSaid : Prop := Claim7.holds Tryd.pinned (.plain (OpenSpec.upto commandTextsSpec)) commandTextsUptoCard

/-- THE SECOND FORM's CARD OF 'grapevinelaw17.CommandCases'. -/
def commandCasesUptoCard : Claim7 := { stood := { row := commandCasesUptoRow, standIns := [], harness := (true, "634eab36823d0310a0a0c4cb5f108f9b999e972214137ad3dfc78f19dc806942"), looks := true }, kinds := [], alts := [], laidByText := true, laidKinds := [.data, .data, .data, .data, .sentinel, .sentinel, .pinned], laidTests := true, laidLooks := .later }
def CommandCasesUptoCardSaid : Prop := Claim7.holds Tryd.pinned (.plain (OpenSpec.upto commandCasesSpec)) commandCasesUptoCard

/-- THE SECOND FORM's CARD OF 'grapevinelaw17.CommandMore'. -/
def commandMoreUptoCard : Claim7 := { stood := { row := commandMoreUptoRow, standIns := [], harness := (true, "634eab36823d0310a0a0c4cb5f108f9b999e972214137ad3dfc78f19dc806942"), looks := true }, kinds := [], alts := [], laidByText := true, laidKinds := [.data, .data, .data, .data, .sentinel, .sentinel, .pinned], laidTests := true, laidLooks := .later }
def CommandMoreUptoCardSaid : Prop := Claim7.holds Tryd.pinned (.plain (OpenSpec.upto commandMoreSpec)) commandMoreUptoCard
end Rows
end Go.Proofs.YtlkbckffeegikaaDoor
