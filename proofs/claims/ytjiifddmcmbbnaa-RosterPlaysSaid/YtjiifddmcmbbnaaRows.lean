/-
  No cell of these rows narrows 'for every input' (looked for: loops, veiled, ifaces, maps, wideKeys, modest, calm, conditions, laid).
  DERIVED. THE GIVEN ROWS OF THIS SEAT. 7 by the template 'for every input the law returns true; each argument reads behind the call as it read before'; 0 by the template 'total and deterministic' (their statements: YtjiifddmcmbbnaaTotals.lean).
  GIVEN WITH THE SEED: the statements are not yours to turn. If you find one false, say at which input.
  Laid BY PROGRAM, IN A SANDBOX (cutbox-rows.mjs): the forced cells as the released guide's own fill.sh prints them over the translation b4e013016cb23327… (all of the seat's roots in one cut). By AI agents, Wed Nov 11 2026. No macro, syntax, notation, axiom, sorry.
-/
import Derived.Test.YtjiifddmcmbbnaaChecked
import GoSem.Claim
import GoSem.ClaimJoined
import GoSem.ClaimMapViews
import Derived.JoinedTies
import Derived.KernelRfl
namespace Go.Proofs.Ytjiifddmcmbbnaa
/- THE CELL 'sum', in the pinned program and in every row, IS THE sha256 OF THE DUMP (.gsa) THAT YtjiifddmcmbbnaaProg.lean LOADS. Nothing in Lean hashes anything: it is a label: what it is worth is what the hold of that sum in a sandbox is worth. -/
noncomputable def Try.pinned : Pinned := { name := "ytjiifddmcmbbnaa", sum := "b4e013016cb233278b1e227fd7d210e6f3e6e7f35ff01c80d311ec631718c9c8", checked := Try.checked }
namespace Rows
def none {H : Type} : Left H := { results := [], args := [] }

/-- 'grapevinelaw10.RosterBounds': WHATEVER THE INPUT: true; the input reads as it did. -/
def rosterBoundsSpec : ChangeSpec := { name := "rosterBounds", fn := fun _ => fun
  | [d] => { results := [.lit (.bool true)], args := [d] }
  | _ => none }
def rosterBoundsRow : OpenClaim := { program := "ytjiifddmcmbbnaa", sum := "b4e013016cb233278b1e227fd7d210e6f3e6e7f35ff01c80d311ec631718c9c8", func := "grapevine/grapevinelaw10.RosterBounds", spec := "rosterBounds", inPlace := ["slices.overlaps[grapevine/roster.Member]"], unfollowed := true, recurses := true, apart := false }
def RosterBoundsSaid : Prop := rosterBoundsRow.holds Try.pinned (OpenSpec.ofChange rosterBoundsSpec)

/-- ITS FALSE NEIGHBOUR: 'it returns false'. Refute it at one input. -/
def rosterBoundsWrong : ChangeSpec := { name := "rosterBounds", fn := fun _ => fun
  | [d] => { results := [.lit (.bool false)], args := [d] }
  | _ => none }
def RosterBoundsWrongFalsely : Prop := rosterBoundsRow.holds Try.pinned (OpenSpec.ofChange rosterBoundsWrong)

/-- 'grapevinelaw10.RosterRounds': WHATEVER THE INPUT: true; the input reads as it did. -/
def rosterRoundsSpec : ChangeSpec := { name := "rosterRounds", fn := fun _ => fun
  | [d1, d2, d3] => { results := [.lit (.bool true)], args := [d1, d2, d3] }
  | _ => none }
def rosterRoundsRow : OpenClaim := { program := "ytjiifddmcmbbnaa", sum := "b4e013016cb233278b1e227fd7d210e6f3e6e7f35ff01c80d311ec631718c9c8", func := "grapevine/grapevinelaw10.RosterRounds", spec := "rosterRounds", inPlace := ["slices.overlaps[grapevine/roster.Member]"], unfollowed := true, recurses := true, apart := false }
def RosterRoundsSaid : Prop := rosterRoundsRow.holds Try.pinned (OpenSpec.ofChange rosterRoundsSpec)

/-- ITS FALSE NEIGHBOUR: 'it returns false'. Refute it at one input. -/
def rosterRoundsWrong : ChangeSpec := { name := "rosterRounds", fn := fun _ => fun
  | [d1, d2, d3] => { results := [.lit (.bool false)], args := [d1, d2, d3] }
  | _ => none }
def RosterRoundsWrongFalsely : Prop := rosterRoundsRow.holds Try.pinned (OpenSpec.ofChange rosterRoundsWrong)

/-- 'grapevinelaw10.RosterOrder': WHATEVER THE INPUT: true; the input reads as it did. -/
def rosterOrderSpec : ChangeSpec := { name := "rosterOrder", fn := fun _ => fun
  | [d] => { results := [.lit (.bool true)], args := [d] }
  | _ => none }
def rosterOrderRow : OpenClaim := { program := "ytjiifddmcmbbnaa", sum := "b4e013016cb233278b1e227fd7d210e6f3e6e7f35ff01c80d311ec631718c9c8", func := "grapevine/grapevinelaw10.RosterOrder", spec := "rosterOrder", inPlace := ["slices.overlaps[grapevine/roster.Member]"], unfollowed := true, recurses := true, apart := false }
def RosterOrderSaid : Prop := rosterOrderRow.holds Try.pinned (OpenSpec.ofChange rosterOrderSpec)

/-- ITS FALSE NEIGHBOUR: 'it returns false'. Refute it at one input. -/
def rosterOrderWrong : ChangeSpec := { name := "rosterOrder", fn := fun _ => fun
  | [d] => { results := [.lit (.bool false)], args := [d] }
  | _ => none }
def RosterOrderWrongFalsely : Prop := rosterOrderRow.holds Try.pinned (OpenSpec.ofChange rosterOrderWrong)

/-- 'grapevinelaw10.RosterSets': WHATEVER THE INPUT: true; the input reads as it did. -/
def rosterSetsSpec : ChangeSpec := { name := "rosterSets", fn := fun _ => fun
  | [d1, d2] => { results := [.lit (.bool true)], args := [d1, d2] }
  | _ => none }
def rosterSetsRow : OpenClaim := { program := "ytjiifddmcmbbnaa", sum := "b4e013016cb233278b1e227fd7d210e6f3e6e7f35ff01c80d311ec631718c9c8", func := "grapevine/grapevinelaw10.RosterSets", spec := "rosterSets", inPlace := ["slices.overlaps[grapevine/roster.Member]"], unfollowed := true, recurses := true, apart := false }
def RosterSetsSaid : Prop := rosterSetsRow.holds Try.pinned (OpenSpec.ofChange rosterSetsSpec)

/-- ITS FALSE NEIGHBOUR: 'it returns false'. Refute it at one input. -/
def rosterSetsWrong : ChangeSpec := { name := "rosterSets", fn := fun _ => fun
  | [d1, d2] => { results := [.lit (.bool false)], args := [d1, d2] }
  | _ => none }
def RosterSetsWrongFalsely : Prop := rosterSetsRow.holds Try.pinned (OpenSpec.ofChange rosterSetsWrong)

/-- 'grapevinelaw10.RosterBans': WHATEVER THE INPUT: true; the input reads as it did. -/
def rosterBansSpec : ChangeSpec := { name := "rosterBans", fn := fun _ => fun
  | [d1, d2, d3] => { results := [.lit (.bool true)], args := [d1, d2, d3] }
  | _ => none }
def rosterBansRow : OpenClaim := { program := "ytjiifddmcmbbnaa", sum := "b4e013016cb233278b1e227fd7d210e6f3e6e7f35ff01c80d311ec631718c9c8", func := "grapevine/grapevinelaw10.RosterBans", spec := "rosterBans", inPlace := ["slices.overlaps[grapevine/roster.Member]"], unfollowed := true, recurses := true, apart := false }
def RosterBansSaid : Prop := rosterBansRow.holds Try.pinned (OpenSpec.ofChange rosterBansSpec)

/-- ITS FALSE NEIGHBOUR: 'it returns false'. Refute it at one input. -/
def rosterBansWrong : ChangeSpec := { name := "rosterBans", fn := fun _ => fun
  | [d1, d2, d3] => { results := [.lit (.bool false)], args := [d1, d2, d3] }
  | _ => none }
def RosterBansWrongFalsely : Prop := rosterBansRow.holds Try.pinned (OpenSpec.ofChange rosterBansWrong)

/-- 'grapevinelaw10.RosterForgets': WHATEVER THE INPUT: true; the input reads as it did. -/
def rosterForgetsSpec : ChangeSpec := { name := "rosterForgets", fn := fun _ => fun
  | [d1, d2, d3] => { results := [.lit (.bool true)], args := [d1, d2, d3] }
  | _ => none }
def rosterForgetsRow : OpenClaim := { program := "ytjiifddmcmbbnaa", sum := "b4e013016cb233278b1e227fd7d210e6f3e6e7f35ff01c80d311ec631718c9c8", func := "grapevine/grapevinelaw10.RosterForgets", spec := "rosterForgets", inPlace := ["slices.overlaps[grapevine/roster.Member]"], unfollowed := true, recurses := true, apart := false }
def RosterForgetsSaid : Prop := rosterForgetsRow.holds Try.pinned (OpenSpec.ofChange rosterForgetsSpec)

/-- ITS FALSE NEIGHBOUR: 'it returns false'. Refute it at one input. -/
def rosterForgetsWrong : ChangeSpec := { name := "rosterForgets", fn := fun _ => fun
  | [d1, d2, d3] => { results := [.lit (.bool false)], args := [d1, d2, d3] }
  | _ => none }
def RosterForgetsWrongFalsely : Prop := rosterForgetsRow.holds Try.pinned (OpenSpec.ofChange rosterForgetsWrong)

/-- 'grapevinelaw10.RosterPlays': WHATEVER THE INPUT: true; the input reads as it did. -/
def rosterPlaysSpec : ChangeSpec := { name := "rosterPlays", fn := fun _ => fun
  | [d1, d2, d3, d4] => { results := [.lit (.bool true)], args := [d1, d2, d3, d4] }
  | _ => none }
def rosterPlaysRow : OpenClaim := { program := "ytjiifddmcmbbnaa", sum := "b4e013016cb233278b1e227fd7d210e6f3e6e7f35ff01c80d311ec631718c9c8", func := "grapevine/grapevinelaw10.RosterPlays", spec := "rosterPlays", inPlace := ["slices.overlaps[grapevine/roster.Member]"], unfollowed := true, recurses := true, apart := false }
def RosterPlaysSaid : Prop := rosterPlaysRow.holds Try.pinned (OpenSpec.ofChange rosterPlaysSpec)

/-- ITS FALSE NEIGHBOUR: 'it returns false'. Refute it at one input. -/
def rosterPlaysWrong : ChangeSpec := { name := "rosterPlays", fn := fun _ => fun
  | [d1, d2, d3, d4] => { results := [.lit (.bool false)], args := [d1, d2, d3, d4] }
  | _ => none }
def RosterPlaysWrongFalsely : Prop := rosterPlaysRow.holds Try.pinned (OpenSpec.ofChange rosterPlaysWrong)

/- THE SECOND FORM. 'bulk': how many values and letters a reading holds, each counted each time it is reached (what is shared counts as often as it is met; a slice's spare places count too). A statement '..UptoSaid' is the law's where the arguments, and the package variables that the reading takes, are together of bulk at most 1048576: NARROWER than '..Said'. Prove '..Said' where nothing that the law and all that it calls make is longer than what came in: it says more and counts as full. Else prove '..UptoSaid'. A law counts once. -/
mutual
def uptoBulk {H : Type} : DataW H → Nat
  | .lit (.string bytes) => bytes.length + 1
  | .lit _ => 1
  | .nil => 1
  | .ptr d => uptoBulk d + 1
  | .slice elems spare => uptoBulkAll elems + uptoBulkAll spare + 1
  | .agg parts => uptoBulkAll parts + 1
  | .iface _ d => uptoBulk d + 1
  | .map entries => uptoBulkEntries entries + 1
  | .held _ => 1
def uptoBulkAll {H : Type} : List (DataW H) → Nat
  | [] => 0
  | d :: r => uptoBulk d + uptoBulkAll r
def uptoBulkEntries {H : Type} : List (Lit × DataW H) → Nat
  | [] => 0
  | x :: r => uptoBulkEntry x + uptoBulkEntries r
def uptoBulkEntry {H : Type} : Lit × DataW H → Nat
  | (.string bytes, d) => bytes.length + uptoBulk d + 1
  | (_, d) => uptoBulk d + 1
 end
def uptoSmall : (H : Type) → List (DataW H) → Bool := fun _ ds => decide (uptoBulkAll ds ≤ 1048576)
def OpenSpec.upto (s : _root_.Go.ChangeSpec) : _root_.Go.OpenSpec := { _root_.Go.OpenSpec.ofChange s with cond := some uptoSmall }

/-- 'grapevinelaw10.RosterBounds', WHERE WHAT IT READS IS OF BULK AT MOST 1048576: true; the input reads as it did. -/
def rosterBoundsUptoRow : OpenClaim := { program := "ytjiifddmcmbbnaa", sum := "b4e013016cb233278b1e227fd7d210e6f3e6e7f35ff01c80d311ec631718c9c8", func := "grapevine/grapevinelaw10.RosterBounds", spec := "rosterBounds", inPlace := ["slices.overlaps[grapevine/roster.Member]"], unfollowed := true, recurses := true, apart := false, narrowed := true }
def RosterBoundsUptoSaid : Prop := rosterBoundsUptoRow.holds Try.pinned (OpenSpec.upto rosterBoundsSpec)

/-- 'grapevinelaw10.RosterRounds', WHERE WHAT IT READS IS OF BULK AT MOST 1048576: true; the input reads as it did. -/
def rosterRoundsUptoRow : OpenClaim := { program := "ytjiifddmcmbbnaa", sum := "b4e013016cb233278b1e227fd7d210e6f3e6e7f35ff01c80d311ec631718c9c8", func := "grapevine/grapevinelaw10.RosterRounds", spec := "rosterRounds", inPlace := ["slices.overlaps[grapevine/roster.Member]"], unfollowed := true, recurses := true, apart := false, narrowed := true }
def RosterRoundsUptoSaid : Prop := rosterRoundsUptoRow.holds Try.pinned (OpenSpec.upto rosterRoundsSpec)

/-- 'grapevinelaw10.RosterOrder', WHERE WHAT IT READS IS OF BULK AT MOST 1048576: true; the input reads as it did. -/
def rosterOrderUptoRow : OpenClaim := { program := "ytjiifddmcmbbnaa", sum := "b4e013016cb233278b1e227fd7d210e6f3e6e7f35ff01c80d311ec631718c9c8", func := "grapevine/grapevinelaw10.RosterOrder", spec := "rosterOrder", inPlace := ["slices.overlaps[grapevine/roster.Member]"], unfollowed := true, recurses := true, apart := false, narrowed := true }
def RosterOrderUptoSaid : Prop := rosterOrderUptoRow.holds Try.pinned (OpenSpec.upto rosterOrderSpec)

/-- 'grapevinelaw10.RosterSets', WHERE WHAT IT READS IS OF BULK AT MOST 1048576: true; the input reads as it did. -/
def rosterSetsUptoRow : OpenClaim := { program := "ytjiifddmcmbbnaa", sum := "b4e013016cb233278b1e227fd7d210e6f3e6e7f35ff01c80d311ec631718c9c8", func := "grapevine/grapevinelaw10.RosterSets", spec := "rosterSets", inPlace := ["slices.overlaps[grapevine/roster.Member]"], unfollowed := true, recurses := true, apart := false, narrowed := true }
def RosterSetsUptoSaid : Prop := rosterSetsUptoRow.holds Try.pinned (OpenSpec.upto rosterSetsSpec)

/-- 'grapevinelaw10.RosterBans', WHERE WHAT IT READS IS OF BULK AT MOST 1048576: true; the input reads as it did. -/
def rosterBansUptoRow : OpenClaim := { program := "ytjiifddmcmbbnaa", sum := "b4e013016cb233278b1e227fd7d210e6f3e6e7f35ff01c80d311ec631718c9c8", func := "grapevine/grapevinelaw10.RosterBans", spec := "rosterBans", inPlace := ["slices.overlaps[grapevine/roster.Member]"], unfollowed := true, recurses := true, apart := false, narrowed := true }
def RosterBansUptoSaid : Prop := rosterBansUptoRow.holds Try.pinned (OpenSpec.upto rosterBansSpec)

/-- 'grapevinelaw10.RosterForgets', WHERE WHAT IT READS IS OF BULK AT MOST 1048576: true; the input reads as it did. -/
def rosterForgetsUptoRow : OpenClaim := { program := "ytjiifddmcmbbnaa", sum := "b4e013016cb233278b1e227fd7d210e6f3e6e7f35ff01c80d311ec631718c9c8", func := "grapevine/grapevinelaw10.RosterForgets", spec := "rosterForgets", inPlace := ["slices.overlaps[grapevine/roster.Member]"], unfollowed := true, recurses := true, apart := false, narrowed := true }
def RosterForgetsUptoSaid : Prop := rosterForgetsUptoRow.holds Try.pinned (OpenSpec.upto rosterForgetsSpec)

/-- 'grapevinelaw10.RosterPlays', WHERE WHAT IT READS IS OF BULK AT MOST 1048576: true; the input reads as it did. -/
def rosterPlaysUptoRow : OpenClaim := { program := "ytjiifddmcmbbnaa", sum := "b4e013016cb233278b1e227fd7d210e6f3e6e7f35ff01c80d311ec631718c9c8", func := "grapevine/grapevinelaw10.RosterPlays", spec := "rosterPlays", inPlace := ["slices.overlaps[grapevine/roster.Member]"], unfollowed := true, recurses := true, apart := false, narrowed := true }
def RosterPlaysUptoSaid : Prop := rosterPlaysUptoRow.holds Try.pinned (OpenSpec.upto rosterPlaysSpec)

end Rows
end Go.Proofs.Ytjiifddmcmbbnaa
