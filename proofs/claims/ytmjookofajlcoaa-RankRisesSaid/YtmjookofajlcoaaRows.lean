/-
  No cell of these rows narrows 'for every input' (looked for: loops, veiled, ifaces, maps, wideKeys, modest, calm, conditions, laid).
  DERIVED. THE GIVEN ROWS OF THIS SEAT. 7 by the template 'for every input the law returns true; each argument reads behind the call as it read before'; 0 by the template 'total and deterministic' (their statements: YtmjookofajlcoaaTotals.lean).
  GIVEN WITH THE SEED: the statements are not yours to turn. If you find one false, say at which input.
  Laid BY PROGRAM, IN A SANDBOX (cutbox-rows.mjs): the forced cells as the released guide's own fill.sh prints them over the translation 5bf0545b2a6b4f10… (all of the seat's roots in one cut). By AI agents, Wed Nov 11 2026. No macro, syntax, notation, axiom, sorry.
-/
import Derived.Test.YtmjookofajlcoaaChecked
import GoSem.Claim
import GoSem.ClaimJoined
import GoSem.ClaimMapViews
import Derived.JoinedTies
import Derived.KernelRfl
namespace Go.Proofs.Ytmjookofajlcoaa
/- THE CELL 'sum', in the pinned program and in every row, IS THE sha256 OF THE DUMP (.gsa) THAT YtmjookofajlcoaaProg.lean LOADS. Nothing in Lean hashes anything: it is a label: what it is worth is what the hold of that sum in a sandbox is worth. -/
noncomputable def Try.pinned : Pinned := { name := "ytmjookofajlcoaa", sum := "5bf0545b2a6b4f10f53abf697d5ffaab8368847d5912fb0900666de295559d72", checked := Try.checked }
namespace Rows
def none {H : Type} : Left H := { results := [], args := [] }

/-- 'grapevinelaw05.RankOrders': WHATEVER THE INPUT: true; the input reads as it did. -/
def rankOrdersSpec : ChangeSpec := { name := "rankOrders", fn := fun _ => fun
  | [d] => { results := [.lit (.bool true)], args := [d] }
  | _ => none }
def rankOrdersRow : OpenClaim := { program := "ytmjookofajlcoaa", sum := "5bf0545b2a6b4f10f53abf697d5ffaab8368847d5912fb0900666de295559d72", func := "grapevine/grapevinelaw05.RankOrders", spec := "rankOrders", unfollowed := true, recurses := true, apart := false }
def RankOrdersSaid : Prop := rankOrdersRow.holds Try.pinned (OpenSpec.ofChange rankOrdersSpec)

/-- ITS FALSE NEIGHBOUR: 'it returns false'. Refute it at one input. -/
def rankOrdersWrong : ChangeSpec := { name := "rankOrders", fn := fun _ => fun
  | [d] => { results := [.lit (.bool false)], args := [d] }
  | _ => none }
def RankOrdersWrongFalsely : Prop := rankOrdersRow.holds Try.pinned (OpenSpec.ofChange rankOrdersWrong)

/-- 'grapevinelaw05.RankDelays': WHATEVER THE INPUT: true; the input reads as it did. -/
def rankDelaysSpec : ChangeSpec := { name := "rankDelays", fn := fun _ => fun
  | [d1, d2, d3, d4] => { results := [.lit (.bool true)], args := [d1, d2, d3, d4] }
  | _ => none }
def rankDelaysRow : OpenClaim := { program := "ytmjookofajlcoaa", sum := "5bf0545b2a6b4f10f53abf697d5ffaab8368847d5912fb0900666de295559d72", func := "grapevine/grapevinelaw05.RankDelays", spec := "rankDelays", unfollowed := true, recurses := true, apart := false }
def RankDelaysSaid : Prop := rankDelaysRow.holds Try.pinned (OpenSpec.ofChange rankDelaysSpec)

/-- ITS FALSE NEIGHBOUR: 'it returns false'. Refute it at one input. -/
def rankDelaysWrong : ChangeSpec := { name := "rankDelays", fn := fun _ => fun
  | [d1, d2, d3, d4] => { results := [.lit (.bool false)], args := [d1, d2, d3, d4] }
  | _ => none }
def RankDelaysWrongFalsely : Prop := rankDelaysRow.holds Try.pinned (OpenSpec.ofChange rankDelaysWrong)

/-- 'grapevinelaw05.RankShuffled': WHATEVER THE INPUT: true; the input reads as it did. -/
def rankShuffledSpec : ChangeSpec := { name := "rankShuffled", fn := fun _ => fun
  | [d1, d2] => { results := [.lit (.bool true)], args := [d1, d2] }
  | _ => none }
def rankShuffledRow : OpenClaim := { program := "ytmjookofajlcoaa", sum := "5bf0545b2a6b4f10f53abf697d5ffaab8368847d5912fb0900666de295559d72", func := "grapevine/grapevinelaw05.RankShuffled", spec := "rankShuffled", unfollowed := true, recurses := true, apart := false }
def RankShuffledSaid : Prop := rankShuffledRow.holds Try.pinned (OpenSpec.ofChange rankShuffledSpec)

/-- ITS FALSE NEIGHBOUR: 'it returns false'. Refute it at one input. -/
def rankShuffledWrong : ChangeSpec := { name := "rankShuffled", fn := fun _ => fun
  | [d1, d2] => { results := [.lit (.bool false)], args := [d1, d2] }
  | _ => none }
def RankShuffledWrongFalsely : Prop := rankShuffledRow.holds Try.pinned (OpenSpec.ofChange rankShuffledWrong)

/-- 'grapevinelaw05.RankFresh': WHATEVER THE INPUT: true; the input reads as it did. -/
def rankFreshSpec : ChangeSpec := { name := "rankFresh", fn := fun _ => fun
  | [d1, d2] => { results := [.lit (.bool true)], args := [d1, d2] }
  | _ => none }
def rankFreshRow : OpenClaim := { program := "ytmjookofajlcoaa", sum := "5bf0545b2a6b4f10f53abf697d5ffaab8368847d5912fb0900666de295559d72", func := "grapevine/grapevinelaw05.RankFresh", spec := "rankFresh", unfollowed := true, recurses := true, apart := false }
def RankFreshSaid : Prop := rankFreshRow.holds Try.pinned (OpenSpec.ofChange rankFreshSpec)

/-- ITS FALSE NEIGHBOUR: 'it returns false'. Refute it at one input. -/
def rankFreshWrong : ChangeSpec := { name := "rankFresh", fn := fun _ => fun
  | [d1, d2] => { results := [.lit (.bool false)], args := [d1, d2] }
  | _ => none }
def RankFreshWrongFalsely : Prop := rankFreshRow.holds Try.pinned (OpenSpec.ofChange rankFreshWrong)

/-- 'grapevinelaw05.RankRanks': WHATEVER THE INPUT: true; the input reads as it did. -/
def rankRanksSpec : ChangeSpec := { name := "rankRanks", fn := fun _ => fun
  | [d1, d2] => { results := [.lit (.bool true)], args := [d1, d2] }
  | _ => none }
def rankRanksRow : OpenClaim := { program := "ytmjookofajlcoaa", sum := "5bf0545b2a6b4f10f53abf697d5ffaab8368847d5912fb0900666de295559d72", func := "grapevine/grapevinelaw05.RankRanks", spec := "rankRanks", unfollowed := true, recurses := true, apart := false }
def RankRanksSaid : Prop := rankRanksRow.holds Try.pinned (OpenSpec.ofChange rankRanksSpec)

/-- ITS FALSE NEIGHBOUR: 'it returns false'. Refute it at one input. -/
def rankRanksWrong : ChangeSpec := { name := "rankRanks", fn := fun _ => fun
  | [d1, d2] => { results := [.lit (.bool false)], args := [d1, d2] }
  | _ => none }
def RankRanksWrongFalsely : Prop := rankRanksRow.holds Try.pinned (OpenSpec.ofChange rankRanksWrong)

/-- 'grapevinelaw05.RankFirst': WHATEVER THE INPUT: true; the input reads as it did. -/
def rankFirstSpec : ChangeSpec := { name := "rankFirst", fn := fun _ => fun
  | [d1, d2] => { results := [.lit (.bool true)], args := [d1, d2] }
  | _ => none }
def rankFirstRow : OpenClaim := { program := "ytmjookofajlcoaa", sum := "5bf0545b2a6b4f10f53abf697d5ffaab8368847d5912fb0900666de295559d72", func := "grapevine/grapevinelaw05.RankFirst", spec := "rankFirst", unfollowed := true, recurses := true, apart := false }
def RankFirstSaid : Prop := rankFirstRow.holds Try.pinned (OpenSpec.ofChange rankFirstSpec)

/-- ITS FALSE NEIGHBOUR: 'it returns false'. Refute it at one input. -/
def rankFirstWrong : ChangeSpec := { name := "rankFirst", fn := fun _ => fun
  | [d1, d2] => { results := [.lit (.bool false)], args := [d1, d2] }
  | _ => none }
def RankFirstWrongFalsely : Prop := rankFirstRow.holds Try.pinned (OpenSpec.ofChange rankFirstWrong)

/-- 'grapevinelaw05.RankRises': WHATEVER THE INPUT: true; the input reads as it did. -/
def rankRisesSpec : ChangeSpec := { name := "rankRises", fn := fun _ => fun
  | [d1, d2, d3] => { results := [.lit (.bool true)], args := [d1, d2, d3] }
  | _ => none }
def rankRisesRow : OpenClaim := { program := "ytmjookofajlcoaa", sum := "5bf0545b2a6b4f10f53abf697d5ffaab8368847d5912fb0900666de295559d72", func := "grapevine/grapevinelaw05.RankRises", spec := "rankRises", unfollowed := true, recurses := true, apart := false }
def RankRisesSaid : Prop := rankRisesRow.holds Try.pinned (OpenSpec.ofChange rankRisesSpec)

/-- ITS FALSE NEIGHBOUR: 'it returns false'. Refute it at one input. -/
def rankRisesWrong : ChangeSpec := { name := "rankRises", fn := fun _ => fun
  | [d1, d2, d3] => { results := [.lit (.bool false)], args := [d1, d2, d3] }
  | _ => none }
def RankRisesWrongFalsely : Prop := rankRisesRow.holds Try.pinned (OpenSpec.ofChange rankRisesWrong)

/- THE SECOND FORM. 'bulk': how many values and letters a reading holds, each counted each time it is reached (what is shared counts as often as it is met; a slice's spare places count too). A statement '..UptoSaid' is the law's where the arguments, and the package variables that the reading takes, are together of bulk at most 1048576: NARROWER than '..Said'. Prove '..Said' where nothing that the law and all that it calls make is longer than what came in: it says more and counts as full. Else prove '..UptoSaid'. A law counts once. -/
mutual
def uptoBulk {H : Type} : DataW H → Nat
  | .lit (.string bytes) => bytes.length + 1
  | .lit _ => 1
  | .nil => 1
  | .ptr d => uptoBulk d + 1
  | .slice elems spare => uptoBulkAll elems + uptoBulkAll spare + 1
  | .agg parts => uptoBulkAll parts + 1
  | .iface _ d => uptoBulk d + 1
  | .map entries => uptoBulkEntries entries + 1
  | .held _ => 1
def uptoBulkAll {H : Type} : List (DataW H) → Nat
  | [] => 0
  | d :: r => uptoBulk d + uptoBulkAll r
def uptoBulkEntries {H : Type} : List (Lit × DataW H) → Nat
  | [] => 0
  | x :: r => uptoBulkEntry x + uptoBulkEntries r
def uptoBulkEntry {H : Type} : Lit × DataW H → Nat
  | (.string bytes, d) => bytes.length + uptoBulk d + 1
  | (_, d) => uptoBulk d + 1
 end
def uptoSmall : (H : Type) → List (DataW H) → Bool := fun _ ds => decide (uptoBulkAll ds ≤ 1048576)
def OpenSpec.upto (s : _root_.Go.ChangeSpec) : _root_.Go.OpenSpec := { _root_.Go.OpenSpec.ofChange s with cond := some uptoSmall }

/-- 'grapevinelaw05.RankOrders', WHERE WHAT IT READS IS OF BULK AT MOST 1048576: true; the input reads as it did. -/
def rankOrdersUptoRow : OpenClaim := { program := "ytmjookofajlcoaa", sum := "5bf0545b2a6b4f10f53abf697d5ffaab8368847d5912fb0900666de295559d72", func := "grapevine/grapevinelaw05.RankOrders", spec := "rankOrders", unfollowed := true, recurses := true, apart := false, narrowed := true }
def RankOrdersUptoSaid : Prop := rankOrdersUptoRow.holds Try.pinned (OpenSpec.upto rankOrdersSpec)

/-- 'grapevinelaw05.RankDelays', WHERE WHAT IT READS IS OF BULK AT MOST 1048576: true; the input reads as it did. -/
def rankDelaysUptoRow : OpenClaim := { program := "ytmjookofajlcoaa", sum := "5bf0545b2a6b4f10f53abf697d5ffaab8368847d5912fb0900666de295559d72", func := "grapevine/grapevinelaw05.RankDelays", spec := "rankDelays", unfollowed := true, recurses := true, apart := false, narrowed := true }
def RankDelaysUptoSaid : Prop := rankDelaysUptoRow.holds Try.pinned (OpenSpec.upto rankDelaysSpec)

/-- 'grapevinelaw05.RankShuffled', WHERE WHAT IT READS IS OF BULK AT MOST 1048576: true; the input reads as it did. -/
def rankShuffledUptoRow : OpenClaim := { program := "ytmjookofajlcoaa", sum := "5bf0545b2a6b4f10f53abf697d5ffaab8368847d5912fb0900666de295559d72", func := "grapevine/grapevinelaw05.RankShuffled", spec := "rankShuffled", unfollowed := true, recurses := true, apart := false, narrowed := true }
def RankShuffledUptoSaid : Prop := rankShuffledUptoRow.holds Try.pinned (OpenSpec.upto rankShuffledSpec)

/-- 'grapevinelaw05.RankFresh', WHERE WHAT IT READS IS OF BULK AT MOST 1048576: true; the input reads as it did. -/
def rankFreshUptoRow : OpenClaim := { program := "ytmjookofajlcoaa", sum := "5bf0545b2a6b4f10f53abf697d5ffaab8368847d5912fb0900666de295559d72", func := "grapevine/grapevinelaw05.RankFresh", spec := "rankFresh", unfollowed := true, recurses := true, apart := false, narrowed := true }
def RankFreshUptoSaid : Prop := rankFreshUptoRow.holds Try.pinned (OpenSpec.upto rankFreshSpec)

/-- 'grapevinelaw05.RankRanks', WHERE WHAT IT READS IS OF BULK AT MOST 1048576: true; the input reads as it did. -/
def rankRanksUptoRow : OpenClaim := { program := "ytmjookofajlcoaa", sum := "5bf0545b2a6b4f10f53abf697d5ffaab8368847d5912fb0900666de295559d72", func := "grapevine/grapevinelaw05.RankRanks", spec := "rankRanks", unfollowed := true, recurses := true, apart := false, narrowed := true }
def RankRanksUptoSaid : Prop := rankRanksUptoRow.holds Try.pinned (OpenSpec.upto rankRanksSpec)

/-- 'grapevinelaw05.RankFirst', WHERE WHAT IT READS IS OF BULK AT MOST 1048576: true; the input reads as it did. -/
def rankFirstUptoRow : OpenClaim := { program := "ytmjookofajlcoaa", sum := "5bf0545b2a6b4f10f53abf697d5ffaab8368847d5912fb0900666de295559d72", func := "grapevine/grapevinelaw05.RankFirst", spec := "rankFirst", unfollowed := true, recurses := true, apart := false, narrowed := true }
def RankFirstUptoSaid : Prop := rankFirstUptoRow.holds Try.pinned (OpenSpec.upto rankFirstSpec)

/-- 'grapevinelaw05.RankRises', WHERE WHAT IT READS IS OF BULK AT MOST 1048576: true; the input reads as it did. -/
def rankRisesUptoRow : OpenClaim := { program := "ytmjookofajlcoaa", sum := "5bf0545b2a6b4f10f53abf697d5ffaab8368847d5912fb0900666de295559d72", func := "grapevine/grapevinelaw05.RankRises", spec := "rankRises", unfollowed := true, recurses := true, apart := false, narrowed := true }
def RankRisesUptoSaid : Prop := rankRisesUptoRow.holds Try.pinned (OpenSpec.upto rankRisesSpec)

end Rows
end Go.Proofs.Ytmjookofajlcoaa
