/-
  No cell of these rows narrows 'for every input' (looked for: loops, veiled, ifaces, maps, wideKeys, modest, calm, conditions, laid).
  DERIVED. THE GIVEN ROWS OF THIS SEAT. 15 by the template 'for every input the law returns true; each argument reads behind the call as it read before'; 0 by the template 'total and deterministic' (their statements: YtmgfnejiienghaaTotals.lean).
  GIVEN WITH THE SEED: the statements are not yours to turn. If you find one false, say at which input.
  Laid BY PROGRAM, IN A SANDBOX (cutbox-rows.mjs): the forced cells as the released guide's own fill.sh prints them over the translation c1fe319bc6a23b77… (all of the seat's roots in one cut). By AI agents, Wed Nov 11 2026. No macro, syntax, notation, axiom, sorry.
-/
import Derived.Test.YtmgfnejiienghaaChecked
import GoSem.Claim
import GoSem.ClaimJoined
import GoSem.ClaimMapViews
import Derived.JoinedTies
import Derived.KernelRfl
namespace Go.Proofs.Ytmgfnejiienghaa
/- THE CELL 'sum', in the pinned program and in every row, IS THE sha256 OF THE DUMP (.gsa) THAT YtmgfnejiienghaaProg.lean LOADS. Nothing in Lean hashes anything: it is a label: what it is worth is what the hold of that sum in a sandbox is worth. -/
noncomputable def Try.pinned : Pinned := { name := "ytmgfnejiienghaa", sum := "c1fe319bc6a23b77322f935ca37d231403d83ecb7a4f4285367dd53fa29f9978", checked := Try.checked }
namespace Rows
def none {H : Type} : Left H := { results := [], args := [] }

/-- 'analemmalaw10.SetupWithin': WHATEVER THE INPUT: true; the input reads as it did. -/
def setupWithinSpec : ChangeSpec := { name := "setupWithin", fn := fun _ => fun
  | [d] => { results := [.lit (.bool true)], args := [d] }
  | _ => none }
def setupWithinRow : OpenClaim := { program := "ytmgfnejiienghaa", sum := "c1fe319bc6a23b77322f935ca37d231403d83ecb7a4f4285367dd53fa29f9978", func := "analemma/analemmalaw10.SetupWithin", spec := "setupWithin", inPlace := ["math.Float64bits", "math.Float64frombits"], unfollowed := true, recurses := true, apart := false }
def SetupWithinSaid : Prop := setupWithinRow.holds Try.pinned (OpenSpec.ofChange setupWithinSpec)

/-- ITS FALSE NEIGHBOUR: 'it returns false'. Refute it at one input. -/
def setupWithinWrong : ChangeSpec := { name := "setupWithin", fn := fun _ => fun
  | [d] => { results := [.lit (.bool false)], args := [d] }
  | _ => none }
def SetupWithinWrongFalsely : Prop := setupWithinRow.holds Try.pinned (OpenSpec.ofChange setupWithinWrong)

/-- 'analemmalaw10.SetupChecks': WHATEVER THE INPUT: true; the input reads as it did. -/
def setupChecksSpec : ChangeSpec := { name := "setupChecks", fn := fun _ => fun
  | [d1, d2] => { results := [.lit (.bool true)], args := [d1, d2] }
  | _ => none }
def setupChecksRow : OpenClaim := { program := "ytmgfnejiienghaa", sum := "c1fe319bc6a23b77322f935ca37d231403d83ecb7a4f4285367dd53fa29f9978", func := "analemma/analemmalaw10.SetupChecks", spec := "setupChecks", inPlace := ["math.Float64bits", "math.Float64frombits"], unfollowed := true, recurses := true, apart := false }
def SetupChecksSaid : Prop := setupChecksRow.holds Try.pinned (OpenSpec.ofChange setupChecksSpec)

/-- ITS FALSE NEIGHBOUR: 'it returns false'. Refute it at one input. -/
def setupChecksWrong : ChangeSpec := { name := "setupChecks", fn := fun _ => fun
  | [d1, d2] => { results := [.lit (.bool false)], args := [d1, d2] }
  | _ => none }
def SetupChecksWrongFalsely : Prop := setupChecksRow.holds Try.pinned (OpenSpec.ofChange setupChecksWrong)

/-- 'analemmalaw10.SetupOne': WHATEVER THE INPUT: true; the input reads as it did. -/
def setupOneSpec : ChangeSpec := { name := "setupOne", fn := fun _ => fun
  | [d1, d2, d3] => { results := [.lit (.bool true)], args := [d1, d2, d3] }
  | _ => none }
def setupOneRow : OpenClaim := { program := "ytmgfnejiienghaa", sum := "c1fe319bc6a23b77322f935ca37d231403d83ecb7a4f4285367dd53fa29f9978", func := "analemma/analemmalaw10.SetupOne", spec := "setupOne", inPlace := ["math.Float64bits", "math.Float64frombits"], unfollowed := true, recurses := true, apart := false }
def SetupOneSaid : Prop := setupOneRow.holds Try.pinned (OpenSpec.ofChange setupOneSpec)

/-- ITS FALSE NEIGHBOUR: 'it returns false'. Refute it at one input. -/
def setupOneWrong : ChangeSpec := { name := "setupOne", fn := fun _ => fun
  | [d1, d2, d3] => { results := [.lit (.bool false)], args := [d1, d2, d3] }
  | _ => none }
def SetupOneWrongFalsely : Prop := setupOneRow.holds Try.pinned (OpenSpec.ofChange setupOneWrong)

/-- 'analemmalaw12.ChecksForged': WHATEVER THE INPUT: true; the input reads as it did. -/
def checksForgedSpec : ChangeSpec := { name := "checksForged", fn := fun _ => fun
  | [d1, d2, d3] => { results := [.lit (.bool true)], args := [d1, d2, d3] }
  | _ => none }
def checksForgedRow : OpenClaim := { program := "ytmgfnejiienghaa", sum := "c1fe319bc6a23b77322f935ca37d231403d83ecb7a4f4285367dd53fa29f9978", func := "analemma/analemmalaw12.ChecksForged", spec := "checksForged", inPlace := ["math.Float64bits", "math.Float64frombits"], unfollowed := true, recurses := true, apart := false }
def ChecksForgedSaid : Prop := checksForgedRow.holds Try.pinned (OpenSpec.ofChange checksForgedSpec)

/-- ITS FALSE NEIGHBOUR: 'it returns false'. Refute it at one input. -/
def checksForgedWrong : ChangeSpec := { name := "checksForged", fn := fun _ => fun
  | [d1, d2, d3] => { results := [.lit (.bool false)], args := [d1, d2, d3] }
  | _ => none }
def ChecksForgedWrongFalsely : Prop := checksForgedRow.holds Try.pinned (OpenSpec.ofChange checksForgedWrong)

/-- 'analemmalaw12.ChecksTwice': WHATEVER THE INPUT: true; the input reads as it did. -/
def checksTwiceSpec : ChangeSpec := { name := "checksTwice", fn := fun _ => fun
  | [d1, d2, d3, d4] => { results := [.lit (.bool true)], args := [d1, d2, d3, d4] }
  | _ => none }
def checksTwiceRow : OpenClaim := { program := "ytmgfnejiienghaa", sum := "c1fe319bc6a23b77322f935ca37d231403d83ecb7a4f4285367dd53fa29f9978", func := "analemma/analemmalaw12.ChecksTwice", spec := "checksTwice", inPlace := ["math.Float64bits", "math.Float64frombits"], unfollowed := true, recurses := true, apart := false }
def ChecksTwiceSaid : Prop := checksTwiceRow.holds Try.pinned (OpenSpec.ofChange checksTwiceSpec)

/-- ITS FALSE NEIGHBOUR: 'it returns false'. Refute it at one input. -/
def checksTwiceWrong : ChangeSpec := { name := "checksTwice", fn := fun _ => fun
  | [d1, d2, d3, d4] => { results := [.lit (.bool false)], args := [d1, d2, d3, d4] }
  | _ => none }
def ChecksTwiceWrongFalsely : Prop := checksTwiceRow.holds Try.pinned (OpenSpec.ofChange checksTwiceWrong)

/-- 'analemmalaw12.ChecksCounts': WHATEVER THE INPUT: true; the input reads as it did. -/
def checksCountsSpec : ChangeSpec := { name := "checksCounts", fn := fun _ => fun
  | [d] => { results := [.lit (.bool true)], args := [d] }
  | _ => none }
def checksCountsRow : OpenClaim := { program := "ytmgfnejiienghaa", sum := "c1fe319bc6a23b77322f935ca37d231403d83ecb7a4f4285367dd53fa29f9978", func := "analemma/analemmalaw12.ChecksCounts", spec := "checksCounts", inPlace := ["math.Float64bits", "math.Float64frombits"], unfollowed := true, recurses := true, apart := false }
def ChecksCountsSaid : Prop := checksCountsRow.holds Try.pinned (OpenSpec.ofChange checksCountsSpec)

/-- ITS FALSE NEIGHBOUR: 'it returns false'. Refute it at one input. -/
def checksCountsWrong : ChangeSpec := { name := "checksCounts", fn := fun _ => fun
  | [d] => { results := [.lit (.bool false)], args := [d] }
  | _ => none }
def ChecksCountsWrongFalsely : Prop := checksCountsRow.holds Try.pinned (OpenSpec.ofChange checksCountsWrong)

/-- 'analemmalaw12.ChecksOrder': WHATEVER THE INPUT: true; the input reads as it did. -/
def checksOrderSpec : ChangeSpec := { name := "checksOrder", fn := fun _ => fun
  | [d1, d2] => { results := [.lit (.bool true)], args := [d1, d2] }
  | _ => none }
def checksOrderRow : OpenClaim := { program := "ytmgfnejiienghaa", sum := "c1fe319bc6a23b77322f935ca37d231403d83ecb7a4f4285367dd53fa29f9978", func := "analemma/analemmalaw12.ChecksOrder", spec := "checksOrder", inPlace := ["math.Float64bits", "math.Float64frombits"], unfollowed := true, recurses := true, apart := false }
def ChecksOrderSaid : Prop := checksOrderRow.holds Try.pinned (OpenSpec.ofChange checksOrderSpec)

/-- ITS FALSE NEIGHBOUR: 'it returns false'. Refute it at one input. -/
def checksOrderWrong : ChangeSpec := { name := "checksOrder", fn := fun _ => fun
  | [d1, d2] => { results := [.lit (.bool false)], args := [d1, d2] }
  | _ => none }
def ChecksOrderWrongFalsely : Prop := checksOrderRow.holds Try.pinned (OpenSpec.ofChange checksOrderWrong)

/-- 'analemmalaw20.PaceQuiet': WHATEVER THE INPUT: true; the input reads as it did. -/
def paceQuietSpec : ChangeSpec := { name := "paceQuiet", fn := fun _ => fun
  | [d1, d2, d3] => { results := [.lit (.bool true)], args := [d1, d2, d3] }
  | _ => none }
def paceQuietRow : OpenClaim := { program := "ytmgfnejiienghaa", sum := "c1fe319bc6a23b77322f935ca37d231403d83ecb7a4f4285367dd53fa29f9978", func := "analemma/analemmalaw20.PaceQuiet", spec := "paceQuiet", inPlace := ["math.Float64bits", "math.Float64frombits"], unfollowed := true, recurses := true, apart := false }
def PaceQuietSaid : Prop := paceQuietRow.holds Try.pinned (OpenSpec.ofChange paceQuietSpec)

/-- ITS FALSE NEIGHBOUR: 'it returns false'. Refute it at one input. -/
def paceQuietWrong : ChangeSpec := { name := "paceQuiet", fn := fun _ => fun
  | [d1, d2, d3] => { results := [.lit (.bool false)], args := [d1, d2, d3] }
  | _ => none }
def PaceQuietWrongFalsely : Prop := paceQuietRow.holds Try.pinned (OpenSpec.ofChange paceQuietWrong)

/-- 'analemmalaw20.PaceEnds': WHATEVER THE INPUT: true; the input reads as it did. -/
def paceEndsSpec : ChangeSpec := { name := "paceEnds", fn := fun _ => fun
  | [d1, d2, d3] => { results := [.lit (.bool true)], args := [d1, d2, d3] }
  | _ => none }
def paceEndsRow : OpenClaim := { program := "ytmgfnejiienghaa", sum := "c1fe319bc6a23b77322f935ca37d231403d83ecb7a4f4285367dd53fa29f9978", func := "analemma/analemmalaw20.PaceEnds", spec := "paceEnds", inPlace := ["math.Float64bits", "math.Float64frombits"], unfollowed := true, recurses := true, apart := false }
def PaceEndsSaid : Prop := paceEndsRow.holds Try.pinned (OpenSpec.ofChange paceEndsSpec)

/-- ITS FALSE NEIGHBOUR: 'it returns false'. Refute it at one input. -/
def paceEndsWrong : ChangeSpec := { name := "paceEnds", fn := fun _ => fun
  | [d1, d2, d3] => { results := [.lit (.bool false)], args := [d1, d2, d3] }
  | _ => none }
def PaceEndsWrongFalsely : Prop := paceEndsRow.holds Try.pinned (OpenSpec.ofChange paceEndsWrong)

/-- 'analemmalaw20.PaceHeld': WHATEVER THE INPUT: true; the input reads as it did. -/
def paceHeldSpec : ChangeSpec := { name := "paceHeld", fn := fun _ => fun
  | [d1, d2, d3] => { results := [.lit (.bool true)], args := [d1, d2, d3] }
  | _ => none }
def paceHeldRow : OpenClaim := { program := "ytmgfnejiienghaa", sum := "c1fe319bc6a23b77322f935ca37d231403d83ecb7a4f4285367dd53fa29f9978", func := "analemma/analemmalaw20.PaceHeld", spec := "paceHeld", inPlace := ["math.Float64bits", "math.Float64frombits"], unfollowed := true, recurses := true, apart := false }
def PaceHeldSaid : Prop := paceHeldRow.holds Try.pinned (OpenSpec.ofChange paceHeldSpec)

/-- ITS FALSE NEIGHBOUR: 'it returns false'. Refute it at one input. -/
def paceHeldWrong : ChangeSpec := { name := "paceHeld", fn := fun _ => fun
  | [d1, d2, d3] => { results := [.lit (.bool false)], args := [d1, d2, d3] }
  | _ => none }
def PaceHeldWrongFalsely : Prop := paceHeldRow.holds Try.pinned (OpenSpec.ofChange paceHeldWrong)

/-- 'analemmalaw20.PaceRuns': WHATEVER THE INPUT: true; the input reads as it did. -/
def paceRunsSpec : ChangeSpec := { name := "paceRuns", fn := fun _ => fun
  | [d1, d2, d3] => { results := [.lit (.bool true)], args := [d1, d2, d3] }
  | _ => none }
def paceRunsRow : OpenClaim := { program := "ytmgfnejiienghaa", sum := "c1fe319bc6a23b77322f935ca37d231403d83ecb7a4f4285367dd53fa29f9978", func := "analemma/analemmalaw20.PaceRuns", spec := "paceRuns", inPlace := ["math.Float64bits", "math.Float64frombits"], unfollowed := true, recurses := true, apart := false }
def PaceRunsSaid : Prop := paceRunsRow.holds Try.pinned (OpenSpec.ofChange paceRunsSpec)

/-- ITS FALSE NEIGHBOUR: 'it returns false'. Refute it at one input. -/
def paceRunsWrong : ChangeSpec := { name := "paceRuns", fn := fun _ => fun
  | [d1, d2, d3] => { results := [.lit (.bool false)], args := [d1, d2, d3] }
  | _ => none }
def PaceRunsWrongFalsely : Prop := paceRunsRow.holds Try.pinned (OpenSpec.ofChange paceRunsWrong)

/-- 'analemmalaw11.ReachSilent': WHATEVER THE INPUT: true; the input reads as it did. -/
def reachSilentSpec : ChangeSpec := { name := "reachSilent", fn := fun _ => fun
  | [d1, d2] => { results := [.lit (.bool true)], args := [d1, d2] }
  | _ => none }
def reachSilentRow : OpenClaim := { program := "ytmgfnejiienghaa", sum := "c1fe319bc6a23b77322f935ca37d231403d83ecb7a4f4285367dd53fa29f9978", func := "analemma/analemmalaw11.ReachSilent", spec := "reachSilent", inPlace := ["math.Float64bits", "math.Float64frombits"], unfollowed := true, recurses := true, apart := false }
def ReachSilentSaid : Prop := reachSilentRow.holds Try.pinned (OpenSpec.ofChange reachSilentSpec)

/-- ITS FALSE NEIGHBOUR: 'it returns false'. Refute it at one input. -/
def reachSilentWrong : ChangeSpec := { name := "reachSilent", fn := fun _ => fun
  | [d1, d2] => { results := [.lit (.bool false)], args := [d1, d2] }
  | _ => none }
def ReachSilentWrongFalsely : Prop := reachSilentRow.holds Try.pinned (OpenSpec.ofChange reachSilentWrong)

/-- 'analemmalaw11.ReachWaits': WHATEVER THE INPUT: true; the input reads as it did. -/
def reachWaitsSpec : ChangeSpec := { name := "reachWaits", fn := fun _ => fun
  | [d1, d2, d3, d4, d5] => { results := [.lit (.bool true)], args := [d1, d2, d3, d4, d5] }
  | _ => none }
def reachWaitsRow : OpenClaim := { program := "ytmgfnejiienghaa", sum := "c1fe319bc6a23b77322f935ca37d231403d83ecb7a4f4285367dd53fa29f9978", func := "analemma/analemmalaw11.ReachWaits", spec := "reachWaits", inPlace := ["math.Float64bits", "math.Float64frombits"], unfollowed := true, recurses := true, apart := false }
def ReachWaitsSaid : Prop := reachWaitsRow.holds Try.pinned (OpenSpec.ofChange reachWaitsSpec)

/-- ITS FALSE NEIGHBOUR: 'it returns false'. Refute it at one input. -/
def reachWaitsWrong : ChangeSpec := { name := "reachWaits", fn := fun _ => fun
  | [d1, d2, d3, d4, d5] => { results := [.lit (.bool false)], args := [d1, d2, d3, d4, d5] }
  | _ => none }
def ReachWaitsWrongFalsely : Prop := reachWaitsRow.holds Try.pinned (OpenSpec.ofChange reachWaitsWrong)

/-- 'analemmalaw11.ReachCounts': WHATEVER THE INPUT: true; the input reads as it did. -/
def reachCountsSpec : ChangeSpec := { name := "reachCounts", fn := fun _ => fun
  | [d1, d2] => { results := [.lit (.bool true)], args := [d1, d2] }
  | _ => none }
def reachCountsRow : OpenClaim := { program := "ytmgfnejiienghaa", sum := "c1fe319bc6a23b77322f935ca37d231403d83ecb7a4f4285367dd53fa29f9978", func := "analemma/analemmalaw11.ReachCounts", spec := "reachCounts", inPlace := ["math.Float64bits", "math.Float64frombits"], unfollowed := true, recurses := true, apart := false }
def ReachCountsSaid : Prop := reachCountsRow.holds Try.pinned (OpenSpec.ofChange reachCountsSpec)

/-- ITS FALSE NEIGHBOUR: 'it returns false'. Refute it at one input. -/
def reachCountsWrong : ChangeSpec := { name := "reachCounts", fn := fun _ => fun
  | [d1, d2] => { results := [.lit (.bool false)], args := [d1, d2] }
  | _ => none }
def ReachCountsWrongFalsely : Prop := reachCountsRow.holds Try.pinned (OpenSpec.ofChange reachCountsWrong)

/-- 'analemmalaw11.ReachSlow': WHATEVER THE INPUT: true; the input reads as it did. -/
def reachSlowSpec : ChangeSpec := { name := "reachSlow", fn := fun _ => fun
  | [d1, d2, d3] => { results := [.lit (.bool true)], args := [d1, d2, d3] }
  | _ => none }
def reachSlowRow : OpenClaim := { program := "ytmgfnejiienghaa", sum := "c1fe319bc6a23b77322f935ca37d231403d83ecb7a4f4285367dd53fa29f9978", func := "analemma/analemmalaw11.ReachSlow", spec := "reachSlow", inPlace := ["math.Float64bits", "math.Float64frombits"], unfollowed := true, recurses := true, apart := false }
def ReachSlowSaid : Prop := reachSlowRow.holds Try.pinned (OpenSpec.ofChange reachSlowSpec)

/-- ITS FALSE NEIGHBOUR: 'it returns false'. Refute it at one input. -/
def reachSlowWrong : ChangeSpec := { name := "reachSlow", fn := fun _ => fun
  | [d1, d2, d3] => { results := [.lit (.bool false)], args := [d1, d2, d3] }
  | _ => none }
def ReachSlowWrongFalsely : Prop := reachSlowRow.holds Try.pinned (OpenSpec.ofChange reachSlowWrong)

/- THE SECOND FORM. 'bulk': how many values and letters a reading holds, each counted each time it is reached (what is shared counts as often as it is met; a slice's spare places count too). A statement '..UptoSaid' is the law's where the arguments, and the package variables that the reading takes, are together of bulk at most 1048576: NARROWER than '..Said'. Prove '..Said' where nothing that the law and all that it calls make is longer than what came in: it says more and counts as full. Else prove '..UptoSaid'. A law counts once. -/
mutual
def uptoBulk {H : Type} : DataW H → Nat
  | .lit (.string bytes) => bytes.length + 1
  | .lit _ => 1
  | .nil => 1
  | .ptr d => uptoBulk d + 1
  | .slice elems spare => uptoBulkAll elems + uptoBulkAll spare + 1
  | .agg parts => uptoBulkAll parts + 1
  | .iface _ d => uptoBulk d + 1
  | .map entries => uptoBulkEntries entries + 1
  | .held _ => 1
def uptoBulkAll {H : Type} : List (DataW H) → Nat
  | [] => 0
  | d :: r => uptoBulk d + uptoBulkAll r
def uptoBulkEntries {H : Type} : List (Lit × DataW H) → Nat
  | [] => 0
  | x :: r => uptoBulkEntry x + uptoBulkEntries r
def uptoBulkEntry {H : Type} : Lit × DataW H → Nat
  | (.string bytes, d) => bytes.length + uptoBulk d + 1
  | (_, d) => uptoBulk d + 1
 end
def uptoSmall : (H : Type) → List (DataW H) → Bool := fun _ ds => decide (uptoBulkAll ds ≤ 1048576)
def OpenSpec.upto (s : _root_.Go.ChangeSpec) : _root_.Go.OpenSpec := { _root_.Go.OpenSpec.ofChange s with cond := some uptoSmall }

/-- 'analemmalaw10.SetupWithin', WHERE WHAT IT READS IS OF BULK AT MOST 1048576: true; the input reads as it did. -/
def setupWithinUptoRow : OpenClaim := { program := "ytmgfnejiienghaa", sum := "c1fe319bc6a23b77322f935ca37d231403d83ecb7a4f4285367dd53fa29f9978", func := "analemma/analemmalaw10.SetupWithin", spec := "setupWithin", inPlace := ["math.Float64bits", "math.Float64frombits"], unfollowed := true, recurses := true, apart := false, narrowed := true }
def SetupWithinUptoSaid : Prop := setupWithinUptoRow.holds Try.pinned (OpenSpec.upto setupWithinSpec)

/-- 'analemmalaw10.SetupChecks', WHERE WHAT IT READS IS OF BULK AT MOST 1048576: true; the input reads as it did. -/
def setupChecksUptoRow : OpenClaim := { program := "ytmgfnejiienghaa", sum := "c1fe319bc6a23b77322f935ca37d231403d83ecb7a4f4285367dd53fa29f9978", func := "analemma/analemmalaw10.SetupChecks", spec := "setupChecks", inPlace := ["math.Float64bits", "math.Float64frombits"], unfollowed := true, recurses := true, apart := false, narrowed := true }
def SetupChecksUptoSaid : Prop := setupChecksUptoRow.holds Try.pinned (OpenSpec.upto setupChecksSpec)

/-- 'analemmalaw10.SetupOne', WHERE WHAT IT READS IS OF BULK AT MOST 1048576: true; the input reads as it did. -/
def setupOneUptoRow : OpenClaim := { program := "ytmgfnejiienghaa", sum := "c1fe319bc6a23b77322f935ca37d231403d83ecb7a4f4285367dd53fa29f9978", func := "analemma/analemmalaw10.SetupOne", spec := "setupOne", inPlace := ["math.Float64bits", "math.Float64frombits"], unfollowed := true, recurses := true, apart := false, narrowed := true }
def SetupOneUptoSaid : Prop := setupOneUptoRow.holds Try.pinned (OpenSpec.upto setupOneSpec)

/-- 'analemmalaw12.ChecksForged', WHERE WHAT IT READS IS OF BULK AT MOST 1048576: true; the input reads as it did. -/
def checksForgedUptoRow : OpenClaim := { program := "ytmgfnejiienghaa", sum := "c1fe319bc6a23b77322f935ca37d231403d83ecb7a4f4285367dd53fa29f9978", func := "analemma/analemmalaw12.ChecksForged", spec := "checksForged", inPlace := ["math.Float64bits", "math.Float64frombits"], unfollowed := true, recurses := true, apart := false, narrowed := true }
def ChecksForgedUptoSaid : Prop := checksForgedUptoRow.holds Try.pinned (OpenSpec.upto checksForgedSpec)

/-- 'analemmalaw12.ChecksTwice', WHERE WHAT IT READS IS OF BULK AT MOST 1048576: true; the input reads as it did. -/
def checksTwiceUptoRow : OpenClaim := { program := "ytmgfnejiienghaa", sum := "c1fe319bc6a23b77322f935ca37d231403d83ecb7a4f4285367dd53fa29f9978", func := "analemma/analemmalaw12.ChecksTwice", spec := "checksTwice", inPlace := ["math.Float64bits", "math.Float64frombits"], unfollowed := true, recurses := true, apart := false, narrowed := true }
def ChecksTwiceUptoSaid : Prop := checksTwiceUptoRow.holds Try.pinned (OpenSpec.upto checksTwiceSpec)

/-- 'analemmalaw12.ChecksCounts', WHERE WHAT IT READS IS OF BULK AT MOST 1048576: true; the input reads as it did. -/
def checksCountsUptoRow : OpenClaim := { program := "ytmgfnejiienghaa", sum := "c1fe319bc6a23b77322f935ca37d231403d83ecb7a4f4285367dd53fa29f9978", func := "analemma/analemmalaw12.ChecksCounts", spec := "checksCounts", inPlace := ["math.Float64bits", "math.Float64frombits"], unfollowed := true, recurses := true, apart := false, narrowed := true }
def ChecksCountsUptoSaid : Prop := checksCountsUptoRow.holds Try.pinned (OpenSpec.upto checksCountsSpec)

/-- 'analemmalaw12.ChecksOrder', WHERE WHAT IT READS IS OF BULK AT MOST 1048576: true; the input reads as it did. -/
def checksOrderUptoRow : OpenClaim := { program := "ytmgfnejiienghaa", sum := "c1fe319bc6a23b77322f935ca37d231403d83ecb7a4f4285367dd53fa29f9978", func := "analemma/analemmalaw12.ChecksOrder", spec := "checksOrder", inPlace := ["math.Float64bits", "math.Float64frombits"], unfollowed := true, recurses := true, apart := false, narrowed := true }
def ChecksOrderUptoSaid : Prop := checksOrderUptoRow.holds Try.pinned (OpenSpec.upto checksOrderSpec)

/-- 'analemmalaw20.PaceQuiet', WHERE WHAT IT READS IS OF BULK AT MOST 1048576: true; the input reads as it did. -/
def paceQuietUptoRow : OpenClaim := { program := "ytmgfnejiienghaa", sum := "c1fe319bc6a23b77322f935ca37d231403d83ecb7a4f4285367dd53fa29f9978", func := "analemma/analemmalaw20.PaceQuiet", spec := "paceQuiet", inPlace := ["math.Float64bits", "math.Float64frombits"], unfollowed := true, recurses := true, apart := false, narrowed := true }
def PaceQuietUptoSaid : Prop := paceQuietUptoRow.holds Try.pinned (OpenSpec.upto paceQuietSpec)

/-- 'analemmalaw20.PaceEnds', WHERE WHAT IT READS IS OF BULK AT MOST 1048576: true; the input reads as it did. -/
def paceEndsUptoRow : OpenClaim := { program := "ytmgfnejiienghaa", sum := "c1fe319bc6a23b77322f935ca37d231403d83ecb7a4f4285367dd53fa29f9978", func := "analemma/analemmalaw20.PaceEnds", spec := "paceEnds", inPlace := ["math.Float64bits", "math.Float64frombits"], unfollowed := true, recurses := true, apart := false, narrowed := true }
def PaceEndsUptoSaid : Prop := paceEndsUptoRow.holds Try.pinned (OpenSpec.upto paceEndsSpec)

/-- 'analemmalaw20.PaceHeld', WHERE WHAT IT READS IS OF BULK AT MOST 1048576: true; the input reads as it did. -/
def paceHeldUptoRow : OpenClaim := { program := "ytmgfnejiienghaa", sum := "c1fe319bc6a23b77322f935ca37d231403d83ecb7a4f4285367dd53fa29f9978", func := "analemma/analemmalaw20.PaceHeld", spec := "paceHeld", inPlace := ["math.Float64bits", "math.Float64frombits"], unfollowed := true, recurses := true, apart := false, narrowed := true }
def PaceHeldUptoSaid : Prop := paceHeldUptoRow.holds Try.pinned (OpenSpec.upto paceHeldSpec)

/-- 'analemmalaw20.PaceRuns', WHERE WHAT IT READS IS OF BULK AT MOST 1048576: true; the input reads as it did. -/
def paceRunsUptoRow : OpenClaim := { program := "ytmgfnejiienghaa", sum := "c1fe319bc6a23b77322f935ca37d231403d83ecb7a4f4285367dd53fa29f9978", func := "analemma/analemmalaw20.PaceRuns", spec := "paceRuns", inPlace := ["math.Float64bits", "math.Float64frombits"], unfollowed := true, recurses := true, apart := false, narrowed := true }
def PaceRunsUptoSaid : Prop := paceRunsUptoRow.holds Try.pinned (OpenSpec.upto paceRunsSpec)

/-- 'analemmalaw11.ReachSilent', WHERE WHAT IT READS IS OF BULK AT MOST 1048576: true; the input reads as it did. -/
def reachSilentUptoRow : OpenClaim := { program := "ytmgfnejiienghaa", sum := "c1fe319bc6a23b77322f935ca37d231403d83ecb7a4f4285367dd53fa29f9978", func := "analemma/analemmalaw11.ReachSilent", spec := "reachSilent", inPlace := ["math.Float64bits", "math.Float64frombits"], unfollowed := true, recurses := true, apart := false, narrowed := true }
def ReachSilentUptoSaid : Prop := reachSilentUptoRow.holds Try.pinned (OpenSpec.upto reachSilentSpec)

/-- 'analemmalaw11.ReachWaits', WHERE WHAT IT READS IS OF BULK AT MOST 1048576: true; the input reads as it did. -/
def reachWaitsUptoRow : OpenClaim := { program := "ytmgfnejiienghaa", sum := "c1fe319bc6a23b77322f935ca37d231403d83ecb7a4f4285367dd53fa29f9978", func := "analemma/analemmalaw11.ReachWaits", spec := "reachWaits", inPlace := ["math.Float64bits", "math.Float64frombits"], unfollowed := true, recurses := true, apart := false, narrowed := true }
def ReachWaitsUptoSaid : Prop := reachWaitsUptoRow.holds Try.pinned (OpenSpec.upto reachWaitsSpec)

/-- 'analemmalaw11.ReachCounts', WHERE WHAT IT READS IS OF BULK AT MOST 1048576: true; the input reads as it did. -/
def reachCountsUptoRow : OpenClaim := { program := "ytmgfnejiienghaa", sum := "c1fe319bc6a23b77322f935ca37d231403d83ecb7a4f4285367dd53fa29f9978", func := "analemma/analemmalaw11.ReachCounts", spec := "reachCounts", inPlace := ["math.Float64bits", "math.Float64frombits"], unfollowed := true, recurses := true, apart := false, narrowed := true }
def ReachCountsUptoSaid : Prop := reachCountsUptoRow.holds Try.pinned (OpenSpec.upto reachCountsSpec)

/-- 'analemmalaw11.ReachSlow', WHERE WHAT IT READS IS OF BULK AT MOST 1048576: true; the input reads as it did. -/
def reachSlowUptoRow : OpenClaim := { program := "ytmgfnejiienghaa", sum := "c1fe319bc6a23b77322f935ca37d231403d83ecb7a4f4285367dd53fa29f9978", func := "analemma/analemmalaw11.ReachSlow", spec := "reachSlow", inPlace := ["math.Float64bits", "math.Float64frombits"], unfollowed := true, recurses := true, apart := false, narrowed := true }
def ReachSlowUptoSaid : Prop := reachSlowUptoRow.holds Try.pinned (OpenSpec.upto reachSlowSpec)

end Rows
end Go.Proofs.Ytmgfnejiienghaa
