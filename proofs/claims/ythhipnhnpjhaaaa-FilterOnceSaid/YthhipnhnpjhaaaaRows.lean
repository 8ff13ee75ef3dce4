/-
  No cell of these rows narrows 'for every input' (looked for: loops, veiled, ifaces, maps, wideKeys, modest, calm, conditions, laid).
  DERIVED. THE GIVEN ROWS OF THIS SEAT. 11 by the template 'for every input the law returns true; each argument reads behind the call as it read before'; 0 by the template 'total and deterministic' (their statements: YthhipnhnpjhaaaaTotals.lean).
  GIVEN WITH THE SEED: the statements are not yours to turn. If you find one false, say at which input.
  Laid BY PROGRAM, IN A SANDBOX (cutbox-rows.mjs): the forced cells as the released guide's own fill.sh prints them over the translation 345d2c9e4789d83a… (all of the seat's roots in one cut). By AI agents, Wed Nov 11 2026. No macro, syntax, notation, axiom, sorry.
-/
import Derived.Test.YthhipnhnpjhaaaaChecked
import GoSem.Claim
import GoSem.ClaimJoined
import GoSem.ClaimMapViews
import Derived.JoinedTies
import Derived.KernelRfl
namespace Go.Proofs.Ythhipnhnpjhaaaa
/- THE CELL 'sum', in the pinned program and in every row, IS THE sha256 OF THE DUMP (.gsa) THAT YthhipnhnpjhaaaaProg.lean LOADS. Nothing in Lean hashes anything: it is a label: what it is worth is what the hold of that sum in a sandbox is worth. -/
noncomputable def Try.pinned : Pinned := { name := "ythhipnhnpjhaaaa", sum := "345d2c9e4789d83a2abe65f21a08570e994d9f159cf363069618470407adb4b3", checked := Try.checked }
namespace Rows
def none {H : Type} : Left H := { results := [], args := [] }

/-- 'analemmalaw14.FilterOnce': WHATEVER THE INPUT: true; the input reads as it did. -/
def filterOnceSpec : ChangeSpec := { name := "filterOnce", fn := fun _ => fun
  | [d1, d2] => { results := [.lit (.bool true)], args := [d1, d2] }
  | _ => none }
def filterOnceRow : OpenClaim := { program := "ythhipnhnpjhaaaa", sum := "345d2c9e4789d83a2abe65f21a08570e994d9f159cf363069618470407adb4b3", func := "analemma/analemmalaw14.FilterOnce", spec := "filterOnce", inPlace := ["math.Float64bits", "math.Float64frombits"], unfollowed := true, recurses := true, apart := false }
def FilterOnceSaid : Prop := filterOnceRow.holds Try.pinned (OpenSpec.ofChange filterOnceSpec)

/-- ITS FALSE NEIGHBOUR: 'it returns false'. Refute it at one input. -/
def filterOnceWrong : ChangeSpec := { name := "filterOnce", fn := fun _ => fun
  | [d1, d2] => { results := [.lit (.bool false)], args := [d1, d2] }
  | _ => none }
def FilterOnceWrongFalsely : Prop := filterOnceRow.holds Try.pinned (OpenSpec.ofChange filterOnceWrong)

/-- 'analemmalaw14.FilterLeast': WHATEVER THE INPUT: true; the input reads as it did. -/
def filterLeastSpec : ChangeSpec := { name := "filterLeast", fn := fun _ => fun
  | [d1, d2, d3] => { results := [.lit (.bool true)], args := [d1, d2, d3] }
  | _ => none }
def filterLeastRow : OpenClaim := { program := "ythhipnhnpjhaaaa", sum := "345d2c9e4789d83a2abe65f21a08570e994d9f159cf363069618470407adb4b3", func := "analemma/analemmalaw14.FilterLeast", spec := "filterLeast", inPlace := ["math.Float64bits", "math.Float64frombits"], unfollowed := true, recurses := true, apart := false }
def FilterLeastSaid : Prop := filterLeastRow.holds Try.pinned (OpenSpec.ofChange filterLeastSpec)

/-- ITS FALSE NEIGHBOUR: 'it returns false'. Refute it at one input. -/
def filterLeastWrong : ChangeSpec := { name := "filterLeast", fn := fun _ => fun
  | [d1, d2, d3] => { results := [.lit (.bool false)], args := [d1, d2, d3] }
  | _ => none }
def FilterLeastWrongFalsely : Prop := filterLeastRow.holds Try.pinned (OpenSpec.ofChange filterLeastWrong)

/-- 'analemmalaw14.FilterQuiet': WHATEVER THE INPUT: true; the input reads as it did. -/
def filterQuietSpec : ChangeSpec := { name := "filterQuiet", fn := fun _ => fun
  | [d1, d2, d3, d4] => { results := [.lit (.bool true)], args := [d1, d2, d3, d4] }
  | _ => none }
def filterQuietRow : OpenClaim := { program := "ythhipnhnpjhaaaa", sum := "345d2c9e4789d83a2abe65f21a08570e994d9f159cf363069618470407adb4b3", func := "analemma/analemmalaw14.FilterQuiet", spec := "filterQuiet", inPlace := ["math.Float64bits", "math.Float64frombits"], unfollowed := true, recurses := true, apart := false }
def FilterQuietSaid : Prop := filterQuietRow.holds Try.pinned (OpenSpec.ofChange filterQuietSpec)

/-- ITS FALSE NEIGHBOUR: 'it returns false'. Refute it at one input. -/
def filterQuietWrong : ChangeSpec := { name := "filterQuiet", fn := fun _ => fun
  | [d1, d2, d3, d4] => { results := [.lit (.bool false)], args := [d1, d2, d3, d4] }
  | _ => none }
def FilterQuietWrongFalsely : Prop := filterQuietRow.holds Try.pinned (OpenSpec.ofChange filterQuietWrong)

/-- 'analemmalaw14.FilterEight': WHATEVER THE INPUT: true; the input reads as it did. -/
def filterEightSpec : ChangeSpec := { name := "filterEight", fn := fun _ => fun
  | [d1, d2, d3] => { results := [.lit (.bool true)], args := [d1, d2, d3] }
  | _ => none }
def filterEightRow : OpenClaim := { program := "ythhipnhnpjhaaaa", sum := "345d2c9e4789d83a2abe65f21a08570e994d9f159cf363069618470407adb4b3", func := "analemma/analemmalaw14.FilterEight", spec := "filterEight", inPlace := ["math.Float64bits", "math.Float64frombits"], unfollowed := true, recurses := true, apart := false }
def FilterEightSaid : Prop := filterEightRow.holds Try.pinned (OpenSpec.ofChange filterEightSpec)

/-- ITS FALSE NEIGHBOUR: 'it returns false'. Refute it at one input. -/
def filterEightWrong : ChangeSpec := { name := "filterEight", fn := fun _ => fun
  | [d1, d2, d3] => { results := [.lit (.bool false)], args := [d1, d2, d3] }
  | _ => none }
def FilterEightWrongFalsely : Prop := filterEightRow.holds Try.pinned (OpenSpec.ofChange filterEightWrong)

/-- 'analemmalaw14.FilterSpikes': WHATEVER THE INPUT: true; the input reads as it did. -/
def filterSpikesSpec : ChangeSpec := { name := "filterSpikes", fn := fun _ => fun
  | [d1, d2, d3, d4] => { results := [.lit (.bool true)], args := [d1, d2, d3, d4] }
  | _ => none }
def filterSpikesRow : OpenClaim := { program := "ythhipnhnpjhaaaa", sum := "345d2c9e4789d83a2abe65f21a08570e994d9f159cf363069618470407adb4b3", func := "analemma/analemmalaw14.FilterSpikes", spec := "filterSpikes", inPlace := ["math.Float64bits", "math.Float64frombits"], unfollowed := true, recurses := true, apart := false }
def FilterSpikesSaid : Prop := filterSpikesRow.holds Try.pinned (OpenSpec.ofChange filterSpikesSpec)

/-- ITS FALSE NEIGHBOUR: 'it returns false'. Refute it at one input. -/
def filterSpikesWrong : ChangeSpec := { name := "filterSpikes", fn := fun _ => fun
  | [d1, d2, d3, d4] => { results := [.lit (.bool false)], args := [d1, d2, d3, d4] }
  | _ => none }
def FilterSpikesWrongFalsely : Prop := filterSpikesRow.holds Try.pinned (OpenSpec.ofChange filterSpikesWrong)

/-- 'analemmalaw19.LoopSteps': WHATEVER THE INPUT: true; the input reads as it did. -/
def loopStepsSpec : ChangeSpec := { name := "loopSteps", fn := fun _ => fun
  | [d1, d2, d3] => { results := [.lit (.bool true)], args := [d1, d2, d3] }
  | _ => none }
def loopStepsRow : OpenClaim := { program := "ythhipnhnpjhaaaa", sum := "345d2c9e4789d83a2abe65f21a08570e994d9f159cf363069618470407adb4b3", func := "analemma/analemmalaw19.LoopSteps", spec := "loopSteps", inPlace := ["math.Float64bits", "math.Float64frombits"], unfollowed := true, recurses := true, apart := false }
def LoopStepsSaid : Prop := loopStepsRow.holds Try.pinned (OpenSpec.ofChange loopStepsSpec)

/-- ITS FALSE NEIGHBOUR: 'it returns false'. Refute it at one input. -/
def loopStepsWrong : ChangeSpec := { name := "loopSteps", fn := fun _ => fun
  | [d1, d2, d3] => { results := [.lit (.bool false)], args := [d1, d2, d3] }
  | _ => none }
def LoopStepsWrongFalsely : Prop := loopStepsRow.holds Try.pinned (OpenSpec.ofChange loopStepsWrong)

/-- 'analemmalaw19.LoopHeld': WHATEVER THE INPUT: true; the input reads as it did. -/
def loopHeldSpec : ChangeSpec := { name := "loopHeld", fn := fun _ => fun
  | [d1, d2, d3, d4] => { results := [.lit (.bool true)], args := [d1, d2, d3, d4] }
  | _ => none }
def loopHeldRow : OpenClaim := { program := "ythhipnhnpjhaaaa", sum := "345d2c9e4789d83a2abe65f21a08570e994d9f159cf363069618470407adb4b3", func := "analemma/analemmalaw19.LoopHeld", spec := "loopHeld", inPlace := ["math.Float64bits", "math.Float64frombits"], unfollowed := true, recurses := true, apart := false }
def LoopHeldSaid : Prop := loopHeldRow.holds Try.pinned (OpenSpec.ofChange loopHeldSpec)

/-- ITS FALSE NEIGHBOUR: 'it returns false'. Refute it at one input. -/
def loopHeldWrong : ChangeSpec := { name := "loopHeld", fn := fun _ => fun
  | [d1, d2, d3, d4] => { results := [.lit (.bool false)], args := [d1, d2, d3, d4] }
  | _ => none }
def LoopHeldWrongFalsely : Prop := loopHeldRow.holds Try.pinned (OpenSpec.ofChange loopHeldWrong)

/-- 'analemmalaw19.LoopSmooth': WHATEVER THE INPUT: true; the input reads as it did. -/
def loopSmoothSpec : ChangeSpec := { name := "loopSmooth", fn := fun _ => fun
  | [d1, d2] => { results := [.lit (.bool true)], args := [d1, d2] }
  | _ => none }
def loopSmoothRow : OpenClaim := { program := "ythhipnhnpjhaaaa", sum := "345d2c9e4789d83a2abe65f21a08570e994d9f159cf363069618470407adb4b3", func := "analemma/analemmalaw19.LoopSmooth", spec := "loopSmooth", inPlace := ["math.Float64bits", "math.Float64frombits"], unfollowed := true, recurses := true, apart := false }
def LoopSmoothSaid : Prop := loopSmoothRow.holds Try.pinned (OpenSpec.ofChange loopSmoothSpec)

/-- ITS FALSE NEIGHBOUR: 'it returns false'. Refute it at one input. -/
def loopSmoothWrong : ChangeSpec := { name := "loopSmooth", fn := fun _ => fun
  | [d1, d2] => { results := [.lit (.bool false)], args := [d1, d2] }
  | _ => none }
def LoopSmoothWrongFalsely : Prop := loopSmoothRow.holds Try.pinned (OpenSpec.ofChange loopSmoothWrong)

/-- 'analemmalaw19.LoopStates': WHATEVER THE INPUT: true; the input reads as it did. -/
def loopStatesSpec : ChangeSpec := { name := "loopStates", fn := fun _ => fun
  | [d1, d2, d3, d4] => { results := [.lit (.bool true)], args := [d1, d2, d3, d4] }
  | _ => none }
def loopStatesRow : OpenClaim := { program := "ythhipnhnpjhaaaa", sum := "345d2c9e4789d83a2abe65f21a08570e994d9f159cf363069618470407adb4b3", func := "analemma/analemmalaw19.LoopStates", spec := "loopStates", inPlace := ["math.Float64bits", "math.Float64frombits"], unfollowed := true, recurses := true, apart := false }
def LoopStatesSaid : Prop := loopStatesRow.holds Try.pinned (OpenSpec.ofChange loopStatesSpec)

/-- ITS FALSE NEIGHBOUR: 'it returns false'. Refute it at one input. -/
def loopStatesWrong : ChangeSpec := { name := "loopStates", fn := fun _ => fun
  | [d1, d2, d3, d4] => { results := [.lit (.bool false)], args := [d1, d2, d3, d4] }
  | _ => none }
def LoopStatesWrongFalsely : Prop := loopStatesRow.holds Try.pinned (OpenSpec.ofChange loopStatesWrong)

/-- 'analemmalaw19.LoopTurns': WHATEVER THE INPUT: true; the input reads as it did. -/
def loopTurnsSpec : ChangeSpec := { name := "loopTurns", fn := fun _ => fun
  | [d1, d2, d3] => { results := [.lit (.bool true)], args := [d1, d2, d3] }
  | _ => none }
def loopTurnsRow : OpenClaim := { program := "ythhipnhnpjhaaaa", sum := "345d2c9e4789d83a2abe65f21a08570e994d9f159cf363069618470407adb4b3", func := "analemma/analemmalaw19.LoopTurns", spec := "loopTurns", inPlace := ["math.Float64bits", "math.Float64frombits"], unfollowed := true, recurses := true, apart := false }
def LoopTurnsSaid : Prop := loopTurnsRow.holds Try.pinned (OpenSpec.ofChange loopTurnsSpec)

/-- ITS FALSE NEIGHBOUR: 'it returns false'. Refute it at one input. -/
def loopTurnsWrong : ChangeSpec := { name := "loopTurns", fn := fun _ => fun
  | [d1, d2, d3] => { results := [.lit (.bool false)], args := [d1, d2, d3] }
  | _ => none }
def LoopTurnsWrongFalsely : Prop := loopTurnsRow.holds Try.pinned (OpenSpec.ofChange loopTurnsWrong)

/-- 'analemmalaw19.LoopTicks': WHATEVER THE INPUT: true; the input reads as it did. -/
def loopTicksSpec : ChangeSpec := { name := "loopTicks", fn := fun _ => fun
  | [d1, d2, d3] => { results := [.lit (.bool true)], args := [d1, d2, d3] }
  | _ => none }
def loopTicksRow : OpenClaim := { program := "ythhipnhnpjhaaaa", sum := "345d2c9e4789d83a2abe65f21a08570e994d9f159cf363069618470407adb4b3", func := "analemma/analemmalaw19.LoopTicks", spec := "loopTicks", inPlace := ["math.Float64bits", "math.Float64frombits"], unfollowed := true, recurses := true, apart := false }
def LoopTicksSaid : Prop := loopTicksRow.holds Try.pinned (OpenSpec.ofChange loopTicksSpec)

/-- ITS FALSE NEIGHBOUR: 'it returns false'. Refute it at one input. -/
def loopTicksWrong : ChangeSpec := { name := "loopTicks", fn := fun _ => fun
  | [d1, d2, d3] => { results := [.lit (.bool false)], args := [d1, d2, d3] }
  | _ => none }
def LoopTicksWrongFalsely : Prop := loopTicksRow.holds Try.pinned (OpenSpec.ofChange loopTicksWrong)

/- THE SECOND FORM. 'bulk': how many values and letters a reading holds, each counted each time it is reached (what is shared counts as often as it is met; a slice's spare places count too). A statement '..UptoSaid' is the law's where the arguments, and the package variables that the reading takes, are together of bulk at most 1048576: NARROWER than '..Said'. Prove '..Said' where nothing that the law and all that it calls make is longer than what came in: it says more and counts as full. Else prove '..UptoSaid'. A law counts once. -/
mutual
def uptoBulk {H : Type} : DataW H → Nat
  | .lit (.string bytes) => bytes.length + 1
  | .lit _ => 1
  | .nil => 1
  | .ptr d => uptoBulk d + 1
  | .slice elems spare => uptoBulkAll elems + uptoBulkAll spare + 1
  | .agg parts => uptoBulkAll parts + 1
  | .iface _ d => uptoBulk d + 1
  | .map entries => uptoBulkEntries entries + 1
  | .held _ => 1
def uptoBulkAll {H : Type} : List (DataW H) → Nat
  | [] => 0
  | d :: r => uptoBulk d + uptoBulkAll r
def uptoBulkEntries {H : Type} : List (Lit × DataW H) → Nat
  | [] => 0
  | x :: r => uptoBulkEntry x + uptoBulkEntries r
def uptoBulkEntry {H : Type} : Lit × DataW H → Nat
  | (.string bytes, d) => bytes.length + uptoBulk d + 1
  | (_, d) => uptoBulk d + 1
 end
def uptoSmall : (H : Type) → List (DataW H) → Bool := fun _ ds => decide (uptoBulkAll ds ≤ 1048576)
def OpenSpec.upto (s : _root_.Go.ChangeSpec) : _root_.Go.OpenSpec := { _root_.Go.OpenSpec.ofChange s with cond := some uptoSmall }

/-- 'analemmalaw14.FilterOnce', WHERE WHAT IT READS IS OF BULK AT MOST 1048576: true; the input reads as it did. -/
def filterOnceUptoRow : OpenClaim := { program := "ythhipnhnpjhaaaa", sum := "345d2c9e4789d83a2abe65f21a08570e994d9f159cf363069618470407adb4b3", func := "analemma/analemmalaw14.FilterOnce", spec := "filterOnce", inPlace := ["math.Float64bits", "math.Float64frombits"], unfollowed := true, recurses := true, apart := false, narrowed := true }
def FilterOnceUptoSaid : Prop := filterOnceUptoRow.holds Try.pinned (OpenSpec.upto filterOnceSpec)

/-- 'analemmalaw14.FilterLeast', WHERE WHAT IT READS IS OF BULK AT MOST 1048576: true; the input reads as it did. -/
def filterLeastUptoRow : OpenClaim := { program := "ythhipnhnpjhaaaa", sum := "345d2c9e4789d83a2abe65f21a08570e994d9f159cf363069618470407adb4b3", func := "analemma/analemmalaw14.FilterLeast", spec := "filterLeast", inPlace := ["math.Float64bits", "math.Float64frombits"], unfollowed := true, recurses := true, apart := false, narrowed := true }
def FilterLeastUptoSaid : Prop := filterLeastUptoRow.holds Try.pinned (OpenSpec.upto filterLeastSpec)

/-- 'analemmalaw14.FilterQuiet', WHERE WHAT IT READS IS OF BULK AT MOST 1048576: true; the input reads as it did. -/
def filterQuietUptoRow : OpenClaim := { program := "ythhipnhnpjhaaaa", sum := "345d2c9e4789d83a2abe65f21a08570e994d9f159cf363069618470407adb4b3", func := "analemma/analemmalaw14.FilterQuiet", spec := "filterQuiet", inPlace := ["math.Float64bits", "math.Float64frombits"], unfollowed := true, recurses := true, apart := false, narrowed := true }
def FilterQuietUptoSaid : Prop := filterQuietUptoRow.holds Try.pinned (OpenSpec.upto filterQuietSpec)

/-- 'analemmalaw14.FilterEight', WHERE WHAT IT READS IS OF BULK AT MOST 1048576: true; the input reads as it did. -/
def filterEightUptoRow : OpenClaim := { program := "ythhipnhnpjhaaaa", sum := "345d2c9e4789d83a2abe65f21a08570e994d9f159cf363069618470407adb4b3", func := "analemma/analemmalaw14.FilterEight", spec := "filterEight", inPlace := ["math.Float64bits", "math.Float64frombits"], unfollowed := true, recurses := true, apart := false, narrowed := true }
def FilterEightUptoSaid : Prop := filterEightUptoRow.holds Try.pinned (OpenSpec.upto filterEightSpec)

/-- 'analemmalaw14.FilterSpikes', WHERE WHAT IT READS IS OF BULK AT MOST 1048576: true; the input reads as it did. -/
def filterSpikesUptoRow : OpenClaim := { program := "ythhipnhnpjhaaaa", sum := "345d2c9e4789d83a2abe65f21a08570e994d9f159cf363069618470407adb4b3", func := "analemma/analemmalaw14.FilterSpikes", spec := "filterSpikes", inPlace := ["math.Float64bits", "math.Float64frombits"], unfollowed := true, recurses := true, apart := false, narrowed := true }
def FilterSpikesUptoSaid : Prop := filterSpikesUptoRow.holds Try.pinned (OpenSpec.upto filterSpikesSpec)

/-- 'analemmalaw19.LoopSteps', WHERE WHAT IT READS IS OF BULK AT MOST 1048576: true; the input reads as it did. -/
def loopStepsUptoRow : OpenClaim := { program := "ythhipnhnpjhaaaa", sum := "345d2c9e4789d83a2abe65f21a08570e994d9f159cf363069618470407adb4b3", func := "analemma/analemmalaw19.LoopSteps", spec := "loopSteps", inPlace := ["math.Float64bits", "math.Float64frombits"], unfollowed := true, recurses := true, apart := false, narrowed := true }
def LoopStepsUptoSaid : Prop := loopStepsUptoRow.holds Try.pinned (OpenSpec.upto loopStepsSpec)

/-- 'analemmalaw19.LoopHeld', WHERE WHAT IT READS IS OF BULK AT MOST 1048576: true; the input reads as it did. -/
def loopHeldUptoRow : OpenClaim := { program := "ythhipnhnpjhaaaa", sum := "345d2c9e4789d83a2abe65f21a08570e994d9f159cf363069618470407adb4b3", func := "analemma/analemmalaw19.LoopHeld", spec := "loopHeld", inPlace := ["math.Float64bits", "math.Float64frombits"], unfollowed := true, recurses := true, apart := false, narrowed := true }
def LoopHeldUptoSaid : Prop := loopHeldUptoRow.holds Try.pinned (OpenSpec.upto loopHeldSpec)

/-- 'analemmalaw19.LoopSmooth', WHERE WHAT IT READS IS OF BULK AT MOST 1048576: true; the input reads as it did. -/
def loopSmoothUptoRow : OpenClaim := { program := "ythhipnhnpjhaaaa", sum := "345d2c9e4789d83a2abe65f21a08570e994d9f159cf363069618470407adb4b3", func := "analemma/analemmalaw19.LoopSmooth", spec := "loopSmooth", inPlace := ["math.Float64bits", "math.Float64frombits"], unfollowed := true, recurses := true, apart := false, narrowed := true }
def LoopSmoothUptoSaid : Prop := loopSmoothUptoRow.holds Try.pinned (OpenSpec.upto loopSmoothSpec)

/-- 'analemmalaw19.LoopStates', WHERE WHAT IT READS IS OF BULK AT MOST 1048576: true; the input reads as it did. -/
def loopStatesUptoRow : OpenClaim := { program := "ythhipnhnpjhaaaa", sum := "345d2c9e4789d83a2abe65f21a08570e994d9f159cf363069618470407adb4b3", func := "analemma/analemmalaw19.LoopStates", spec := "loopStates", inPlace := ["math.Float64bits", "math.Float64frombits"], unfollowed := true, recurses := true, apart := false, narrowed := true }
def LoopStatesUptoSaid : Prop := loopStatesUptoRow.holds Try.pinned (OpenSpec.upto loopStatesSpec)

/-- 'analemmalaw19.LoopTurns', WHERE WHAT IT READS IS OF BULK AT MOST 1048576: true; the input reads as it did. -/
def loopTurnsUptoRow : OpenClaim := { program := "ythhipnhnpjhaaaa", sum := "345d2c9e4789d83a2abe65f21a08570e994d9f159cf363069618470407adb4b3", func := "analemma/analemmalaw19.LoopTurns", spec := "loopTurns", inPlace := ["math.Float64bits", "math.Float64frombits"], unfollowed := true, recurses := true, apart := false, narrowed := true }
def LoopTurnsUptoSaid : Prop := loopTurnsUptoRow.holds Try.pinned (OpenSpec.upto loopTurnsSpec)

/-- 'analemmalaw19.LoopTicks', WHERE WHAT IT READS IS OF BULK AT MOST 1048576: true; the input reads as it did. -/
def loopTicksUptoRow : OpenClaim := { program := "ythhipnhnpjhaaaa", sum := "345d2c9e4789d83a2abe65f21a08570e994d9f159cf363069618470407adb4b3", func := "analemma/analemmalaw19.LoopTicks", spec := "loopTicks", inPlace := ["math.Float64bits", "math.Float64frombits"], unfollowed := true, recurses := true, apart := false, narrowed := true }
def LoopTicksUptoSaid : Prop := loopTicksUptoRow.holds Try.pinned (OpenSpec.upto loopTicksSpec)

end Rows
end Go.Proofs.Ythhipnhnpjhaaaa
