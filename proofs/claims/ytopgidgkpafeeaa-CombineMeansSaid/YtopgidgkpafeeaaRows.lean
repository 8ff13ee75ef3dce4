/-
  No cell of these rows narrows 'for every input' (looked for: loops, veiled, ifaces, maps, wideKeys, modest, calm, conditions, laid).
  DERIVED. THE GIVEN ROWS OF THIS SEAT. 14 by the template 'for every input the law returns true; each argument reads behind the call as it read before'; 0 by the template 'total and deterministic' (their statements: YtopgidgkpafeeaaTotals.lean).
  GIVEN WITH THE SEED: the statements are not yours to turn. If you find one false, say at which input.
  Laid BY PROGRAM, IN A SANDBOX (cutbox-rows.mjs): the forced cells as the released guide's own fill.sh prints them over the translation d47f64d328895315… (all of the seat's roots in one cut). By AI agents, Wed Nov 11 2026. No macro, syntax, notation, axiom, sorry.
-/
import Derived.Test.YtopgidgkpafeeaaChecked
import GoSem.Claim
import GoSem.ClaimJoined
import GoSem.ClaimMapViews
import Derived.JoinedTies
import Derived.KernelRfl
namespace Go.Proofs.Ytopgidgkpafeeaa
/- THE CELL 'sum', in the pinned program and in every row, IS THE sha256 OF THE DUMP (.gsa) THAT YtopgidgkpafeeaaProg.lean LOADS. Nothing in Lean hashes anything: it is a label: what it is worth is what the hold of that sum in a sandbox is worth. -/
noncomputable def Try.pinned : Pinned := { name := "ytopgidgkpafeeaa", sum := "d47f64d3288953150f50d65616b99f1a5308943295b872c10c5aef7bf4023d7e", checked := Try.checked }
namespace Rows
def none {H : Type} : Left H := { results := [], args := [] }

/-- 'analemmalaw13.SampleMakes': WHATEVER THE INPUT: true; the input reads as it did. -/
def sampleMakesSpec : ChangeSpec := { name := "sampleMakes", fn := fun _ => fun
  | [d1, d2, d3, d4, d5, d6] => { results := [.lit (.bool true)], args := [d1, d2, d3, d4, d5, d6] }
  | _ => none }
def sampleMakesRow : OpenClaim := { program := "ytopgidgkpafeeaa", sum := "d47f64d3288953150f50d65616b99f1a5308943295b872c10c5aef7bf4023d7e", func := "analemma/analemmalaw13.SampleMakes", spec := "sampleMakes", inPlace := ["math.Float64bits", "math.Float64frombits"], unfollowed := true, recurses := true, apart := false }
def SampleMakesSaid : Prop := sampleMakesRow.holds Try.pinned (OpenSpec.ofChange sampleMakesSpec)

/-- ITS FALSE NEIGHBOUR: 'it returns false'. Refute it at one input. -/
def sampleMakesWrong : ChangeSpec := { name := "sampleMakes", fn := fun _ => fun
  | [d1, d2, d3, d4, d5, d6] => { results := [.lit (.bool false)], args := [d1, d2, d3, d4, d5, d6] }
  | _ => none }
def SampleMakesWrongFalsely : Prop := sampleMakesRow.holds Try.pinned (OpenSpec.ofChange sampleMakesWrong)

/-- 'analemmalaw13.SampleAges': WHATEVER THE INPUT: true; the input reads as it did. -/
def sampleAgesSpec : ChangeSpec := { name := "sampleAges", fn := fun _ => fun
  | [d1, d2, d3] => { results := [.lit (.bool true)], args := [d1, d2, d3] }
  | _ => none }
def sampleAgesRow : OpenClaim := { program := "ytopgidgkpafeeaa", sum := "d47f64d3288953150f50d65616b99f1a5308943295b872c10c5aef7bf4023d7e", func := "analemma/analemmalaw13.SampleAges", spec := "sampleAges", inPlace := ["math.Float64bits", "math.Float64frombits"], unfollowed := true, recurses := true, apart := false }
def SampleAgesSaid : Prop := sampleAgesRow.holds Try.pinned (OpenSpec.ofChange sampleAgesSpec)

/-- ITS FALSE NEIGHBOUR: 'it returns false'. Refute it at one input. -/
def sampleAgesWrong : ChangeSpec := { name := "sampleAges", fn := fun _ => fun
  | [d1, d2, d3] => { results := [.lit (.bool false)], args := [d1, d2, d3] }
  | _ => none }
def SampleAgesWrongFalsely : Prop := sampleAgesRow.holds Try.pinned (OpenSpec.ofChange sampleAgesWrong)

/-- 'analemmalaw13.SampleTrue': WHATEVER THE INPUT: true; the input reads as it did. -/
def sampleTrueSpec : ChangeSpec := { name := "sampleTrue", fn := fun _ => fun
  | [d1, d2, d3, d4, d5, d6] => { results := [.lit (.bool true)], args := [d1, d2, d3, d4, d5, d6] }
  | _ => none }
def sampleTrueRow : OpenClaim := { program := "ytopgidgkpafeeaa", sum := "d47f64d3288953150f50d65616b99f1a5308943295b872c10c5aef7bf4023d7e", func := "analemma/analemmalaw13.SampleTrue", spec := "sampleTrue", inPlace := ["math.Float64bits", "math.Float64frombits"], unfollowed := true, recurses := true, apart := false }
def SampleTrueSaid : Prop := sampleTrueRow.holds Try.pinned (OpenSpec.ofChange sampleTrueSpec)

/-- ITS FALSE NEIGHBOUR: 'it returns false'. Refute it at one input. -/
def sampleTrueWrong : ChangeSpec := { name := "sampleTrue", fn := fun _ => fun
  | [d1, d2, d3, d4, d5, d6] => { results := [.lit (.bool false)], args := [d1, d2, d3, d4, d5, d6] }
  | _ => none }
def SampleTrueWrongFalsely : Prop := sampleTrueRow.holds Try.pinned (OpenSpec.ofChange sampleTrueWrong)

/-- 'analemmalaw13.SampleMoves': WHATEVER THE INPUT: true; the input reads as it did. -/
def sampleMovesSpec : ChangeSpec := { name := "sampleMoves", fn := fun _ => fun
  | [d1, d2, d3, d4, d5, d6] => { results := [.lit (.bool true)], args := [d1, d2, d3, d4, d5, d6] }
  | _ => none }
def sampleMovesRow : OpenClaim := { program := "ytopgidgkpafeeaa", sum := "d47f64d3288953150f50d65616b99f1a5308943295b872c10c5aef7bf4023d7e", func := "analemma/analemmalaw13.SampleMoves", spec := "sampleMoves", inPlace := ["math.Float64bits", "math.Float64frombits"], unfollowed := true, recurses := true, apart := false }
def SampleMovesSaid : Prop := sampleMovesRow.holds Try.pinned (OpenSpec.ofChange sampleMovesSpec)

/-- ITS FALSE NEIGHBOUR: 'it returns false'. Refute it at one input. -/
def sampleMovesWrong : ChangeSpec := { name := "sampleMoves", fn := fun _ => fun
  | [d1, d2, d3, d4, d5, d6] => { results := [.lit (.bool false)], args := [d1, d2, d3, d4, d5, d6] }
  | _ => none }
def SampleMovesWrongFalsely : Prop := sampleMovesRow.holds Try.pinned (OpenSpec.ofChange sampleMovesWrong)

/-- 'analemmalaw15.RootdFits': WHATEVER THE INPUT: true; the input reads as it did. -/
def rootdFitsSpec : ChangeSpec := { name := "rootdFits", fn := fun _ => fun
  | [d1, d2, d3, d4] => { results := [.lit (.bool true)], args := [d1, d2, d3, d4] }
  | _ => none }
def rootdFitsRow : OpenClaim := { program := "ytopgidgkpafeeaa", sum := "d47f64d3288953150f50d65616b99f1a5308943295b872c10c5aef7bf4023d7e", func := "analemma/analemmalaw15.RootdFits", spec := "rootdFits", inPlace := ["math.Float64bits", "math.Float64frombits"], unfollowed := true, recurses := true, apart := false }
def RootdFitsSaid : Prop := rootdFitsRow.holds Try.pinned (OpenSpec.ofChange rootdFitsSpec)

/-- ITS FALSE NEIGHBOUR: 'it returns false'. Refute it at one input. -/
def rootdFitsWrong : ChangeSpec := { name := "rootdFits", fn := fun _ => fun
  | [d1, d2, d3, d4] => { results := [.lit (.bool false)], args := [d1, d2, d3, d4] }
  | _ => none }
def RootdFitsWrongFalsely : Prop := rootdFitsRow.holds Try.pinned (OpenSpec.ofChange rootdFitsWrong)

/-- 'analemmalaw15.RootdAges': WHATEVER THE INPUT: true; the input reads as it did. -/
def rootdAgesSpec : ChangeSpec := { name := "rootdAges", fn := fun _ => fun
  | [d1, d2, d3] => { results := [.lit (.bool true)], args := [d1, d2, d3] }
  | _ => none }
def rootdAgesRow : OpenClaim := { program := "ytopgidgkpafeeaa", sum := "d47f64d3288953150f50d65616b99f1a5308943295b872c10c5aef7bf4023d7e", func := "analemma/analemmalaw15.RootdAges", spec := "rootdAges", inPlace := ["math.Float64bits", "math.Float64frombits"], unfollowed := true, recurses := true, apart := false }
def RootdAgesSaid : Prop := rootdAgesRow.holds Try.pinned (OpenSpec.ofChange rootdAgesSpec)

/-- ITS FALSE NEIGHBOUR: 'it returns false'. Refute it at one input. -/
def rootdAgesWrong : ChangeSpec := { name := "rootdAges", fn := fun _ => fun
  | [d1, d2, d3] => { results := [.lit (.bool false)], args := [d1, d2, d3] }
  | _ => none }
def RootdAgesWrongFalsely : Prop := rootdAgesRow.holds Try.pinned (OpenSpec.ofChange rootdAgesWrong)

/-- 'analemmalaw15.RootdTells': WHATEVER THE INPUT: true; the input reads as it did. -/
def rootdTellsSpec : ChangeSpec := { name := "rootdTells", fn := fun _ => fun
  | [d1, d2, d3, d4, d5] => { results := [.lit (.bool true)], args := [d1, d2, d3, d4, d5] }
  | _ => none }
def rootdTellsRow : OpenClaim := { program := "ytopgidgkpafeeaa", sum := "d47f64d3288953150f50d65616b99f1a5308943295b872c10c5aef7bf4023d7e", func := "analemma/analemmalaw15.RootdTells", spec := "rootdTells", inPlace := ["math.Float64bits", "math.Float64frombits"], unfollowed := true, recurses := true, apart := false }
def RootdTellsSaid : Prop := rootdTellsRow.holds Try.pinned (OpenSpec.ofChange rootdTellsSpec)

/-- ITS FALSE NEIGHBOUR: 'it returns false'. Refute it at one input. -/
def rootdTellsWrong : ChangeSpec := { name := "rootdTells", fn := fun _ => fun
  | [d1, d2, d3, d4, d5] => { results := [.lit (.bool false)], args := [d1, d2, d3, d4, d5] }
  | _ => none }
def RootdTellsWrongFalsely : Prop := rootdTellsRow.holds Try.pinned (OpenSpec.ofChange rootdTellsWrong)

/-- 'analemmalaw15.RootdSpans': WHATEVER THE INPUT: true; the input reads as it did. -/
def rootdSpansSpec : ChangeSpec := { name := "rootdSpans", fn := fun _ => fun
  | [d1, d2, d3] => { results := [.lit (.bool true)], args := [d1, d2, d3] }
  | _ => none }
def rootdSpansRow : OpenClaim := { program := "ytopgidgkpafeeaa", sum := "d47f64d3288953150f50d65616b99f1a5308943295b872c10c5aef7bf4023d7e", func := "analemma/analemmalaw15.RootdSpans", spec := "rootdSpans", inPlace := ["math.Float64bits", "math.Float64frombits"], unfollowed := true, recurses := true, apart := false }
def RootdSpansSaid : Prop := rootdSpansRow.holds Try.pinned (OpenSpec.ofChange rootdSpansSpec)

/-- ITS FALSE NEIGHBOUR: 'it returns false'. Refute it at one input. -/
def rootdSpansWrong : ChangeSpec := { name := "rootdSpans", fn := fun _ => fun
  | [d1, d2, d3] => { results := [.lit (.bool false)], args := [d1, d2, d3] }
  | _ => none }
def RootdSpansWrongFalsely : Prop := rootdSpansRow.holds Try.pinned (OpenSpec.ofChange rootdSpansWrong)

/-- 'analemmalaw15.RootdSorts': WHATEVER THE INPUT: true; the input reads as it did. -/
def rootdSortsSpec : ChangeSpec := { name := "rootdSorts", fn := fun _ => fun
  | [d1, d2, d3] => { results := [.lit (.bool true)], args := [d1, d2, d3] }
  | _ => none }
def rootdSortsRow : OpenClaim := { program := "ytopgidgkpafeeaa", sum := "d47f64d3288953150f50d65616b99f1a5308943295b872c10c5aef7bf4023d7e", func := "analemma/analemmalaw15.RootdSorts", spec := "rootdSorts", inPlace := ["math.Float64bits", "math.Float64frombits"], unfollowed := true, recurses := true, apart := false }
def RootdSortsSaid : Prop := rootdSortsRow.holds Try.pinned (OpenSpec.ofChange rootdSortsSpec)

/-- ITS FALSE NEIGHBOUR: 'it returns false'. Refute it at one input. -/
def rootdSortsWrong : ChangeSpec := { name := "rootdSorts", fn := fun _ => fun
  | [d1, d2, d3] => { results := [.lit (.bool false)], args := [d1, d2, d3] }
  | _ => none }
def RootdSortsWrongFalsely : Prop := rootdSortsRow.holds Try.pinned (OpenSpec.ofChange rootdSortsWrong)

/-- 'analemmalaw18.CombineWithin': WHATEVER THE INPUT: true; the input reads as it did. -/
def combineWithinSpec : ChangeSpec := { name := "combineWithin", fn := fun _ => fun
  | [d1, d2, d3, d4, d5, d6] => { results := [.lit (.bool true)], args := [d1, d2, d3, d4, d5, d6] }
  | _ => none }
def combineWithinRow : OpenClaim := { program := "ytopgidgkpafeeaa", sum := "d47f64d3288953150f50d65616b99f1a5308943295b872c10c5aef7bf4023d7e", func := "analemma/analemmalaw18.CombineWithin", spec := "combineWithin", unfollowed := true, recurses := true, apart := false }
def CombineWithinSaid : Prop := combineWithinRow.holds Try.pinned (OpenSpec.ofChange combineWithinSpec)

/-- ITS FALSE NEIGHBOUR: 'it returns false'. Refute it at one input. -/
def combineWithinWrong : ChangeSpec := { name := "combineWithin", fn := fun _ => fun
  | [d1, d2, d3, d4, d5, d6] => { results := [.lit (.bool false)], args := [d1, d2, d3, d4, d5, d6] }
  | _ => none }
def CombineWithinWrongFalsely : Prop := combineWithinRow.holds Try.pinned (OpenSpec.ofChange combineWithinWrong)

/-- 'analemmalaw18.CombineNear': WHATEVER THE INPUT: true; the input reads as it did. -/
def combineNearSpec : ChangeSpec := { name := "combineNear", fn := fun _ => fun
  | [d1, d2, d3, d4] => { results := [.lit (.bool true)], args := [d1, d2, d3, d4] }
  | _ => none }
def combineNearRow : OpenClaim := { program := "ytopgidgkpafeeaa", sum := "d47f64d3288953150f50d65616b99f1a5308943295b872c10c5aef7bf4023d7e", func := "analemma/analemmalaw18.CombineNear", spec := "combineNear", unfollowed := true, recurses := true, apart := false }
def CombineNearSaid : Prop := combineNearRow.holds Try.pinned (OpenSpec.ofChange combineNearSpec)

/-- ITS FALSE NEIGHBOUR: 'it returns false'. Refute it at one input. -/
def combineNearWrong : ChangeSpec := { name := "combineNear", fn := fun _ => fun
  | [d1, d2, d3, d4] => { results := [.lit (.bool false)], args := [d1, d2, d3, d4] }
  | _ => none }
def CombineNearWrongFalsely : Prop := combineNearRow.holds Try.pinned (OpenSpec.ofChange combineNearWrong)

/-- 'analemmalaw18.CombineMeans': WHATEVER THE INPUT: true; the input reads as it did. -/
def combineMeansSpec : ChangeSpec := { name := "combineMeans", fn := fun _ => fun
  | [d1, d2, d3, d4, d5] => { results := [.lit (.bool true)], args := [d1, d2, d3, d4, d5] }
  | _ => none }
def combineMeansRow : OpenClaim := { program := "ytopgidgkpafeeaa", sum := "d47f64d3288953150f50d65616b99f1a5308943295b872c10c5aef7bf4023d7e", func := "analemma/analemmalaw18.CombineMeans", spec := "combineMeans", unfollowed := true, recurses := true, apart := false }
def CombineMeansSaid : Prop := combineMeansRow.holds Try.pinned (OpenSpec.ofChange combineMeansSpec)

/-- ITS FALSE NEIGHBOUR: 'it returns false'. Refute it at one input. -/
def combineMeansWrong : ChangeSpec := { name := "combineMeans", fn := fun _ => fun
  | [d1, d2, d3, d4, d5] => { results := [.lit (.bool false)], args := [d1, d2, d3, d4, d5] }
  | _ => none }
def CombineMeansWrongFalsely : Prop := combineMeansRow.holds Try.pinned (OpenSpec.ofChange combineMeansWrong)

/-- 'analemmalaw18.CombineTells': WHATEVER THE INPUT: true; the input reads as it did. -/
def combineTellsSpec : ChangeSpec := { name := "combineTells", fn := fun _ => fun
  | [d1, d2, d3, d4, d5, d6, d7] => { results := [.lit (.bool true)], args := [d1, d2, d3, d4, d5, d6, d7] }
  | _ => none }
def combineTellsRow : OpenClaim := { program := "ytopgidgkpafeeaa", sum := "d47f64d3288953150f50d65616b99f1a5308943295b872c10c5aef7bf4023d7e", func := "analemma/analemmalaw18.CombineTells", spec := "combineTells", unfollowed := true, recurses := true, apart := false }
def CombineTellsSaid : Prop := combineTellsRow.holds Try.pinned (OpenSpec.ofChange combineTellsSpec)

/-- ITS FALSE NEIGHBOUR: 'it returns false'. Refute it at one input. -/
def combineTellsWrong : ChangeSpec := { name := "combineTells", fn := fun _ => fun
  | [d1, d2, d3, d4, d5, d6, d7] => { results := [.lit (.bool false)], args := [d1, d2, d3, d4, d5, d6, d7] }
  | _ => none }
def CombineTellsWrongFalsely : Prop := combineTellsRow.holds Try.pinned (OpenSpec.ofChange combineTellsWrong)

/-- 'analemmalaw18.CombineStays': WHATEVER THE INPUT: true; the input reads as it did. -/
def combineStaysSpec : ChangeSpec := { name := "combineStays", fn := fun _ => fun
  | [d1, d2] => { results := [.lit (.bool true)], args := [d1, d2] }
  | _ => none }
def combineStaysRow : OpenClaim := { program := "ytopgidgkpafeeaa", sum := "d47f64d3288953150f50d65616b99f1a5308943295b872c10c5aef7bf4023d7e", func := "analemma/analemmalaw18.CombineStays", spec := "combineStays", inPlace := ["math.Float64bits", "math.Float64frombits"], unfollowed := true, recurses := true, apart := false }
def CombineStaysSaid : Prop := combineStaysRow.holds Try.pinned (OpenSpec.ofChange combineStaysSpec)

/-- ITS FALSE NEIGHBOUR: 'it returns false'. Refute it at one input. -/
def combineStaysWrong : ChangeSpec := { name := "combineStays", fn := fun _ => fun
  | [d1, d2] => { results := [.lit (.bool false)], args := [d1, d2] }
  | _ => none }
def CombineStaysWrongFalsely : Prop := combineStaysRow.holds Try.pinned (OpenSpec.ofChange combineStaysWrong)

/- THE SECOND FORM. 'bulk': how many values and letters a reading holds, each counted each time it is reached (what is shared counts as often as it is met; a slice's spare places count too). A statement '..UptoSaid' is the law's where the arguments, and the package variables that the reading takes, are together of bulk at most 1048576: NARROWER than '..Said'. Prove '..Said' where nothing that the law and all that it calls make is longer than what came in: it says more and counts as full. Else prove '..UptoSaid'. A law counts once. -/
mutual
def uptoBulk {H : Type} : DataW H → Nat
  | .lit (.string bytes) => bytes.length + 1
  | .lit _ => 1
  | .nil => 1
  | .ptr d => uptoBulk d + 1
  | .slice elems spare => uptoBulkAll elems + uptoBulkAll spare + 1
  | .agg parts => uptoBulkAll parts + 1
  | .iface _ d => uptoBulk d + 1
  | .map entries => uptoBulkEntries entries + 1
  | .held _ => 1
def uptoBulkAll {H : Type} : List (DataW H) → Nat
  | [] => 0
  | d :: r => uptoBulk d + uptoBulkAll r
def uptoBulkEntries {H : Type} : List (Lit × DataW H) → Nat
  | [] => 0
  | x :: r => uptoBulkEntry x + uptoBulkEntries r
def uptoBulkEntry {H : Type} : Lit × DataW H → Nat
  | (.string bytes, d) => bytes.length + uptoBulk d + 1
  | (_, d) => uptoBulk d + 1
 end
def uptoSmall : (H : Type) → List (DataW H) → Bool := fun _ ds => decide (uptoBulkAll ds ≤ 1048576)
def OpenSpec.upto (s : _root_.Go.ChangeSpec) : _root_.Go.OpenSpec := { _root_.Go.OpenSpec.ofChange s with cond := some uptoSmall }

/-- 'analemmalaw13.SampleMakes', WHERE WHAT IT READS IS OF BULK AT MOST 1048576: true; the input reads as it did. -/
def sampleMakesUptoRow : OpenClaim := { program := "ytopgidgkpafeeaa", sum := "d47f64d3288953150f50d65616b99f1a5308943295b872c10c5aef7bf4023d7e", func := "analemma/analemmalaw13.SampleMakes", spec := "sampleMakes", inPlace := ["math.Float64bits", "math.Float64frombits"], unfollowed := true, recurses := true, apart := false, narrowed := true }
def SampleMakesUptoSaid : Prop := sampleMakesUptoRow.holds Try.pinned (OpenSpec.upto sampleMakesSpec)

/-- 'analemmalaw13.SampleAges', WHERE WHAT IT READS IS OF BULK AT MOST 1048576: true; the input reads as it did. -/
def sampleAgesUptoRow : OpenClaim := { program := "ytopgidgkpafeeaa", sum := "d47f64d3288953150f50d65616b99f1a5308943295b872c10c5aef7bf4023d7e", func := "analemma/analemmalaw13.SampleAges", spec := "sampleAges", inPlace := ["math.Float64bits", "math.Float64frombits"], unfollowed := true, recurses := true, apart := false, narrowed := true }
def SampleAgesUptoSaid : Prop := sampleAgesUptoRow.holds Try.pinned (OpenSpec.upto sampleAgesSpec)

/-- 'analemmalaw13.SampleTrue', WHERE WHAT IT READS IS OF BULK AT MOST 1048576: true; the input reads as it did. -/
def sampleTrueUptoRow : OpenClaim := { program := "ytopgidgkpafeeaa", sum := "d47f64d3288953150f50d65616b99f1a5308943295b872c10c5aef7bf4023d7e", func := "analemma/analemmalaw13.SampleTrue", spec := "sampleTrue", inPlace := ["math.Float64bits", "math.Float64frombits"], unfollowed := true, recurses := true, apart := false, narrowed := true }
def SampleTrueUptoSaid : Prop := sampleTrueUptoRow.holds Try.pinned (OpenSpec.upto sampleTrueSpec)

/-- 'analemmalaw13.SampleMoves', WHERE WHAT IT READS IS OF BULK AT MOST 1048576: true; the input reads as it did. -/
def sampleMovesUptoRow : OpenClaim := { program := "ytopgidgkpafeeaa", sum := "d47f64d3288953150f50d65616b99f1a5308943295b872c10c5aef7bf4023d7e", func := "analemma/analemmalaw13.SampleMoves", spec := "sampleMoves", inPlace := ["math.Float64bits", "math.Float64frombits"], unfollowed := true, recurses := true, apart := false, narrowed := true }
def SampleMovesUptoSaid : Prop := sampleMovesUptoRow.holds Try.pinned (OpenSpec.upto sampleMovesSpec)

/-- 'analemmalaw15.RootdFits', WHERE WHAT IT READS IS OF BULK AT MOST 1048576: true; the input reads as it did. -/
def rootdFitsUptoRow : OpenClaim := { program := "ytopgidgkpafeeaa", sum := "d47f64d3288953150f50d65616b99f1a5308943295b872c10c5aef7bf4023d7e", func := "analemma/analemmalaw15.RootdFits", spec := "rootdFits", inPlace := ["math.Float64bits", "math.Float64frombits"], unfollowed := true, recurses := true, apart := false, narrowed := true }
def RootdFitsUptoSaid : Prop := rootdFitsUptoRow.holds Try.pinned (OpenSpec.upto rootdFitsSpec)

/-- 'analemmalaw15.RootdAges', WHERE WHAT IT READS IS OF BULK AT MOST 1048576: true; the input reads as it did. -/
def rootdAgesUptoRow : OpenClaim := { program := "ytopgidgkpafeeaa", sum := "d47f64d3288953150f50d65616b99f1a5308943295b872c10c5aef7bf4023d7e", func := "analemma/analemmalaw15.RootdAges", spec := "rootdAges", inPlace := ["math.Float64bits", "math.Float64frombits"], unfollowed := true, recurses := true, apart := false, narrowed := true }
def RootdAgesUptoSaid : Prop := rootdAgesUptoRow.holds Try.pinned (OpenSpec.upto rootdAgesSpec)

/-- 'analemmalaw15.RootdTells', WHERE WHAT IT READS IS OF BULK AT MOST 1048576: true; the input reads as it did. -/
def rootdTellsUptoRow : OpenClaim := { program := "ytopgidgkpafeeaa", sum := "d47f64d3288953150f50d65616b99f1a5308943295b872c10c5aef7bf4023d7e", func := "analemma/analemmalaw15.RootdTells", spec := "rootdTells", inPlace := ["math.Float64bits", "math.Float64frombits"], unfollowed := true, recurses := true, apart := false, narrowed := true }
def RootdTellsUptoSaid : Prop := rootdTellsUptoRow.holds Try.pinned (OpenSpec.upto rootdTellsSpec)

/-- 'analemmalaw15.RootdSpans', WHERE WHAT IT READS IS OF BULK AT MOST 1048576: true; the input reads as it did. -/
def rootdSpansUptoRow : OpenClaim := { program := "ytopgidgkpafeeaa", sum := "d47f64d3288953150f50d65616b99f1a5308943295b872c10c5aef7bf4023d7e", func := "analemma/analemmalaw15.RootdSpans", spec := "rootdSpans", inPlace := ["math.Float64bits", "math.Float64frombits"], unfollowed := true, recurses := true, apart := false, narrowed := true }
def RootdSpansUptoSaid : Prop := rootdSpansUptoRow.holds Try.pinned (OpenSpec.upto rootdSpansSpec)

/-- 'analemmalaw15.RootdSorts', WHERE WHAT IT READS IS OF BULK AT MOST 1048576: true; the input reads as it did. -/
def rootdSortsUptoRow : OpenClaim := { program := "ytopgidgkpafeeaa", sum := "d47f64d3288953150f50d65616b99f1a5308943295b872c10c5aef7bf4023d7e", func := "analemma/analemmalaw15.RootdSorts", spec := "rootdSorts", inPlace := ["math.Float64bits", "math.Float64frombits"], unfollowed := true, recurses := true, apart := false, narrowed := true }
def RootdSortsUptoSaid : Prop := rootdSortsUptoRow.holds Try.pinned (OpenSpec.upto rootdSortsSpec)

/-- 'analemmalaw18.CombineWithin', WHERE WHAT IT READS IS OF BULK AT MOST 1048576: true; the input reads as it did. -/
def combineWithinUptoRow : OpenClaim := { program := "ytopgidgkpafeeaa", sum := "d47f64d3288953150f50d65616b99f1a5308943295b872c10c5aef7bf4023d7e", func := "analemma/analemmalaw18.CombineWithin", spec := "combineWithin", unfollowed := true, recurses := true, apart := false, narrowed := true }
def CombineWithinUptoSaid : Prop := combineWithinUptoRow.holds Try.pinned (OpenSpec.upto combineWithinSpec)

/-- 'analemmalaw18.CombineNear', WHERE WHAT IT READS IS OF BULK AT MOST 1048576: true; the input reads as it did. -/
def combineNearUptoRow : OpenClaim := { program := "ytopgidgkpafeeaa", sum := "d47f64d3288953150f50d65616b99f1a5308943295b872c10c5aef7bf4023d7e", func := "analemma/analemmalaw18.CombineNear", spec := "combineNear", unfollowed := true, recurses := true, apart := false, narrowed := true }
def CombineNearUptoSaid : Prop := combineNearUptoRow.holds Try.pinned (OpenSpec.upto combineNearSpec)

/-- 'analemmalaw18.CombineMeans', WHERE WHAT IT READS IS OF BULK AT MOST 1048576: true; the input reads as it did. -/
def combineMeansUptoRow : OpenClaim := { program := "ytopgidgkpafeeaa", sum := "d47f64d3288953150f50d65616b99f1a5308943295b872c10c5aef7bf4023d7e", func := "analemma/analemmalaw18.CombineMeans", spec := "combineMeans", unfollowed := true, recurses := true, apart := false, narrowed := true }
def CombineMeansUptoSaid : Prop := combineMeansUptoRow.holds Try.pinned (OpenSpec.upto combineMeansSpec)

/-- 'analemmalaw18.CombineTells', WHERE WHAT IT READS IS OF BULK AT MOST 1048576: true; the input reads as it did. -/
def combineTellsUptoRow : OpenClaim := { program := "ytopgidgkpafeeaa", sum := "d47f64d3288953150f50d65616b99f1a5308943295b872c10c5aef7bf4023d7e", func := "analemma/analemmalaw18.CombineTells", spec := "combineTells", unfollowed := true, recurses := true, apart := false, narrowed := true }
def CombineTellsUptoSaid : Prop := combineTellsUptoRow.holds Try.pinned (OpenSpec.upto combineTellsSpec)

/-- 'analemmalaw18.CombineStays', WHERE WHAT IT READS IS OF BULK AT MOST 1048576: true; the input reads as it did. -/
def combineStaysUptoRow : OpenClaim := { program := "ytopgidgkpafeeaa", sum := "d47f64d3288953150f50d65616b99f1a5308943295b872c10c5aef7bf4023d7e", func := "analemma/analemmalaw18.CombineStays", spec := "combineStays", inPlace := ["math.Float64bits", "math.Float64frombits"], unfollowed := true, recurses := true, apart := false, narrowed := true }
def CombineStaysUptoSaid : Prop := combineStaysUptoRow.holds Try.pinned (OpenSpec.upto combineStaysSpec)

end Rows
end Go.Proofs.Ytopgidgkpafeeaa
