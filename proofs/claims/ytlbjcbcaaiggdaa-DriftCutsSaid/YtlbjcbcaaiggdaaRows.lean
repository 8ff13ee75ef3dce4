/-
  No cell of these rows narrows 'for every input' (looked for: loops, veiled, ifaces, maps, wideKeys, modest, calm, conditions, laid).
  DERIVED. THE GIVEN ROWS OF THIS SEAT. 4 by the template 'for every input the law returns true; each argument reads behind the call as it read before'; 0 by the template 'total and deterministic' (their statements: YtlbjcbcaaiggdaaTotals.lean).
  GIVEN WITH THE SEED: the statements are not yours to turn. If you find one false, say at which input.
  Laid BY PROGRAM, IN A SANDBOX (cutbox-rows.mjs): the forced cells as the released guide's own fill.sh prints them over the translation 3714fcfd278dea93… (all of the seat's roots in one cut). By AI agents, Wed Nov 11 2026. No macro, syntax, notation, axiom, sorry.
-/
import Derived.Test.YtlbjcbcaaiggdaaChecked
import GoSem.Claim
import GoSem.ClaimJoined
import GoSem.ClaimMapViews
import Derived.JoinedTies
import Derived.KernelRfl
namespace Go.Proofs.Ytlbjcbcaaiggdaa
/- THE CELL 'sum', in the pinned program and in every row, IS THE sha256 OF THE DUMP (.gsa) THAT YtlbjcbcaaiggdaaProg.lean LOADS. Nothing in Lean hashes anything: it is a label: what it is worth is what the hold of that sum in a sandbox is worth. -/
noncomputable def Try.pinned : Pinned := { name := "ytlbjcbcaaiggdaa", sum := "3714fcfd278dea93c496ed6b92c18b94fe236125a8e9c6df19729d75caf111c3", checked := Try.checked }
namespace Rows
def none {H : Type} : Left H := { results := [], args := [] }

/-- 'analemmalaw09.DriftPacks': WHATEVER THE INPUT: true; the input reads as it did. -/
def driftPacksSpec : ChangeSpec := { name := "driftPacks", fn := fun _ => fun
  | [d1, d2, d3, d4] => { results := [.lit (.bool true)], args := [d1, d2, d3, d4] }
  | _ => none }
def driftPacksRow : OpenClaim := { program := "ytlbjcbcaaiggdaa", sum := "3714fcfd278dea93c496ed6b92c18b94fe236125a8e9c6df19729d75caf111c3", func := "analemma/analemmalaw09.DriftPacks", spec := "driftPacks", unfollowed := true, recurses := true, apart := false }
def DriftPacksSaid : Prop := driftPacksRow.holds Try.pinned (OpenSpec.ofChange driftPacksSpec)

/-- ITS FALSE NEIGHBOUR: 'it returns false'. Refute it at one input. -/
def driftPacksWrong : ChangeSpec := { name := "driftPacks", fn := fun _ => fun
  | [d1, d2, d3, d4] => { results := [.lit (.bool false)], args := [d1, d2, d3, d4] }
  | _ => none }
def DriftPacksWrongFalsely : Prop := driftPacksRow.holds Try.pinned (OpenSpec.ofChange driftPacksWrong)

/-- 'analemmalaw09.DriftSpoilt': WHATEVER THE INPUT: true; the input reads as it did. -/
def driftSpoiltSpec : ChangeSpec := { name := "driftSpoilt", fn := fun _ => fun
  | [d1, d2, d3, d4] => { results := [.lit (.bool true)], args := [d1, d2, d3, d4] }
  | _ => none }
def driftSpoiltRow : OpenClaim := { program := "ytlbjcbcaaiggdaa", sum := "3714fcfd278dea93c496ed6b92c18b94fe236125a8e9c6df19729d75caf111c3", func := "analemma/analemmalaw09.DriftSpoilt", spec := "driftSpoilt", unfollowed := true, recurses := true, apart := false }
def DriftSpoiltSaid : Prop := driftSpoiltRow.holds Try.pinned (OpenSpec.ofChange driftSpoiltSpec)

/-- ITS FALSE NEIGHBOUR: 'it returns false'. Refute it at one input. -/
def driftSpoiltWrong : ChangeSpec := { name := "driftSpoilt", fn := fun _ => fun
  | [d1, d2, d3, d4] => { results := [.lit (.bool false)], args := [d1, d2, d3, d4] }
  | _ => none }
def DriftSpoiltWrongFalsely : Prop := driftSpoiltRow.holds Try.pinned (OpenSpec.ofChange driftSpoiltWrong)

/-- 'analemmalaw09.DriftTurns': WHATEVER THE INPUT: true; the input reads as it did. -/
def driftTurnsSpec : ChangeSpec := { name := "driftTurns", fn := fun _ => fun
  | [d1, d2] => { results := [.lit (.bool true)], args := [d1, d2] }
  | _ => none }
def driftTurnsRow : OpenClaim := { program := "ytlbjcbcaaiggdaa", sum := "3714fcfd278dea93c496ed6b92c18b94fe236125a8e9c6df19729d75caf111c3", func := "analemma/analemmalaw09.DriftTurns", spec := "driftTurns", unfollowed := true, recurses := true, apart := false }
def DriftTurnsSaid : Prop := driftTurnsRow.holds Try.pinned (OpenSpec.ofChange driftTurnsSpec)

/-- ITS FALSE NEIGHBOUR: 'it returns false'. Refute it at one input. -/
def driftTurnsWrong : ChangeSpec := { name := "driftTurns", fn := fun _ => fun
  | [d1, d2] => { results := [.lit (.bool false)], args := [d1, d2] }
  | _ => none }
def DriftTurnsWrongFalsely : Prop := driftTurnsRow.holds Try.pinned (OpenSpec.ofChange driftTurnsWrong)

/-- 'analemmalaw09.DriftCuts': WHATEVER THE INPUT: true; the input reads as it did. -/
def driftCutsSpec : ChangeSpec := { name := "driftCuts", fn := fun _ => fun
  | [d1, d2, d3, d4] => { results := [.lit (.bool true)], args := [d1, d2, d3, d4] }
  | _ => none }
def driftCutsRow : OpenClaim := { program := "ytlbjcbcaaiggdaa", sum := "3714fcfd278dea93c496ed6b92c18b94fe236125a8e9c6df19729d75caf111c3", func := "analemma/analemmalaw09.DriftCuts", spec := "driftCuts", unfollowed := true, recurses := true, apart := false }
def DriftCutsSaid : Prop := driftCutsRow.holds Try.pinned (OpenSpec.ofChange driftCutsSpec)

/-- ITS FALSE NEIGHBOUR: 'it returns false'. Refute it at one input. -/
def driftCutsWrong : ChangeSpec := { name := "driftCuts", fn := fun _ => fun
  | [d1, d2, d3, d4] => { results := [.lit (.bool false)], args := [d1, d2, d3, d4] }
  | _ => none }
def DriftCutsWrongFalsely : Prop := driftCutsRow.holds Try.pinned (OpenSpec.ofChange driftCutsWrong)

/- THE SECOND FORM. 'bulk': how many values and letters a reading holds, each counted each time it is reached (what is shared counts as often as it is met; a slice's spare places count too). A statement '..UptoSaid' is the law's where the arguments, and the package variables that the reading takes, are together of bulk at most 1048576: NARROWER than '..Said'. Prove '..Said' where nothing that the law and all that it calls make is longer than what came in: it says more and counts as full. Else prove '..UptoSaid'. A law counts once. -/
mutual
def uptoBulk {H : Type} : DataW H → Nat
  | .lit (.string bytes) => bytes.length + 1
  | .lit _ => 1
  | .nil => 1
  | .ptr d => uptoBulk d + 1
  | .slice elems spare => uptoBulkAll elems + uptoBulkAll spare + 1
  | .agg parts => uptoBulkAll parts + 1
  | .iface _ d => uptoBulk d + 1
  | .map entries => uptoBulkEntries entries + 1
  | .held _ => 1
def uptoBulkAll {H : Type} : List (DataW H) → Nat
  | [] => 0
  | d :: r => uptoBulk d + uptoBulkAll r
def uptoBulkEntries {H : Type} : List (Lit × DataW H) → Nat
  | [] => 0
  | x :: r => uptoBulkEntry x + uptoBulkEntries r
def uptoBulkEntry {H : Type} : Lit × DataW H → Nat
  | (.string bytes, d) => bytes.length + uptoBulk d + 1
  | (_, d) => uptoBulk d + 1
 end
def uptoSmall : (H : Type) → List (DataW H) → Bool := fun _ ds => decide (uptoBulkAll ds ≤ 1048576)
def OpenSpec.upto (s : _root_.Go.ChangeSpec) : _root_.Go.OpenSpec := { _root_.Go.OpenSpec.ofChange s with cond := some uptoSmall }

/-- 'analemmalaw09.DriftPacks', WHERE WHAT IT READS IS OF BULK AT MOST 1048576: true; the input reads as it did. -/
def driftPacksUptoRow : OpenClaim := { program := "ytlbjcbcaaiggdaa", sum := "3714fcfd278dea93c496ed6b92c18b94fe236125a8e9c6df19729d75caf111c3", func := "analemma/analemmalaw09.DriftPacks", spec := "driftPacks", unfollowed := true, recurses := true, apart := false, narrowed := true }
def DriftPacksUptoSaid : Prop := driftPacksUptoRow.holds Try.pinned (OpenSpec.upto driftPacksSpec)

/-- 'analemmalaw09.DriftSpoilt', WHERE WHAT IT READS IS OF BULK AT MOST 1048576: true; the input reads as it did. -/
def driftSpoiltUptoRow : OpenClaim := { program := "ytlbjcbcaaiggdaa", sum := "3714fcfd278dea93c496ed6b92c18b94fe236125a8e9c6df19729d75caf111c3", func := "analemma/analemmalaw09.DriftSpoilt", spec := "driftSpoilt", unfollowed := true, recurses := true, apart := false, narrowed := true }
def DriftSpoiltUptoSaid : Prop := driftSpoiltUptoRow.holds Try.pinned (OpenSpec.upto driftSpoiltSpec)

/-- 'analemmalaw09.DriftTurns', WHERE WHAT IT READS IS OF BULK AT MOST 1048576: true; the input reads as it did. -/
def driftTurnsUptoRow : OpenClaim := { program := "ytlbjcbcaaiggdaa", sum := "3714fcfd278dea93c496ed6b92c18b94fe236125a8e9c6df19729d75caf111c3", func := "analemma/analemmalaw09.DriftTurns", spec := "driftTurns", unfollowed := true, recurses := true, apart := false, narrowed := true }
def DriftTurnsUptoSaid : Prop := driftTurnsUptoRow.holds Try.pinned (OpenSpec.upto driftTurnsSpec)

/-- 'analemmalaw09.DriftCuts', WHERE WHAT IT READS IS OF BULK AT MOST 1048576: true; the input reads as it did. -/
def driftCutsUptoRow : OpenClaim := { program := "ytlbjcbcaaiggdaa", sum := "3714fcfd278dea93c496ed6b92c18b94fe236125a8e9c6df19729d75caf111c3", func := "analemma/analemmalaw09.DriftCuts", spec := "driftCuts", unfollowed := true, recurses := true, apart := false, narrowed := true }
def DriftCutsUptoSaid : Prop := driftCutsUptoRow.holds Try.pinned (OpenSpec.upto driftCutsSpec)

end Rows
end Go.Proofs.Ytlbjcbcaaiggdaa
