/- The contracts of numbers, all together. -/
import Derived.Test.YtmgfnejiienghaaNe
namespace Go.Proofs.Ytmgfnejiienghaa
open Go Go.RowKit Ev
set_option linter.unusedVariables false

/-- the contracts -/
noncomputable def consN : List Con := [
  addCon,
  shiftCon,
  mulCon,
  addCon2,
  logCon]
theorem consN_ok {ρ : Env} (ha : NumA ρ) : ∀ c ∈ consN, c.holds Try.prog ρ := by
  unfold consN
  repeat' (first
    | exact List.forall_mem_nil _
    | exact logCon_ok ha
    | exact addCon_ok ha
    | exact shiftCon_ok ha
    | exact mulCon_ok ha
    | exact addCon2_ok ha
    | refine List.forall_mem_cons.2 ⟨?_, ?_⟩)
end Go.Proofs.Ytmgfnejiienghaa
