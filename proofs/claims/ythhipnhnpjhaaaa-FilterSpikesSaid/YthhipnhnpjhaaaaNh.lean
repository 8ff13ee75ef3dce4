/- The contracts of numbers, all together. -/
import Derived.Test.YthhipnhnpjhaaaaNe
import Derived.Test.YthhipnhnpjhaaaaNg
namespace Go.Proofs.Ythhipnhnpjhaaaa
open Go Go.RowKit Ev
set_option linter.unusedVariables false

noncomputable abbrev divCon : Con := con2 47 8
theorem divCon_ok {ρ : Env} (ha : NumA ρ) : divCon.holds Try.prog ρ := con2_ok ha (by decide) fun a b h k w => fdiv_any a b h k w
noncomputable abbrev sqrtCon : Con := con1 44 9
theorem sqrtCon_ok {ρ : Env} (ha : NumA ρ) : sqrtCon.holds Try.prog ρ := con1_ok ha (by decide) fun a h w => fsqrt_any a h w
noncomputable abbrev clampCon : Con := con3 57 10
theorem clampCon_ok {ρ : Env} (ha : NumA ρ) : clampCon.holds Try.prog ρ := con3_ok ha (by decide) fun a b c h k l w => clamp_any a b c h k l w
noncomputable abbrev absCon : Con := con1 31 11
theorem absCon_ok {ρ : Env} (ha : NumA ρ) : absCon.holds Try.prog ρ := con1_ok ha (by decide) fun a h w => fxabs_any a h w
/-- the contracts -/
noncomputable def consN : List Con := [
  addCon,
  shiftCon,
  subCon,
  mulCon,
  divCon,
  sqrtCon,
  clampCon,
  absCon,
  wdivCon,
  logCon]
theorem consN_ok {ρ : Env} (ha : NumA ρ) : ∀ c ∈ consN, c.holds Try.prog ρ := by
  unfold consN
  repeat' (first
    | exact List.forall_mem_nil _
    | exact logCon_ok ha
    | exact addCon_ok ha
    | exact shiftCon_ok ha
    | exact subCon_ok ha
    | exact mulCon_ok ha
    | exact divCon_ok ha
    | exact sqrtCon_ok ha
    | exact clampCon_ok ha
    | exact absCon_ok ha
    | exact wdivCon_ok ha
    | refine List.forall_mem_cons.2 ⟨?_, ?_⟩)
end Go.Proofs.Ythhipnhnpjhaaaa
