/- Law 12: ChecksOrder, what never holds. -/
import Derived.Test.YtmgfnejiienghaaT12
namespace Go.Proofs.Ytmgfnejiienghaa
open Go Go.RowKit Ev
set_option linter.unusedVariables false
set_option linter.unusedSimpArgs false
/-- all ways but those where some condition holds that never does -/
def allTrue (C : BE) : Tree → Bool
  | .dead => false
  | .leaf (.bool (.lit true)) => true
  | .leaf _ => false
  | .node c t e => if c.beq C then allTrue C e else allTrue C t && allTrue C e
theorem allTrue_ok {C : BE} {ρ : Env} (hC : C.den ρ = false) : ∀ {T : Tree}, allTrue C T = true → good ρ T = true
  | .dead, h => by cases h
  | .leaf v, h => by
    unfold allTrue at h
    split at h <;> first | rfl | (cases h; done) | simp_all [good, BE.den]
  | .node c t e, h => by
    simp only [allTrue] at h
    simp only [good]
    split at h
    · rename_i hc
      rw [BE.beq_eq hc, hC]
      exact allTrue_ok hC h
    · simp only [Bool.and_eq_true] at h
      rw [allTrue_ok hC h.1, allTrue_ok hC h.2]
      cases c.den ρ <;> rfl
abbrev ordR : List (Int × Int) := [(0, 255), u64J]
abbrev ordC : BE := .cmp .eql (.mx (.var 1) (.lit 1)) (.ar .add .u64 (.mx (.var 1) (.lit 1)) (.lit 1))
theorem mxI_cases (a b : Int) : (mxI a b = a ∧ b ≤ a) ∨ (mxI a b = b ∧ a ≤ b) := by
  unfold mxI
  by_cases h : b > a
  · rw [if_pos h]; exact .inr ⟨rfl, by omega⟩
  · rw [if_neg h]; exact .inl ⟨rfl, by omega⟩
theorem ordC_no {ρ : Env} (h0 : 0 ≤ ρ.i 1) (h1 : ρ.i 1 ≤ 18446744073709551615) : ordC.den ρ = false := by
  have e : ∀ x : Int, IntKind.u64.wrap x = x % 18446744073709551616 := fun x => by simp [IntKind.wrap, IntKind.bits, IntKind.signed]
  have hm := mxI_cases (ρ.i 1) 1
  show (mxI (ρ.i 1) 1 == IntKind.u64.wrap (mxI (ρ.i 1) 1 + 1)) = false
  rw [e, beq_eq_false_iff_ne]
  omega
end Go.Proofs.Ytmgfnejiienghaa
