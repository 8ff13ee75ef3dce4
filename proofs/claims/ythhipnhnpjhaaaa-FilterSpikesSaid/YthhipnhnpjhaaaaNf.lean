/- Contracts of wide's root and quotient, as the evaluator takes them. -/
import Derived.Test.YthhipnhnpjhaaaaNq
namespace Go.Proofs.Ythhipnhnpjhaaaa
open Go Go.RowKit Ev
set_option linter.unusedVariables false

noncomputable def wdivCon : Con := ⟨65, [.u64, .u64, .u64], fun es => match es with | [a, b, c] => .tuple [.int .u64 (mkAp 5 a b c), .int .u64 (mkAp 6 a b c), .bool (mkCmp .lss a c)] | _ => .any⟩
theorem wdivCon_ok {ρ : Env} (ha : NumA ρ) : wdivCon.holds Try.prog ρ := by
  intro es hi φ w
  match es, hi with
  | [e, d, g], hi =>
    obtain ⟨h0, h1, h2, _⟩ := hi
    refine (wdiv_any (e.den ρ) (d.den ρ) (g.den ρ) h0 h1 h2 w).mono ?_
    rintro e' w' ⟨rfl, hb⟩
    refine ⟨?_, hb⟩
    simp only [wdivCon, SV.den, SV.denL, mkAp_den ha (show 5 < 20 by decide), mkAp_den ha (show 6 < 20 by decide), mkCmp_den]
    rfl
noncomputable def wsqrtCon : Con := ⟨63, [.u64, .u64], fun es => match es with | [a, b] => .int .u64 (mkAp 7 a b (.lit 0)) | _ => .any⟩
theorem wsqrtCon_ok {ρ : Env} (ha : NumA ρ) : wsqrtCon.holds Try.prog ρ := by
  intro es hi φ w
  match es, hi with
  | [e, d], hi =>
    obtain ⟨h0, h1, _⟩ := hi
    refine (wsqrt_any (e.den ρ) (d.den ρ) h0 h1 w).mono ?_
    rintro e' w' ⟨rfl, hb⟩
    refine ⟨?_, hb⟩
    simp only [wsqrtCon, SV.den, mkAp_den ha (show 7 < 20 by decide)]
    rfl
end Go.Proofs.Ythhipnhnpjhaaaa
