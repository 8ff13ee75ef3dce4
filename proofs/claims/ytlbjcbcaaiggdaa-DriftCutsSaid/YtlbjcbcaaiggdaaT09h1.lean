/- Chapter 9: rounds of DriftTurns and DriftCuts, path by path (1). -/
import Derived.Test.YtlbjcbcaaiggdaaT09h
namespace Go.Proofs.Ytlbjcbcaaiggdaa
open Go Go.RowKit Ev
set_option linter.unusedVariables false
set_option linter.unusedSimpArgs false
set_option maxRecDepth 100000

theorem dt_c : (goW 34 0 1 (nextE 34 33) (nE 34)).check Try.prog { cx9 dtP 60 34 0 with pc := [(.var 1, false), (.var 0, true), (.cmp .lss (.var 66) (.var 0), true)] } 2000 5 (0 :: loP) 1 dtH dtL.ex ⟨dtL.tm', dtL.bl'⟩ = true := by kernel_rfl
theorem dt_d : (goW 34 0 0 (nextE 34 35) (nE 34)).check Try.prog { cx9 dtP 60 34 0 with pc := [(.var 1, true), (.var 0, false), (.cmp .lss (.var 66) (.var 0), true)] } 2000 5 (0 :: loP) 1 dtH dtL.ex ⟨dtL.tm', dtL.bl'⟩ = true := by kernel_rfl
theorem dt_e : (goW 34 0 0 (.lit 1) (nE 34)).check Try.prog { cx9 dtP 60 34 0 with pc := [(.var 1, false), (.var 0, false), (.cmp .lss (.var 66) (.var 0), true)] } 2000 5 (0 :: loP) 1 dtH dtL.ex ⟨dtL.tm', dtL.bl'⟩ = true := by kernel_rfl
end Go.Proofs.Ytlbjcbcaaiggdaa
