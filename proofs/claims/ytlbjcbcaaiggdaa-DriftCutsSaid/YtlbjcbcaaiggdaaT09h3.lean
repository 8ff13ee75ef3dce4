/- Chapter 9: rounds of DriftTurns and DriftCuts, path by path (3). -/
import Derived.Test.YtlbjcbcaaiggdaaT09h
namespace Go.Proofs.Ytlbjcbcaaiggdaa
open Go Go.RowKit Ev
set_option linter.unusedVariables false
set_option linter.unusedSimpArgs false
set_option maxRecDepth 100000

theorem dc_c : (goW 41 2 1 (nextE 41 33) (nE 41)).check Try.prog { cx9 dcP 50 41 2 with pc := [(ordE (nextE 41 33) (.var 74), true), (.var 3, false), (.var 2, true), (.cmp .lss (.var 73) (.var 0), true)] } 2000 6 (0 :: loP) 1 dcH dcL.ex ⟨dcL.tm', dcL.bl'⟩ = true := by kernel_rfl
theorem dc_d : (goW 41 2 0 (nextE 41 35) (nE 41)).check Try.prog { cx9 dcP 50 41 2 with pc := [(ordE (.var 76) (nextE 41 35), false), (.var 3, true), (.var 2, false), (.cmp .lss (.var 73) (.var 0), true)] } 2000 6 (0 :: loP) 1 dcH dcL.ex ⟨dcL.tm', dcL.bl'⟩ = true := by kernel_rfl
theorem dc_e : (goW 41 2 0 (.lit 1) (nE 41)).check Try.prog { cx9 dcP 50 41 2 with pc := [(.var 3, false), (.var 2, false), (.cmp .lss (.var 73) (.var 0), true)] } 2000 6 (0 :: loP) 1 dcH dcL.ex ⟨dcL.tm', dcL.bl'⟩ = true := by kernel_rfl
end Go.Proofs.Ytlbjcbcaaiggdaa
