/- Chapter 9: rounds of DriftTurns and DriftCuts, path by path (2). -/
import Derived.Test.YtlbjcbcaaiggdaaT09h
namespace Go.Proofs.Ytlbjcbcaaiggdaa
open Go Go.RowKit Ev
set_option linter.unusedVariables false
set_option linter.unusedSimpArgs false
set_option maxRecDepth 100000

theorem dc_a : (goW 41 2 0 (nextE 41 35) (nE 41)).check Try.prog { cx9 dcP 50 41 2 with pc := [(ordE (.var 76) (nextE 41 35), false), (ordE (.var 76) (.var 74), true), (.var 3, true), (.var 2, true), (.cmp .lss (.var 73) (.var 0), true)] } 2000 6 (0 :: loP) 1 dcH dcL.ex ⟨dcL.tm', dcL.bl'⟩ = true := by kernel_rfl
theorem dc_b : (goW 41 2 1 (nextE 41 33) (nE 41)).check Try.prog { cx9 dcP 50 41 2 with pc := [(ordE (nextE 41 33) (.var 74), true), (ordE (.var 76) (.var 74), false), (.var 3, true), (.var 2, true), (.cmp .lss (.var 73) (.var 0), true)] } 2000 6 (0 :: loP) 1 dcH dcL.ex ⟨dcL.tm', dcL.bl'⟩ = true := by kernel_rfl
theorem dc_s : (RT.stop dcO []).check Try.prog { cx9 dcP 50 41 2 with pc := [(.cmp .lss (.var 73) (.var 0), false)] } 2000 6 (0 :: loP) 1 dcH dcL.ex ⟨dcL.tm', dcL.bl'⟩ = true := by kernel_rfl
end Go.Proofs.Ytlbjcbcaaiggdaa
