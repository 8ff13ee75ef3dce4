/- Chapter 9: rounds of DriftTurns and DriftCuts, path by path (0). -/
import Derived.Test.YtlbjcbcaaiggdaaT09h
namespace Go.Proofs.Ytlbjcbcaaiggdaa
open Go Go.RowKit Ev
set_option linter.unusedVariables false
set_option linter.unusedSimpArgs false
set_option maxRecDepth 100000

theorem dt_a : (goW 34 0 0 (nextE 34 35) (nE 34)).check Try.prog { cx9 dtP 60 34 0 with pc := [(ordE (.var 69) (.var 67), true), (.var 1, true), (.var 0, true), (.cmp .lss (.var 66) (.var 0), true)] } 2000 5 (0 :: loP) 1 dtH dtL.ex ⟨dtL.tm', dtL.bl'⟩ = true := by kernel_rfl
theorem dt_b : (goW 34 0 1 (nextE 34 33) (nE 34)).check Try.prog { cx9 dtP 60 34 0 with pc := [(.cmp .eql (nextE 34 33) (.var 69), false), (ordE (.var 69) (.var 67), false), (.var 1, true), (.var 0, true), (.cmp .lss (.var 66) (.var 0), true)] } 2000 5 (0 :: loP) 1 dtH dtL.ex ⟨dtL.tm', dtL.bl'⟩ = true := by kernel_rfl
theorem dt_s : (RT.stop dtO []).check Try.prog { cx9 dtP 60 34 0 with pc := [(.cmp .lss (.var 66) (.var 0), false)] } 2000 5 (0 :: loP) 1 dtH dtL.ex ⟨dtL.tm', dtL.bl'⟩ = true := by kernel_rfl
end Go.Proofs.Ytlbjcbcaaiggdaa
