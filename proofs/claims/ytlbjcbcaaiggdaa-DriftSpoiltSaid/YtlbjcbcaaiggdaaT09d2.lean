/- Chapter 9: DriftSpoilt, path by path (2). -/
import Derived.Test.YtlbjcbcaaiggdaaT09d
namespace Go.Proofs.Ytlbjcbcaaiggdaa
open Go Go.RowKit Ev
set_option linter.unusedVariables false
set_option linter.unusedSimpArgs false
set_option maxRecDepth 100000

theorem spoil_p16 : runFn Try.prog { pc := [(.cmp .eql (.var 4) (.lit 16), true), (.cmp .eql (.var 3) (.lit 0), false), (.var 0, false)], cr := shC, rg := rgQ, ar := arD0, ct := conCt rgQ arD0 [packCon], nm := nmQ, nb := nbQ } 2000 4 spArgs = .ok (spL 16) := by kernel_rfl
theorem spoil_p17 : runFn Try.prog { pc := [(.cmp .eql (.var 4) (.lit 17), true), (.cmp .eql (.var 3) (.lit 0), false), (.var 0, false)], cr := shC, rg := rgQ, ar := arD0, ct := conCt rgQ arD0 [packCon], nm := nmQ, nb := nbQ } 2000 4 spArgs = .ok (spL 17) := by kernel_rfl
theorem spoil_p18 : runFn Try.prog { pc := [(.cmp .eql (.var 4) (.lit 18), true), (.cmp .eql (.var 3) (.lit 0), false), (.var 0, false)], cr := shC, rg := rgQ, ar := arD0, ct := conCt rgQ arD0 [packCon], nm := nmQ, nb := nbQ } 2000 4 spArgs = .ok (spL 18) := by kernel_rfl
theorem spoil_p19 : runFn Try.prog { pc := [(.cmp .eql (.var 4) (.lit 19), true), (.cmp .eql (.var 3) (.lit 0), false), (.var 0, false)], cr := shC, rg := rgQ, ar := arD0, ct := conCt rgQ arD0 [packCon], nm := nmQ, nb := nbQ } 2000 4 spArgs = .ok (spL 19) := by kernel_rfl
theorem spoil_p20 : runFn Try.prog { pc := [(.cmp .eql (.var 4) (.lit 20), true), (.cmp .eql (.var 3) (.lit 0), false), (.var 0, false)], cr := shC, rg := rgQ, ar := arD0, ct := conCt rgQ arD0 [packCon], nm := nmQ, nb := nbQ } 2000 4 spArgs = .ok (spL 20) := by kernel_rfl
theorem spoil_p21 : runFn Try.prog { pc := [(.cmp .eql (.var 4) (.lit 21), true), (.cmp .eql (.var 3) (.lit 0), false), (.var 0, false)], cr := shC, rg := rgQ, ar := arD0, ct := conCt rgQ arD0 [packCon], nm := nmQ, nb := nbQ } 2000 4 spArgs = .ok (spL 21) := by kernel_rfl
theorem spoil_p22 : runFn Try.prog { pc := [(.cmp .eql (.var 4) (.lit 22), true), (.cmp .eql (.var 3) (.lit 0), false), (.var 0, false)], cr := shC, rg := rgQ, ar := arD0, ct := conCt rgQ arD0 [packCon], nm := nmQ, nb := nbQ } 2000 4 spArgs = .ok (spL 22) := by kernel_rfl
theorem spoil_p23 : runFn Try.prog { pc := [(.cmp .eql (.var 4) (.lit 23), true), (.cmp .eql (.var 3) (.lit 0), false), (.var 0, false)], cr := shC, rg := rgQ, ar := arD0, ct := conCt rgQ arD0 [packCon], nm := nmQ, nb := nbQ } 2000 4 spArgs = .ok (spL 23) := by kernel_rfl
end Go.Proofs.Ytlbjcbcaaiggdaa
