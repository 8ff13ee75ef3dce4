/- Chapter 9: DriftSpoilt, path by path (1). -/
import Derived.Test.YtlbjcbcaaiggdaaT09d
namespace Go.Proofs.Ytlbjcbcaaiggdaa
open Go Go.RowKit Ev
set_option linter.unusedVariables false
set_option linter.unusedSimpArgs false
set_option maxRecDepth 100000

theorem spoil_p8 : runFn Try.prog { pc := [(.cmp .eql (.var 4) (.lit 8), true), (.cmp .eql (.var 3) (.lit 0), false), (.var 0, false)], cr := shC, rg := rgQ, ar := arD0, ct := conCt rgQ arD0 [packCon], nm := nmQ, nb := nbQ } 2000 4 spArgs = .ok (spL 8) := by kernel_rfl
theorem spoil_p9 : runFn Try.prog { pc := [(.cmp .eql (.var 4) (.lit 9), true), (.cmp .eql (.var 3) (.lit 0), false), (.var 0, false)], cr := shC, rg := rgQ, ar := arD0, ct := conCt rgQ arD0 [packCon], nm := nmQ, nb := nbQ } 2000 4 spArgs = .ok (spL 9) := by kernel_rfl
theorem spoil_p10 : runFn Try.prog { pc := [(.cmp .eql (.var 4) (.lit 10), true), (.cmp .eql (.var 3) (.lit 0), false), (.var 0, false)], cr := shC, rg := rgQ, ar := arD0, ct := conCt rgQ arD0 [packCon], nm := nmQ, nb := nbQ } 2000 4 spArgs = .ok (spL 10) := by kernel_rfl
theorem spoil_p11 : runFn Try.prog { pc := [(.cmp .eql (.var 4) (.lit 11), true), (.cmp .eql (.var 3) (.lit 0), false), (.var 0, false)], cr := shC, rg := rgQ, ar := arD0, ct := conCt rgQ arD0 [packCon], nm := nmQ, nb := nbQ } 2000 4 spArgs = .ok (spL 11) := by kernel_rfl
theorem spoil_p12 : runFn Try.prog { pc := [(.cmp .eql (.var 4) (.lit 12), true), (.cmp .eql (.var 3) (.lit 0), false), (.var 0, false)], cr := shC, rg := rgQ, ar := arD0, ct := conCt rgQ arD0 [packCon], nm := nmQ, nb := nbQ } 2000 4 spArgs = .ok (spL 12) := by kernel_rfl
theorem spoil_p13 : runFn Try.prog { pc := [(.cmp .eql (.var 4) (.lit 13), true), (.cmp .eql (.var 3) (.lit 0), false), (.var 0, false)], cr := shC, rg := rgQ, ar := arD0, ct := conCt rgQ arD0 [packCon], nm := nmQ, nb := nbQ } 2000 4 spArgs = .ok (spL 13) := by kernel_rfl
theorem spoil_p14 : runFn Try.prog { pc := [(.cmp .eql (.var 4) (.lit 14), true), (.cmp .eql (.var 3) (.lit 0), false), (.var 0, false)], cr := shC, rg := rgQ, ar := arD0, ct := conCt rgQ arD0 [packCon], nm := nmQ, nb := nbQ } 2000 4 spArgs = .ok (spL 14) := by kernel_rfl
theorem spoil_p15 : runFn Try.prog { pc := [(.cmp .eql (.var 4) (.lit 15), true), (.cmp .eql (.var 3) (.lit 0), false), (.var 0, false)], cr := shC, rg := rgQ, ar := arD0, ct := conCt rgQ arD0 [packCon], nm := nmQ, nb := nbQ } 2000 4 spArgs = .ok (spL 15) := by kernel_rfl
end Go.Proofs.Ytlbjcbcaaiggdaa
