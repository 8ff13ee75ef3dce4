/- Chapter 9: DriftSpoilt, path by path (3). -/
import Derived.Test.YtlbjcbcaaiggdaaT09d
namespace Go.Proofs.Ytlbjcbcaaiggdaa
open Go Go.RowKit Ev
set_option linter.unusedVariables false
set_option linter.unusedSimpArgs false
set_option maxRecDepth 100000

theorem spoil_p24 : runFn Try.prog { pc := [(.cmp .eql (.var 4) (.lit 24), true), (.cmp .eql (.var 3) (.lit 0), false), (.var 0, false)], cr := shC, rg := rgQ, ar := arD0, ct := conCt rgQ arD0 [packCon], nm := nmQ, nb := nbQ } 2000 4 spArgs = .ok (spL 24) := by kernel_rfl
theorem spoil_p25 : runFn Try.prog { pc := [(.cmp .eql (.var 4) (.lit 25), true), (.cmp .eql (.var 3) (.lit 0), false), (.var 0, false)], cr := shC, rg := rgQ, ar := arD0, ct := conCt rgQ arD0 [packCon], nm := nmQ, nb := nbQ } 2000 4 spArgs = .ok (spL 25) := by kernel_rfl
theorem spoil_p26 : runFn Try.prog { pc := [(.cmp .eql (.var 4) (.lit 26), true), (.cmp .eql (.var 3) (.lit 0), false), (.var 0, false)], cr := shC, rg := rgQ, ar := arD0, ct := conCt rgQ arD0 [packCon], nm := nmQ, nb := nbQ } 2000 4 spArgs = .ok (spL 26) := by kernel_rfl
theorem spoil_p27 : runFn Try.prog { pc := [(.cmp .eql (.var 4) (.lit 27), true), (.cmp .eql (.var 3) (.lit 0), false), (.var 0, false)], cr := shC, rg := rgQ, ar := arD0, ct := conCt rgQ arD0 [packCon], nm := nmQ, nb := nbQ } 2000 4 spArgs = .ok (spL 27) := by kernel_rfl
theorem spoil_p28 : runFn Try.prog { pc := [(.cmp .eql (.var 4) (.lit 28), true), (.cmp .eql (.var 3) (.lit 0), false), (.var 0, false)], cr := shC, rg := rgQ, ar := arD0, ct := conCt rgQ arD0 [packCon], nm := nmQ, nb := nbQ } 2000 4 spArgs = .ok (spL 28) := by kernel_rfl
theorem spoil_p29 : runFn Try.prog { pc := [(.cmp .eql (.var 4) (.lit 29), true), (.cmp .eql (.var 3) (.lit 0), false), (.var 0, false)], cr := shC, rg := rgQ, ar := arD0, ct := conCt rgQ arD0 [packCon], nm := nmQ, nb := nbQ } 2000 4 spArgs = .ok (spL 29) := by kernel_rfl
theorem spoil_p30 : runFn Try.prog { pc := [(.cmp .eql (.var 4) (.lit 30), true), (.cmp .eql (.var 3) (.lit 0), false), (.var 0, false)], cr := shC, rg := rgQ, ar := arD0, ct := conCt rgQ arD0 [packCon], nm := nmQ, nb := nbQ } 2000 4 spArgs = .ok (spL 30) := by kernel_rfl
theorem spoil_p31 : runFn Try.prog { pc := [(.cmp .eql (.var 4) (.lit 31), true), (.cmp .eql (.var 3) (.lit 0), false), (.var 0, false)], cr := shC, rg := rgQ, ar := arD0, ct := conCt rgQ arD0 [packCon], nm := nmQ, nb := nbQ } 2000 4 spArgs = .ok (spL 31) := by kernel_rfl
end Go.Proofs.Ytlbjcbcaaiggdaa
