/- Chapter 9: DriftSpoilt, path by path (0). -/
import Derived.Test.YtlbjcbcaaiggdaaT09d
namespace Go.Proofs.Ytlbjcbcaaiggdaa
open Go Go.RowKit Ev
set_option linter.unusedVariables false
set_option linter.unusedSimpArgs false
set_option maxRecDepth 100000

theorem spoil_n : runFn Try.prog { pc := [(.cmp .eql (.var 3) (.lit 0), true)], cr := shC, rg := rgQ, ar := arD0, ct := conCt rgQ arD0 [packCon], nm := nmQ } 2000 4 spArgs = .ok (.bool (.lit true)) := by kernel_rfl
theorem spoil_p0 : runFn Try.prog { pc := [(.cmp .eql (.var 4) (.lit 0), true), (.cmp .eql (.var 3) (.lit 0), false), (.var 0, false)], cr := shC, rg := rgQ, ar := arD0, ct := conCt rgQ arD0 [packCon], nm := nmQ, nb := nbQ } 2000 4 spArgs = .ok (spL 0) := by kernel_rfl
theorem spoil_p1 : runFn Try.prog { pc := [(.cmp .eql (.var 4) (.lit 1), true), (.cmp .eql (.var 3) (.lit 0), false), (.var 0, false)], cr := shC, rg := rgQ, ar := arD0, ct := conCt rgQ arD0 [packCon], nm := nmQ, nb := nbQ } 2000 4 spArgs = .ok (spL 1) := by kernel_rfl
theorem spoil_p2 : runFn Try.prog { pc := [(.cmp .eql (.var 4) (.lit 2), true), (.cmp .eql (.var 3) (.lit 0), false), (.var 0, false)], cr := shC, rg := rgQ, ar := arD0, ct := conCt rgQ arD0 [packCon], nm := nmQ, nb := nbQ } 2000 4 spArgs = .ok (spL 2) := by kernel_rfl
theorem spoil_p3 : runFn Try.prog { pc := [(.cmp .eql (.var 4) (.lit 3), true), (.cmp .eql (.var 3) (.lit 0), false), (.var 0, false)], cr := shC, rg := rgQ, ar := arD0, ct := conCt rgQ arD0 [packCon], nm := nmQ, nb := nbQ } 2000 4 spArgs = .ok (spL 3) := by kernel_rfl
theorem spoil_p4 : runFn Try.prog { pc := [(.cmp .eql (.var 4) (.lit 4), true), (.cmp .eql (.var 3) (.lit 0), false), (.var 0, false)], cr := shC, rg := rgQ, ar := arD0, ct := conCt rgQ arD0 [packCon], nm := nmQ, nb := nbQ } 2000 4 spArgs = .ok (spL 4) := by kernel_rfl
theorem spoil_p5 : runFn Try.prog { pc := [(.cmp .eql (.var 4) (.lit 5), true), (.cmp .eql (.var 3) (.lit 0), false), (.var 0, false)], cr := shC, rg := rgQ, ar := arD0, ct := conCt rgQ arD0 [packCon], nm := nmQ, nb := nbQ } 2000 4 spArgs = .ok (spL 5) := by kernel_rfl
theorem spoil_p6 : runFn Try.prog { pc := [(.cmp .eql (.var 4) (.lit 6), true), (.cmp .eql (.var 3) (.lit 0), false), (.var 0, false)], cr := shC, rg := rgQ, ar := arD0, ct := conCt rgQ arD0 [packCon], nm := nmQ, nb := nbQ } 2000 4 spArgs = .ok (spL 6) := by kernel_rfl
theorem spoil_p7 : runFn Try.prog { pc := [(.cmp .eql (.var 4) (.lit 7), true), (.cmp .eql (.var 3) (.lit 0), false), (.var 0, false)], cr := shC, rg := rgQ, ar := arD0, ct := conCt rgQ arD0 [packCon], nm := nmQ, nb := nbQ } 2000 4 spArgs = .ok (spL 7) := by kernel_rfl
end Go.Proofs.Ytlbjcbcaaiggdaa
