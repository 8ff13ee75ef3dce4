/- Chapter 9: DriftCuts, path by path (2). -/
import Derived.Test.YtlbjcbcaaiggdaaT09k
namespace Go.Proofs.Ytlbjcbcaaiggdaa
open Go Go.RowKit Ev
set_option linter.unusedVariables false
set_option linter.unusedSimpArgs false
set_option maxRecDepth 100000

theorem cut_2a : runFn Try.prog { cxM with pc := [(cuO, true), (.var 1, true), (.var 0, true), (.cmp .eql (.var 4) (.lit 2), true)] } 2000 6 cuA = .ok (.bool (.lit true)) := by kernel_rfl
theorem cut_2b : runFn Try.prog { cxM with pc := [(cuO, false), (.var 1, true), (.var 0, true), (.cmp .eql (.var 4) (.lit 2), true)] } 2000 6 cuA = .ok (.bool (.lit true)) := by kernel_rfl
theorem cut_2c : runFn Try.prog { cxM with pc := [(.var 1, false), (.var 0, true), (.cmp .eql (.var 4) (.lit 2), true)] } 2000 6 cuA = .ok (.bool (.lit true)) := by kernel_rfl
theorem cut_2d : runFn Try.prog { cxM with pc := [(.var 1, true), (.var 0, false), (.cmp .eql (.var 4) (.lit 2), true)] } 2000 6 cuA = .ok (.bool (.lit true)) := by kernel_rfl
theorem cut_2e : runFn Try.prog { cxM with pc := [(.var 1, false), (.var 0, false), (.cmp .eql (.var 4) (.lit 2), true)] } 2000 6 cuA = .ok (.bool (.lit true)) := by kernel_rfl
theorem cut_6a : runFn Try.prog { cxM with pc := [(cuO, true), (.var 1, true), (.var 0, true), (.cmp .eql (.var 4) (.lit 6), true)] } 2000 6 cuA = .ok (.bool (.lit true)) := by kernel_rfl
theorem cut_6b : runFn Try.prog { cxM with pc := [(cuO, false), (.var 1, true), (.var 0, true), (.cmp .eql (.var 4) (.lit 6), true)] } 2000 6 cuA = .ok (.bool (.lit true)) := by kernel_rfl
theorem cut_6c : runFn Try.prog { cxM with pc := [(.var 1, false), (.var 0, true), (.cmp .eql (.var 4) (.lit 6), true)] } 2000 6 cuA = .ok (.bool (.lit true)) := by kernel_rfl
theorem cut_6d : runFn Try.prog { cxM with pc := [(.var 1, true), (.var 0, false), (.cmp .eql (.var 4) (.lit 6), true)] } 2000 6 cuA = .ok (.bool (.lit true)) := by kernel_rfl
theorem cut_6e : runFn Try.prog { cxM with pc := [(.var 1, false), (.var 0, false), (.cmp .eql (.var 4) (.lit 6), true)] } 2000 6 cuA = .ok (.bool (.lit true)) := by kernel_rfl
theorem cut_10a : runFn Try.prog { cxM with pc := [(cuO, true), (.var 1, true), (.var 0, true), (.cmp .eql (.var 4) (.lit 10), true)] } 2000 6 cuA = .ok (.bool (.lit true)) := by kernel_rfl
theorem cut_10b : runFn Try.prog { cxM with pc := [(cuO, false), (.var 1, true), (.var 0, true), (.cmp .eql (.var 4) (.lit 10), true)] } 2000 6 cuA = .ok (.bool (.lit true)) := by kernel_rfl
theorem cut_10c : runFn Try.prog { cxM with pc := [(.var 1, false), (.var 0, true), (.cmp .eql (.var 4) (.lit 10), true)] } 2000 6 cuA = .ok (.bool (.lit true)) := by kernel_rfl
theorem cut_10d : runFn Try.prog { cxM with pc := [(.var 1, true), (.var 0, false), (.cmp .eql (.var 4) (.lit 10), true)] } 2000 6 cuA = .ok (.bool (.lit true)) := by kernel_rfl
theorem cut_10e : runFn Try.prog { cxM with pc := [(.var 1, false), (.var 0, false), (.cmp .eql (.var 4) (.lit 10), true)] } 2000 6 cuA = .ok (.bool (.lit true)) := by kernel_rfl
theorem cut_14a : runFn Try.prog { cxM with pc := [(cuO, true), (.var 1, true), (.var 0, true), (.cmp .eql (.var 4) (.lit 14), true)] } 2000 6 cuA = .ok (.bool (.lit true)) := by kernel_rfl
theorem cut_14b : runFn Try.prog { cxM with pc := [(cuO, false), (.var 1, true), (.var 0, true), (.cmp .eql (.var 4) (.lit 14), true)] } 2000 6 cuA = .ok (.bool (.lit true)) := by kernel_rfl
theorem cut_14c : runFn Try.prog { cxM with pc := [(.var 1, false), (.var 0, true), (.cmp .eql (.var 4) (.lit 14), true)] } 2000 6 cuA = .ok (.bool (.lit true)) := by kernel_rfl
theorem cut_14d : runFn Try.prog { cxM with pc := [(.var 1, true), (.var 0, false), (.cmp .eql (.var 4) (.lit 14), true)] } 2000 6 cuA = .ok (.bool (.lit true)) := by kernel_rfl
theorem cut_14e : runFn Try.prog { cxM with pc := [(.var 1, false), (.var 0, false), (.cmp .eql (.var 4) (.lit 14), true)] } 2000 6 cuA = .ok (.bool (.lit true)) := by kernel_rfl
theorem cut_18a : runFn Try.prog { cxM with pc := [(cuN, false), (cuO, true), (.var 1, true), (.var 0, true), (.cmp .eql (.var 4) (.lit 18), true)] } 2000 6 cuA = .ok (.bool (.cmp .eql (.var 2) (.var 2))) := by kernel_rfl
theorem cut_18b : runFn Try.prog { cxM with pc := [(cuU, true), (cuO, false), (.var 1, true), (.var 0, true), (.cmp .eql (.var 4) (.lit 18), true)] } 2000 6 cuA = .ok (.bool (.cmp .eql (.var 2) (.var 2))) := by kernel_rfl
theorem cut_18c : runFn Try.prog { cxM with pc := [(cuU, true), (.var 1, false), (.var 0, true), (.cmp .eql (.var 4) (.lit 18), true)] } 2000 6 cuA = .ok (.bool (.cmp .eql (.var 2) (.var 2))) := by kernel_rfl
theorem cut_18d : runFn Try.prog { cxM with pc := [(cuN, false), (.var 1, true), (.var 0, false), (.cmp .eql (.var 4) (.lit 18), true)] } 2000 6 cuA = .ok (.bool (.cmp .eql (.var 2) (.var 2))) := by kernel_rfl
theorem cut_18e : runFn Try.prog { cxM with pc := [(.var 1, false), (.var 0, false), (.cmp .eql (.var 4) (.lit 18), true)] } 2000 6 cuA = .ok (.bool (.cmp .eql (.var 2) (.var 2))) := by kernel_rfl
end Go.Proofs.Ytlbjcbcaaiggdaa
