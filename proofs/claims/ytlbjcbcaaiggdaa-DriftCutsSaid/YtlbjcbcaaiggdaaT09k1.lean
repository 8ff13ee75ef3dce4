/- Chapter 9: DriftCuts, path by path (1). -/
import Derived.Test.YtlbjcbcaaiggdaaT09k
namespace Go.Proofs.Ytlbjcbcaaiggdaa
open Go Go.RowKit Ev
set_option linter.unusedVariables false
set_option linter.unusedSimpArgs false
set_option maxRecDepth 100000

theorem cut_1a : runFn Try.prog { cxM with pc := [(cuO, true), (.var 1, true), (.var 0, true), (.cmp .eql (.var 4) (.lit 1), true)] } 2000 6 cuA = .ok (.bool (.lit true)) := by kernel_rfl
theorem cut_1b : runFn Try.prog { cxM with pc := [(cuO, false), (.var 1, true), (.var 0, true), (.cmp .eql (.var 4) (.lit 1), true)] } 2000 6 cuA = .ok (.bool (.lit true)) := by kernel_rfl
theorem cut_1c : runFn Try.prog { cxM with pc := [(.var 1, false), (.var 0, true), (.cmp .eql (.var 4) (.lit 1), true)] } 2000 6 cuA = .ok (.bool (.lit true)) := by kernel_rfl
theorem cut_1d : runFn Try.prog { cxM with pc := [(.var 1, true), (.var 0, false), (.cmp .eql (.var 4) (.lit 1), true)] } 2000 6 cuA = .ok (.bool (.lit true)) := by kernel_rfl
theorem cut_1e : runFn Try.prog { cxM with pc := [(.var 1, false), (.var 0, false), (.cmp .eql (.var 4) (.lit 1), true)] } 2000 6 cuA = .ok (.bool (.lit true)) := by kernel_rfl
theorem cut_5a : runFn Try.prog { cxM with pc := [(cuO, true), (.var 1, true), (.var 0, true), (.cmp .eql (.var 4) (.lit 5), true)] } 2000 6 cuA = .ok (.bool (.lit true)) := by kernel_rfl
theorem cut_5b : runFn Try.prog { cxM with pc := [(cuO, false), (.var 1, true), (.var 0, true), (.cmp .eql (.var 4) (.lit 5), true)] } 2000 6 cuA = .ok (.bool (.lit true)) := by kernel_rfl
theorem cut_5c : runFn Try.prog { cxM with pc := [(.var 1, false), (.var 0, true), (.cmp .eql (.var 4) (.lit 5), true)] } 2000 6 cuA = .ok (.bool (.lit true)) := by kernel_rfl
theorem cut_5d : runFn Try.prog { cxM with pc := [(.var 1, true), (.var 0, false), (.cmp .eql (.var 4) (.lit 5), true)] } 2000 6 cuA = .ok (.bool (.lit true)) := by kernel_rfl
theorem cut_5e : runFn Try.prog { cxM with pc := [(.var 1, false), (.var 0, false), (.cmp .eql (.var 4) (.lit 5), true)] } 2000 6 cuA = .ok (.bool (.lit true)) := by kernel_rfl
theorem cut_9a : runFn Try.prog { cxM with pc := [(cuO, true), (.var 1, true), (.var 0, true), (.cmp .eql (.var 4) (.lit 9), true)] } 2000 6 cuA = .ok (.bool (.lit true)) := by kernel_rfl
theorem cut_9b : runFn Try.prog { cxM with pc := [(cuO, false), (.var 1, true), (.var 0, true), (.cmp .eql (.var 4) (.lit 9), true)] } 2000 6 cuA = .ok (.bool (.lit true)) := by kernel_rfl
theorem cut_9c : runFn Try.prog { cxM with pc := [(.var 1, false), (.var 0, true), (.cmp .eql (.var 4) (.lit 9), true)] } 2000 6 cuA = .ok (.bool (.lit true)) := by kernel_rfl
theorem cut_9d : runFn Try.prog { cxM with pc := [(.var 1, true), (.var 0, false), (.cmp .eql (.var 4) (.lit 9), true)] } 2000 6 cuA = .ok (.bool (.lit true)) := by kernel_rfl
theorem cut_9e : runFn Try.prog { cxM with pc := [(.var 1, false), (.var 0, false), (.cmp .eql (.var 4) (.lit 9), true)] } 2000 6 cuA = .ok (.bool (.lit true)) := by kernel_rfl
theorem cut_13a : runFn Try.prog { cxM with pc := [(cuO, true), (.var 1, true), (.var 0, true), (.cmp .eql (.var 4) (.lit 13), true)] } 2000 6 cuA = .ok (.bool (.lit true)) := by kernel_rfl
theorem cut_13b : runFn Try.prog { cxM with pc := [(cuO, false), (.var 1, true), (.var 0, true), (.cmp .eql (.var 4) (.lit 13), true)] } 2000 6 cuA = .ok (.bool (.lit true)) := by kernel_rfl
theorem cut_13c : runFn Try.prog { cxM with pc := [(.var 1, false), (.var 0, true), (.cmp .eql (.var 4) (.lit 13), true)] } 2000 6 cuA = .ok (.bool (.lit true)) := by kernel_rfl
theorem cut_13d : runFn Try.prog { cxM with pc := [(.var 1, true), (.var 0, false), (.cmp .eql (.var 4) (.lit 13), true)] } 2000 6 cuA = .ok (.bool (.lit true)) := by kernel_rfl
theorem cut_13e : runFn Try.prog { cxM with pc := [(.var 1, false), (.var 0, false), (.cmp .eql (.var 4) (.lit 13), true)] } 2000 6 cuA = .ok (.bool (.lit true)) := by kernel_rfl
theorem cut_17a : runFn Try.prog { cxM with pc := [(cuN, false), (cuO, true), (.var 1, true), (.var 0, true), (.cmp .eql (.var 4) (.lit 17), true)] } 2000 6 cuA = .ok (.bool (.cmp .eql (.var 2) (.var 2))) := by kernel_rfl
theorem cut_17b : runFn Try.prog { cxM with pc := [(cuU, true), (cuO, false), (.var 1, true), (.var 0, true), (.cmp .eql (.var 4) (.lit 17), true)] } 2000 6 cuA = .ok (.bool (.cmp .eql (.var 2) (.var 2))) := by kernel_rfl
theorem cut_17c : runFn Try.prog { cxM with pc := [(cuU, true), (.var 1, false), (.var 0, true), (.cmp .eql (.var 4) (.lit 17), true)] } 2000 6 cuA = .ok (.bool (.cmp .eql (.var 2) (.var 2))) := by kernel_rfl
theorem cut_17d : runFn Try.prog { cxM with pc := [(cuN, false), (.var 1, true), (.var 0, false), (.cmp .eql (.var 4) (.lit 17), true)] } 2000 6 cuA = .ok (.bool (.cmp .eql (.var 2) (.var 2))) := by kernel_rfl
theorem cut_17e : runFn Try.prog { cxM with pc := [(.var 1, false), (.var 0, false), (.cmp .eql (.var 4) (.lit 17), true)] } 2000 6 cuA = .ok (.bool (.cmp .eql (.var 2) (.var 2))) := by kernel_rfl
end Go.Proofs.Ytlbjcbcaaiggdaa
