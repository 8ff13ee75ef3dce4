/- Chapter 9: DriftCuts, path by path (0). -/
import Derived.Test.YtlbjcbcaaiggdaaT09k
namespace Go.Proofs.Ytlbjcbcaaiggdaa
open Go Go.RowKit Ev
set_option linter.unusedVariables false
set_option linter.unusedSimpArgs false
set_option maxRecDepth 100000

theorem cut_0a : runFn Try.prog { cxM with pc := [(cuO, true), (.var 1, true), (.var 0, true), (.cmp .eql (.var 4) (.lit 0), true)] } 2000 6 cuA = .ok (.bool (.lit true)) := by kernel_rfl
theorem cut_0b : runFn Try.prog { cxM with pc := [(cuO, false), (.var 1, true), (.var 0, true), (.cmp .eql (.var 4) (.lit 0), true)] } 2000 6 cuA = .ok (.bool (.lit true)) := by kernel_rfl
theorem cut_0c : runFn Try.prog { cxM with pc := [(.var 1, false), (.var 0, true), (.cmp .eql (.var 4) (.lit 0), true)] } 2000 6 cuA = .ok (.bool (.lit true)) := by kernel_rfl
theorem cut_0d : runFn Try.prog { cxM with pc := [(.var 1, true), (.var 0, false), (.cmp .eql (.var 4) (.lit 0), true)] } 2000 6 cuA = .ok (.bool (.lit true)) := by kernel_rfl
theorem cut_0e : runFn Try.prog { cxM with pc := [(.var 1, false), (.var 0, false), (.cmp .eql (.var 4) (.lit 0), true)] } 2000 6 cuA = .ok (.bool (.lit true)) := by kernel_rfl
theorem cut_4a : runFn Try.prog { cxM with pc := [(cuO, true), (.var 1, true), (.var 0, true), (.cmp .eql (.var 4) (.lit 4), true)] } 2000 6 cuA = .ok (.bool (.lit true)) := by kernel_rfl
theorem cut_4b : runFn Try.prog { cxM with pc := [(cuO, false), (.var 1, true), (.var 0, true), (.cmp .eql (.var 4) (.lit 4), true)] } 2000 6 cuA = .ok (.bool (.lit true)) := by kernel_rfl
theorem cut_4c : runFn Try.prog { cxM with pc := [(.var 1, false), (.var 0, true), (.cmp .eql (.var 4) (.lit 4), true)] } 2000 6 cuA = .ok (.bool (.lit true)) := by kernel_rfl
theorem cut_4d : runFn Try.prog { cxM with pc := [(.var 1, true), (.var 0, false), (.cmp .eql (.var 4) (.lit 4), true)] } 2000 6 cuA = .ok (.bool (.lit true)) := by kernel_rfl
theorem cut_4e : runFn Try.prog { cxM with pc := [(.var 1, false), (.var 0, false), (.cmp .eql (.var 4) (.lit 4), true)] } 2000 6 cuA = .ok (.bool (.lit true)) := by kernel_rfl
theorem cut_8a : runFn Try.prog { cxM with pc := [(cuO, true), (.var 1, true), (.var 0, true), (.cmp .eql (.var 4) (.lit 8), true)] } 2000 6 cuA = .ok (.bool (.lit true)) := by kernel_rfl
theorem cut_8b : runFn Try.prog { cxM with pc := [(cuO, false), (.var 1, true), (.var 0, true), (.cmp .eql (.var 4) (.lit 8), true)] } 2000 6 cuA = .ok (.bool (.lit true)) := by kernel_rfl
theorem cut_8c : runFn Try.prog { cxM with pc := [(.var 1, false), (.var 0, true), (.cmp .eql (.var 4) (.lit 8), true)] } 2000 6 cuA = .ok (.bool (.lit true)) := by kernel_rfl
theorem cut_8d : runFn Try.prog { cxM with pc := [(.var 1, true), (.var 0, false), (.cmp .eql (.var 4) (.lit 8), true)] } 2000 6 cuA = .ok (.bool (.lit true)) := by kernel_rfl
theorem cut_8e : runFn Try.prog { cxM with pc := [(.var 1, false), (.var 0, false), (.cmp .eql (.var 4) (.lit 8), true)] } 2000 6 cuA = .ok (.bool (.lit true)) := by kernel_rfl
theorem cut_12a : runFn Try.prog { cxM with pc := [(cuO, true), (.var 1, true), (.var 0, true), (.cmp .eql (.var 4) (.lit 12), true)] } 2000 6 cuA = .ok (.bool (.lit true)) := by kernel_rfl
theorem cut_12b : runFn Try.prog { cxM with pc := [(cuO, false), (.var 1, true), (.var 0, true), (.cmp .eql (.var 4) (.lit 12), true)] } 2000 6 cuA = .ok (.bool (.lit true)) := by kernel_rfl
theorem cut_12c : runFn Try.prog { cxM with pc := [(.var 1, false), (.var 0, true), (.cmp .eql (.var 4) (.lit 12), true)] } 2000 6 cuA = .ok (.bool (.lit true)) := by kernel_rfl
theorem cut_12d : runFn Try.prog { cxM with pc := [(.var 1, true), (.var 0, false), (.cmp .eql (.var 4) (.lit 12), true)] } 2000 6 cuA = .ok (.bool (.lit true)) := by kernel_rfl
theorem cut_12e : runFn Try.prog { cxM with pc := [(.var 1, false), (.var 0, false), (.cmp .eql (.var 4) (.lit 12), true)] } 2000 6 cuA = .ok (.bool (.lit true)) := by kernel_rfl
theorem cut_16a : runFn Try.prog { cxM with pc := [(cuO, true), (.var 1, true), (.var 0, true), (.cmp .eql (.var 4) (.lit 16), true)] } 2000 6 cuA = .ok (.bool (.lit true)) := by kernel_rfl
theorem cut_16b : runFn Try.prog { cxM with pc := [(cuO, false), (.var 1, true), (.var 0, true), (.cmp .eql (.var 4) (.lit 16), true)] } 2000 6 cuA = .ok (.bool (.lit true)) := by kernel_rfl
theorem cut_16c : runFn Try.prog { cxM with pc := [(.var 1, false), (.var 0, true), (.cmp .eql (.var 4) (.lit 16), true)] } 2000 6 cuA = .ok (.bool (.lit true)) := by kernel_rfl
theorem cut_16d : runFn Try.prog { cxM with pc := [(.var 1, true), (.var 0, false), (.cmp .eql (.var 4) (.lit 16), true)] } 2000 6 cuA = .ok (.bool (.lit true)) := by kernel_rfl
theorem cut_16e : runFn Try.prog { cxM with pc := [(.var 1, false), (.var 0, false), (.cmp .eql (.var 4) (.lit 16), true)] } 2000 6 cuA = .ok (.bool (.lit true)) := by kernel_rfl
end Go.Proofs.Ytlbjcbcaaiggdaa
