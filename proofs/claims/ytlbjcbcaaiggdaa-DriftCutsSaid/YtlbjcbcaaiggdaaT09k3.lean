/- Chapter 9: DriftCuts, path by path (3). -/
import Derived.Test.YtlbjcbcaaiggdaaT09k
namespace Go.Proofs.Ytlbjcbcaaiggdaa
open Go Go.RowKit Ev
set_option linter.unusedVariables false
set_option linter.unusedSimpArgs false
set_option maxRecDepth 100000

theorem cut_3a : runFn Try.prog { cxM with pc := [(cuO, true), (.var 1, true), (.var 0, true), (.cmp .eql (.var 4) (.lit 3), true)] } 2000 6 cuA = .ok (.bool (.lit true)) := by kernel_rfl
theorem cut_3b : runFn Try.prog { cxM with pc := [(cuO, false), (.var 1, true), (.var 0, true), (.cmp .eql (.var 4) (.lit 3), true)] } 2000 6 cuA = .ok (.bool (.lit true)) := by kernel_rfl
theorem cut_3c : runFn Try.prog { cxM with pc := [(.var 1, false), (.var 0, true), (.cmp .eql (.var 4) (.lit 3), true)] } 2000 6 cuA = .ok (.bool (.lit true)) := by kernel_rfl
theorem cut_3d : runFn Try.prog { cxM with pc := [(.var 1, true), (.var 0, false), (.cmp .eql (.var 4) (.lit 3), true)] } 2000 6 cuA = .ok (.bool (.lit true)) := by kernel_rfl
theorem cut_3e : runFn Try.prog { cxM with pc := [(.var 1, false), (.var 0, false), (.cmp .eql (.var 4) (.lit 3), true)] } 2000 6 cuA = .ok (.bool (.lit true)) := by kernel_rfl
theorem cut_7a : runFn Try.prog { cxM with pc := [(cuO, true), (.var 1, true), (.var 0, true), (.cmp .eql (.var 4) (.lit 7), true)] } 2000 6 cuA = .ok (.bool (.lit true)) := by kernel_rfl
theorem cut_7b : runFn Try.prog { cxM with pc := [(cuO, false), (.var 1, true), (.var 0, true), (.cmp .eql (.var 4) (.lit 7), true)] } 2000 6 cuA = .ok (.bool (.lit true)) := by kernel_rfl
theorem cut_7c : runFn Try.prog { cxM with pc := [(.var 1, false), (.var 0, true), (.cmp .eql (.var 4) (.lit 7), true)] } 2000 6 cuA = .ok (.bool (.lit true)) := by kernel_rfl
theorem cut_7d : runFn Try.prog { cxM with pc := [(.var 1, true), (.var 0, false), (.cmp .eql (.var 4) (.lit 7), true)] } 2000 6 cuA = .ok (.bool (.lit true)) := by kernel_rfl
theorem cut_7e : runFn Try.prog { cxM with pc := [(.var 1, false), (.var 0, false), (.cmp .eql (.var 4) (.lit 7), true)] } 2000 6 cuA = .ok (.bool (.lit true)) := by kernel_rfl
theorem cut_11a : runFn Try.prog { cxM with pc := [(cuO, true), (.var 1, true), (.var 0, true), (.cmp .eql (.var 4) (.lit 11), true)] } 2000 6 cuA = .ok (.bool (.lit true)) := by kernel_rfl
theorem cut_11b : runFn Try.prog { cxM with pc := [(cuO, false), (.var 1, true), (.var 0, true), (.cmp .eql (.var 4) (.lit 11), true)] } 2000 6 cuA = .ok (.bool (.lit true)) := by kernel_rfl
theorem cut_11c : runFn Try.prog { cxM with pc := [(.var 1, false), (.var 0, true), (.cmp .eql (.var 4) (.lit 11), true)] } 2000 6 cuA = .ok (.bool (.lit true)) := by kernel_rfl
theorem cut_11d : runFn Try.prog { cxM with pc := [(.var 1, true), (.var 0, false), (.cmp .eql (.var 4) (.lit 11), true)] } 2000 6 cuA = .ok (.bool (.lit true)) := by kernel_rfl
theorem cut_11e : runFn Try.prog { cxM with pc := [(.var 1, false), (.var 0, false), (.cmp .eql (.var 4) (.lit 11), true)] } 2000 6 cuA = .ok (.bool (.lit true)) := by kernel_rfl
theorem cut_15a : runFn Try.prog { cxM with pc := [(cuO, true), (.var 1, true), (.var 0, true), (.cmp .eql (.var 4) (.lit 15), true)] } 2000 6 cuA = .ok (.bool (.lit true)) := by kernel_rfl
theorem cut_15b : runFn Try.prog { cxM with pc := [(cuO, false), (.var 1, true), (.var 0, true), (.cmp .eql (.var 4) (.lit 15), true)] } 2000 6 cuA = .ok (.bool (.lit true)) := by kernel_rfl
theorem cut_15c : runFn Try.prog { cxM with pc := [(.var 1, false), (.var 0, true), (.cmp .eql (.var 4) (.lit 15), true)] } 2000 6 cuA = .ok (.bool (.lit true)) := by kernel_rfl
theorem cut_15d : runFn Try.prog { cxM with pc := [(.var 1, true), (.var 0, false), (.cmp .eql (.var 4) (.lit 15), true)] } 2000 6 cuA = .ok (.bool (.lit true)) := by kernel_rfl
theorem cut_15e : runFn Try.prog { cxM with pc := [(.var 1, false), (.var 0, false), (.cmp .eql (.var 4) (.lit 15), true)] } 2000 6 cuA = .ok (.bool (.lit true)) := by kernel_rfl
theorem cut_19a : runFn Try.prog { cxM with pc := [(cuN, false), (cuO, true), (.var 1, true), (.var 0, true), (.cmp .eql (.var 4) (.lit 19), true)] } 2000 6 cuA = .ok (.bool (.cmp .eql (.var 2) (.var 2))) := by kernel_rfl
theorem cut_19b : runFn Try.prog { cxM with pc := [(cuU, true), (cuO, false), (.var 1, true), (.var 0, true), (.cmp .eql (.var 4) (.lit 19), true)] } 2000 6 cuA = .ok (.bool (.cmp .eql (.var 2) (.var 2))) := by kernel_rfl
theorem cut_19c : runFn Try.prog { cxM with pc := [(cuU, true), (.var 1, false), (.var 0, true), (.cmp .eql (.var 4) (.lit 19), true)] } 2000 6 cuA = .ok (.bool (.cmp .eql (.var 2) (.var 2))) := by kernel_rfl
theorem cut_19d : runFn Try.prog { cxM with pc := [(cuN, false), (.var 1, true), (.var 0, false), (.cmp .eql (.var 4) (.lit 19), true)] } 2000 6 cuA = .ok (.bool (.cmp .eql (.var 2) (.var 2))) := by kernel_rfl
theorem cut_19e : runFn Try.prog { cxM with pc := [(.var 1, false), (.var 0, false), (.cmp .eql (.var 4) (.lit 19), true)] } 2000 6 cuA = .ok (.bool (.cmp .eql (.var 2) (.var 2))) := by kernel_rfl
end Go.Proofs.Ytlbjcbcaaiggdaa
