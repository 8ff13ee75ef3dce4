/- What is standard: the configuration, and what is set by it. -/
import Derived.Test.YthhipnhnpjhaaaaSn
namespace Go.Proofs.Ythhipnhnpjhaaaa
open Go.RowKit
set_option linter.unusedVariables false
set_option maxRecDepth 100000

theorem bnext {w w1 w2 : World} (h : Below w.heap.size w w1) (h2 : Below w1.heap.size w1 w2) : Below w.heap.size w w2 := h.trans (h2.mono h.size)
theorem balloc {w w1 : World} (h : Below w.heap.size w w1) (o : Obj) : Below w.heap.size w (w1.alloc o) := h.alloc h.size o
theorem bcell {W w1 : World} (hb : Below W.heap.size W w1) : (∀ b o, b < W.heap.size → w1.cell? ⟨b, o, none⟩ = W.cell? ⟨b, o, none⟩) ∧ (∀ b o, b < W.heap.size → w1.frozen? ⟨b, o, none⟩ = W.frozen? ⟨b, o, none⟩) :=
  ⟨fun b o h => hb.cell (p := ⟨b, o, none⟩) h, fun b o h => hb.frozen (p := ⟨b, o, none⟩) h⟩
theorem bset {w w1 : World} (h : Below w.heap.size w w1) {a : Addr} (ha : w.heap.size ≤ a.block) (v : Value) : Below w.heap.size w (w1.setCell a v) := h.setCell ha v

def stdCfg : Cfg := ⟨4593671619917905920, 4643985272004935680, 4652007308841189376, 4557750909289998844, 4534972062662729065, 4609434218613702656, 4616189618054758400, 6, 10, 0, 1, 3⟩
theorem std_ok : stdCfg.ok := ⟨by decide, by decide, by decide, by decide, by decide, by decide, by decide⟩
theorem std_cells : stc12 = stdCfg.cells := rfl
theorem std_fld0 : stdCfg.fld 0 = (536870912, 0) := by decide +kernel
theorem std_fld1 : stdCfg.fld 1 = (1288490188800, 0) := by decide +kernel
theorem std_fld2 : stdCfg.fld 2 = (4294967296000, 0) := by decide +kernel
theorem std_fld3 : stdCfg.fld 3 = (2147483, 0) := by decide +kernel
theorem std_fld4 : stdCfg.fld 4 = (64424, 0) := by decide +kernel
theorem std_fld5 : stdCfg.fld 5 = (6442450944, 0) := by decide +kernel
theorem std_fld6 : stdCfg.fld 6 = (17179869184, 0) := by decide +kernel
theorem std_fld7 : stdCfg.fld 7 = (6, 0) := by decide +kernel
theorem std_fld8 : stdCfg.fld 8 = (10, 0) := by decide +kernel
theorem std_fld9 : stdCfg.fld 9 = (0, 0) := by decide +kernel
theorem std_fld10 : stdCfg.fld 10 = (1, 0) := by decide +kernel
theorem std_fld11 : stdCfg.fld 11 = (3, 0) := by decide +kernel
theorem std_e3 : stdCfg.e3 = 0 := by decide +kernel
theorem std_e9 : stdCfg.e9 = 0 := by decide +kernel
theorem std_err : ∀ j, j < 13 → stdCfg.err j = 0 := by
  intro j hj
  by_cases c0 : j = 0
  · subst c0; rfl
  by_cases c1 : j = 1
  · subst c1; show (stdCfg.fld 0).2 = 0; rw [std_fld0]
  by_cases c2 : j = 2
  · subst c2; show (stdCfg.fld 1).2 = 0; rw [std_fld1]
  by_cases c3 : j = 3
  · subst c3; exact std_e3
  by_cases c4 : j = 4
  · subst c4; show (stdCfg.fld 3).2 = 0; rw [std_fld3]
  by_cases c5 : j = 5
  · subst c5; show (stdCfg.fld 4).2 = 0; rw [std_fld4]
  by_cases c6 : j = 6
  · subst c6; show (stdCfg.fld 5).2 = 0; rw [std_fld5]
  by_cases c7 : j = 7
  · subst c7; show (stdCfg.fld 6).2 = 0; rw [std_fld6]
  by_cases c8 : j = 8
  · subst c8; show (stdCfg.fld 7).2 = 0; rw [std_fld7]
  by_cases c9 : j = 9
  · subst c9; exact std_e9
  by_cases c10 : j = 10
  · subst c10; show (stdCfg.fld 9).2 = 0; rw [std_fld9]
  by_cases c11 : j = 11
  · subst c11; show (stdCfg.fld 10).2 = 0; rw [std_fld10]
  by_cases c12 : j = 12
  · subst c12; show (stdCfg.fld 11).2 = 0; rw [std_fld11]
  omega
/-- what is set as a rule -/
theorem std_set : stdCfg.set = #[.int .i64 536870912, .int .i64 1288490188800, .int .i64 4294967296000, .int .i64 2147483, .int .i64 64424, .int .i64 6442450944, .int .i64 17179869184, .int .i64 6, .int .i64 10, .int .i64 0, .int .i64 1, .int .i64 3] := by
  simp only [Cfg.set, std_fld0, std_fld1, std_fld2, std_fld3, std_fld4, std_fld5, std_fld6, std_fld7, std_fld8, std_fld9, std_fld10, std_fld11]
theorem std_check : stdCfg.check = (#[.int .i64 536870912, .int .i64 1288490188800, .int .i64 4294967296000, .int .i64 2147483, .int .i64 64424, .int .i64 6442450944, .int .i64 17179869184, .int .i64 6, .int .i64 10, .int .i64 0, .int .i64 1, .int .i64 3], 0, 0) := by rw [Cfg.check_good std_err, std_set]

end Go.Proofs.Ythhipnhnpjhaaaa
