/- The walk over the law SetupOne. -/
import Derived.Test.YtmgfnejiienghaaSg
import Derived.Test.YtmgfnejiienghaaSeL
namespace Go.Proofs.Ytmgfnejiienghaa
open Go.RowKit
set_option linter.unusedVariables false
set_option maxRecDepth 100000

/-- a whole row stored into a block that has just been laid -/
theorem store_one {P : Program} (w : World) (c c' : Array Value) (t : TypeId) (hs : c.size = c'.size) (h1 : c'.all (·.oneCell') = true) :
    (storeCells ⟨w.heap.size, 0, none⟩ c'.toList).run P (w.alloc (.cells c t)) = .ok () (w.alloc (.cells c' t)) := by
  have h := run_storeCells_from (P := P) w.heap.size t c'.toList 0 c (w.alloc (.cells c t)) (heap_alloc_new _ _) (by simp [hs]) (fun v hv => (Array.all_eq_true_iff_forall_mem.1 h1) v (by simpa using hv))
  rw [h]
  simp [Go.World.setRow_alloc_new]
theorem stc_one : stc12.all (·.oneCell') = true := by simp [stc12, Value.oneCell']
def zcfg : Array Value := #[.float .f64 0, .float .f64 0, .float .f64 0, .float .f64 0, .float .f64 0, .float .f64 0, .float .f64 0, .int .i64 0, .int .i64 0, .int .i64 0, .int .i64 0, .int .i64 0]

/-- the standard configuration, one field of it another one -/
def oneCfg (k : Nat) (f : Nat) (n : Int) : Cfg := match k with
  | 0 => { stdCfg with step := f }
  | 1 => { stdCfg with watch := f }
  | 2 => { stdCfg with panic := f }
  | 3 => { stdCfg with maxRate := f }
  | 4 => { stdCfg with phi := f }
  | 5 => { stdCfg with maxDist := f }
  | 6 => { stdCfg with gate := f }
  | 7 => { stdCfg with minPoll := n }
  | 8 => { stdCfg with maxPoll := n }
  | 9 => { stdCfg with burst := n }
  | 10 => { stdCfg with minSane := n }
  | 11 => { stdCfg with minLeft := n }
  | _ => stdCfg
theorem one_cells0 (f : Nat) (n : Int) : (oneCfg 0 f n).cells = stc12.setIfInBounds 0 (.float .f64 f) := rfl
theorem one_ok0 (f : Nat) (n : Int) (hf : f < 18446744073709551616) : (oneCfg 0 f n).ok := ⟨hf, std_ok.watch, std_ok.panic, std_ok.maxRate, std_ok.phi, std_ok.maxDist, std_ok.gate⟩
theorem one_cells1 (f : Nat) (n : Int) : (oneCfg 1 f n).cells = stc12.setIfInBounds 1 (.float .f64 f) := rfl
theorem one_ok1 (f : Nat) (n : Int) (hf : f < 18446744073709551616) : (oneCfg 1 f n).ok := ⟨std_ok.step, hf, std_ok.panic, std_ok.maxRate, std_ok.phi, std_ok.maxDist, std_ok.gate⟩
theorem one_cells2 (f : Nat) (n : Int) : (oneCfg 2 f n).cells = stc12.setIfInBounds 2 (.float .f64 f) := rfl
theorem one_ok2 (f : Nat) (n : Int) (hf : f < 18446744073709551616) : (oneCfg 2 f n).ok := ⟨std_ok.step, std_ok.watch, hf, std_ok.maxRate, std_ok.phi, std_ok.maxDist, std_ok.gate⟩
theorem one_cells3 (f : Nat) (n : Int) : (oneCfg 3 f n).cells = stc12.setIfInBounds 3 (.float .f64 f) := rfl
theorem one_ok3 (f : Nat) (n : Int) (hf : f < 18446744073709551616) : (oneCfg 3 f n).ok := ⟨std_ok.step, std_ok.watch, std_ok.panic, hf, std_ok.phi, std_ok.maxDist, std_ok.gate⟩
theorem one_cells4 (f : Nat) (n : Int) : (oneCfg 4 f n).cells = stc12.setIfInBounds 4 (.float .f64 f) := rfl
theorem one_ok4 (f : Nat) (n : Int) (hf : f < 18446744073709551616) : (oneCfg 4 f n).ok := ⟨std_ok.step, std_ok.watch, std_ok.panic, std_ok.maxRate, hf, std_ok.maxDist, std_ok.gate⟩
theorem one_cells5 (f : Nat) (n : Int) : (oneCfg 5 f n).cells = stc12.setIfInBounds 5 (.float .f64 f) := rfl
theorem one_ok5 (f : Nat) (n : Int) (hf : f < 18446744073709551616) : (oneCfg 5 f n).ok := ⟨std_ok.step, std_ok.watch, std_ok.panic, std_ok.maxRate, std_ok.phi, hf, std_ok.gate⟩
theorem one_cells6 (f : Nat) (n : Int) : (oneCfg 6 f n).cells = stc12.setIfInBounds 6 (.float .f64 f) := rfl
theorem one_ok6 (f : Nat) (n : Int) (hf : f < 18446744073709551616) : (oneCfg 6 f n).ok := ⟨std_ok.step, std_ok.watch, std_ok.panic, std_ok.maxRate, std_ok.phi, std_ok.maxDist, hf⟩
theorem one_cells7 (f : Nat) (n : Int) : (oneCfg 7 f n).cells = stc12.setIfInBounds 7 (.int .i64 n) := rfl
theorem one_ok7 (f : Nat) (n : Int) (hf : f < 18446744073709551616) : (oneCfg 7 f n).ok := ⟨std_ok.step, std_ok.watch, std_ok.panic, std_ok.maxRate, std_ok.phi, std_ok.maxDist, std_ok.gate⟩
theorem one_cells8 (f : Nat) (n : Int) : (oneCfg 8 f n).cells = stc12.setIfInBounds 8 (.int .i64 n) := rfl
theorem one_ok8 (f : Nat) (n : Int) (hf : f < 18446744073709551616) : (oneCfg 8 f n).ok := ⟨std_ok.step, std_ok.watch, std_ok.panic, std_ok.maxRate, std_ok.phi, std_ok.maxDist, std_ok.gate⟩
theorem one_cells9 (f : Nat) (n : Int) : (oneCfg 9 f n).cells = stc12.setIfInBounds 9 (.int .i64 n) := rfl
theorem one_ok9 (f : Nat) (n : Int) (hf : f < 18446744073709551616) : (oneCfg 9 f n).ok := ⟨std_ok.step, std_ok.watch, std_ok.panic, std_ok.maxRate, std_ok.phi, std_ok.maxDist, std_ok.gate⟩
theorem one_cells10 (f : Nat) (n : Int) : (oneCfg 10 f n).cells = stc12.setIfInBounds 10 (.int .i64 n) := rfl
theorem one_ok10 (f : Nat) (n : Int) (hf : f < 18446744073709551616) : (oneCfg 10 f n).ok := ⟨std_ok.step, std_ok.watch, std_ok.panic, std_ok.maxRate, std_ok.phi, std_ok.maxDist, std_ok.gate⟩
theorem one_cells11 (f : Nat) (n : Int) : (oneCfg 11 f n).cells = stc12.setIfInBounds 11 (.int .i64 n) := rfl
theorem one_ok11 (f : Nat) (n : Int) (hf : f < 18446744073709551616) : (oneCfg 11 f n).ok := ⟨std_ok.step, std_ok.watch, std_ok.panic, std_ok.maxRate, std_ok.phi, std_ok.maxDist, std_ok.gate⟩
theorem filter_one (p : Nat → Bool) (k : Nat) (hk : k < 13) (h : ∀ j, j < 13 → j ≠ k → p j = false) : (List.range 13).filter p = [] ∨ (List.range 13).filter p = [k] := by
  have e : List.range 13 = [0, 1, 2, 3, 4, 5, 6, 7, 8, 9, 10, 11, 12] := by decide
  rw [e]
  cases hp : p k with
  | false =>
    left
    rw [List.filter_eq_nil_iff]
    intro j hj
    have hj' : j < 13 := by rw [← e] at hj; simpa using hj
    by_cases c : j = k
    · subst c; simp [hp]
    · simp [h j hj' c]
  | true =>
    right
    rw [← e]
    have : ∀ m, k < m → m ≤ 13 → (List.range m).filter p = [k] := by
      intro m hm hm'
      induction m with
      | zero => omega
      | succ m ih =>
        rw [List.range_succ, List.filter_append]
        by_cases c : k = m
        · subst c
          have : (List.range k).filter p = [] := by
            rw [List.filter_eq_nil_iff]
            intro j hj
            have hj' : j < k := by simpa using hj
            simp [h j (by omega) (by omega)]
          rw [this]; simp [hp]
        · rw [ih (by omega) (by omega)]
          simp [List.filter, h m (by omega) (Ne.symm c)]
    exact this 13 hk (Nat.le_refl _)
theorem bads_one (c : Cfg) (k : Nat) (hk : k < 13) (h : ∀ j, j < 13 → j ≠ k → c.err j = 0) : c.bads 13 = [] ∨ c.bads 13 = [(k : Int)] := by
  unfold Cfg.bads
  rcases filter_one (fun i => c.err i != 0) k hk (fun j hj hjk => by simp [h j hj hjk]) with e | e
  · left; rw [e]; rfl
  · right; rw [e]; rfl
theorem step_not (f : Nat) (hf : f < 18446744073709551616) (h : (fWithin f 4562254508917369340 4621819117588971520).2 = 0) (hl : fLe 4652007308841189376 f = true) : False := by
  obtain ⟨a, _, a3, _, _, u⟩ := within_ok _ _ _ h
  have k : (fOf 4621819117588971520).1 = 42949672960 ∧ (fOf 4652007308841189376).1 = 4294967296000 ∧ (fOf 4652007308841189376).2 = 0 := by decide +kernel
  rw [k.1] at u
  have m := fOf_mono 4652007308841189376 f k.2.2 a (fun g => by
    unfold fLe at hl
    rw [g] at hl
    simp at hl)
  rw [k.2.1] at m
  omega
theorem sf0 : (fWithin 4593671619917905920 4562254508917369340 4621819117588971520).2 = 0 := by
  have e := std_fld0
  simp only [Cfg.fld, stdCfg] at e
  rw [e]
theorem sf1 : (fWithin 4643985272004935680 4607182418800017408 4660134898793709568).2 = 0 := by
  have e := std_fld1
  simp only [Cfg.fld, stdCfg] at e
  rw [e]
theorem sf2 : (fWithin 4652007308841189376 4607182418800017408 4681608360884174848).2 = 0 := by
  have e := std_fld2
  simp only [Cfg.fld, stdCfg] at e
  rw [e]
theorem sf3 : (fWithin 4557750909289998844 4517329193108106637 4591870180066957722).2 = 0 := by
  have e := std_fld3
  simp only [Cfg.fld, stdCfg] at e
  rw [e]
theorem sf4 : (fWithin 4534972062662729065 0 4576918229304087675).2 = 0 := by
  have e := std_fld4
  simp only [Cfg.fld, stdCfg] at e
  rw [e]
theorem sf5 : (fWithin 4609434218613702656 4576918229304087675 4625196817309499392).2 = 0 := by
  have e := std_fld5
  simp only [Cfg.fld, stdCfg] at e
  rw [e]
theorem sf6 : (fWithin 4616189618054758400 4607182418800017408 4636737291354636288).2 = 0 := by
  have e := std_fld6
  simp only [Cfg.fld, stdCfg] at e
  rw [e]
theorem sf7 : (sWhole 6 4 17).2 = 0 := by
  have e := std_fld7
  simp only [Cfg.fld, stdCfg] at e
  rw [e]
theorem sf8 : (sWhole 10 4 17).2 = 0 := by
  have e := std_fld8
  simp only [Cfg.fld, stdCfg] at e
  rw [e]
theorem sf9 : (sWhole 0 0 8).2 = 0 := by
  have e := std_fld9
  simp only [Cfg.fld, stdCfg] at e
  rw [e]
theorem sf10 : (sWhole 1 1 10).2 = 0 := by
  have e := std_fld10
  simp only [Cfg.fld, stdCfg] at e
  rw [e]
theorem sf11 : (sWhole 3 1 10).2 = 0 := by
  have e := std_fld11
  simp only [Cfg.fld, stdCfg] at e
  rw [e]
theorem sfLe : fLe 4652007308841189376 4593671619917905920 = false := by decide +kernel
theorem one_bads0 (f : Nat) (n : Int) (hf : f < 18446744073709551616) : (oneCfg 0 f n).bads 13 = [] ∨ (oneCfg 0 f n).bads 13 = [1] := by
  refine bads_one _ 1 (by decide) fun j hj hjk => ?_
  by_cases c0 : j = 0
  · subst c0
    rfl
  by_cases c2 : j = 2
  · subst c2
    simp only [Cfg.err, Cfg.fld, oneCfg, stdCfg]
    exact sf1
  by_cases c3 : j = 3
  · subst c3
    simp only [Cfg.err, Cfg.e3, Cfg.fld, oneCfg, stdCfg]
    refine (if_neg (fun g => ?_)).trans sf2
    simp only [Bool.and_eq_true] at g
    exact step_not f hf (by simpa using g.1.1) g.2
  by_cases c4 : j = 4
  · subst c4
    simp only [Cfg.err, Cfg.fld, oneCfg, stdCfg]
    exact sf3
  by_cases c5 : j = 5
  · subst c5
    simp only [Cfg.err, Cfg.fld, oneCfg, stdCfg]
    exact sf4
  by_cases c6 : j = 6
  · subst c6
    simp only [Cfg.err, Cfg.fld, oneCfg, stdCfg]
    exact sf5
  by_cases c7 : j = 7
  · subst c7
    simp only [Cfg.err, Cfg.fld, oneCfg, stdCfg]
    exact sf6
  by_cases c8 : j = 8
  · subst c8
    simp only [Cfg.err, Cfg.fld, oneCfg, stdCfg]
    exact sf7
  by_cases c9 : j = 9
  · subst c9
    simp only [Cfg.err, Cfg.e9, Cfg.fld, oneCfg, stdCfg]
    rw [sf7, sf8]
    rfl
  by_cases c10 : j = 10
  · subst c10
    simp only [Cfg.err, Cfg.fld, oneCfg, stdCfg]
    exact sf9
  by_cases c11 : j = 11
  · subst c11
    simp only [Cfg.err, Cfg.fld, oneCfg, stdCfg]
    exact sf10
  by_cases c12 : j = 12
  · subst c12
    simp only [Cfg.err, Cfg.fld, oneCfg, stdCfg]
    exact sf11
  omega
theorem one_bads1 (f : Nat) (n : Int) (hf : f < 18446744073709551616) : (oneCfg 1 f n).bads 13 = [] ∨ (oneCfg 1 f n).bads 13 = [2] := by
  refine bads_one _ 2 (by decide) fun j hj hjk => ?_
  by_cases c0 : j = 0
  · subst c0
    rfl
  by_cases c1 : j = 1
  · subst c1
    simp only [Cfg.err, Cfg.fld, oneCfg, stdCfg]
    exact sf0
  by_cases c3 : j = 3
  · subst c3
    simp only [Cfg.err, Cfg.e3, Cfg.fld, oneCfg, stdCfg]
    rw [sf0, sf2, sfLe]
    rfl
  by_cases c4 : j = 4
  · subst c4
    simp only [Cfg.err, Cfg.fld, oneCfg, stdCfg]
    exact sf3
  by_cases c5 : j = 5
  · subst c5
    simp only [Cfg.err, Cfg.fld, oneCfg, stdCfg]
    exact sf4
  by_cases c6 : j = 6
  · subst c6
    simp only [Cfg.err, Cfg.fld, oneCfg, stdCfg]
    exact sf5
  by_cases c7 : j = 7
  · subst c7
    simp only [Cfg.err, Cfg.fld, oneCfg, stdCfg]
    exact sf6
  by_cases c8 : j = 8
  · subst c8
    simp only [Cfg.err, Cfg.fld, oneCfg, stdCfg]
    exact sf7
  by_cases c9 : j = 9
  · subst c9
    simp only [Cfg.err, Cfg.e9, Cfg.fld, oneCfg, stdCfg]
    rw [sf7, sf8]
    rfl
  by_cases c10 : j = 10
  · subst c10
    simp only [Cfg.err, Cfg.fld, oneCfg, stdCfg]
    exact sf9
  by_cases c11 : j = 11
  · subst c11
    simp only [Cfg.err, Cfg.fld, oneCfg, stdCfg]
    exact sf10
  by_cases c12 : j = 12
  · subst c12
    simp only [Cfg.err, Cfg.fld, oneCfg, stdCfg]
    exact sf11
  omega
theorem one_bads2 (f : Nat) (n : Int) (hf : f < 18446744073709551616) : (oneCfg 2 f n).bads 13 = [] ∨ (oneCfg 2 f n).bads 13 = [3] := by
  refine bads_one _ 3 (by decide) fun j hj hjk => ?_
  by_cases c0 : j = 0
  · subst c0
    rfl
  by_cases c1 : j = 1
  · subst c1
    simp only [Cfg.err, Cfg.fld, oneCfg, stdCfg]
    exact sf0
  by_cases c2 : j = 2
  · subst c2
    simp only [Cfg.err, Cfg.fld, oneCfg, stdCfg]
    exact sf1
  by_cases c4 : j = 4
  · subst c4
    simp only [Cfg.err, Cfg.fld, oneCfg, stdCfg]
    exact sf3
  by_cases c5 : j = 5
  · subst c5
    simp only [Cfg.err, Cfg.fld, oneCfg, stdCfg]
    exact sf4
  by_cases c6 : j = 6
  · subst c6
    simp only [Cfg.err, Cfg.fld, oneCfg, stdCfg]
    exact sf5
  by_cases c7 : j = 7
  · subst c7
    simp only [Cfg.err, Cfg.fld, oneCfg, stdCfg]
    exact sf6
  by_cases c8 : j = 8
  · subst c8
    simp only [Cfg.err, Cfg.fld, oneCfg, stdCfg]
    exact sf7
  by_cases c9 : j = 9
  · subst c9
    simp only [Cfg.err, Cfg.e9, Cfg.fld, oneCfg, stdCfg]
    rw [sf7, sf8]
    rfl
  by_cases c10 : j = 10
  · subst c10
    simp only [Cfg.err, Cfg.fld, oneCfg, stdCfg]
    exact sf9
  by_cases c11 : j = 11
  · subst c11
    simp only [Cfg.err, Cfg.fld, oneCfg, stdCfg]
    exact sf10
  by_cases c12 : j = 12
  · subst c12
    simp only [Cfg.err, Cfg.fld, oneCfg, stdCfg]
    exact sf11
  omega
theorem one_bads3 (f : Nat) (n : Int) (hf : f < 18446744073709551616) : (oneCfg 3 f n).bads 13 = [] ∨ (oneCfg 3 f n).bads 13 = [4] := by
  refine bads_one _ 4 (by decide) fun j hj hjk => ?_
  by_cases c0 : j = 0
  · subst c0
    rfl
  by_cases c1 : j = 1
  · subst c1
    simp only [Cfg.err, Cfg.fld, oneCfg, stdCfg]
    exact sf0
  by_cases c2 : j = 2
  · subst c2
    simp only [Cfg.err, Cfg.fld, oneCfg, stdCfg]
    exact sf1
  by_cases c3 : j = 3
  · subst c3
    simp only [Cfg.err, Cfg.e3, Cfg.fld, oneCfg, stdCfg]
    rw [sf0, sf2, sfLe]
    rfl
  by_cases c5 : j = 5
  · subst c5
    simp only [Cfg.err, Cfg.fld, oneCfg, stdCfg]
    exact sf4
  by_cases c6 : j = 6
  · subst c6
    simp only [Cfg.err, Cfg.fld, oneCfg, stdCfg]
    exact sf5
  by_cases c7 : j = 7
  · subst c7
    simp only [Cfg.err, Cfg.fld, oneCfg, stdCfg]
    exact sf6
  by_cases c8 : j = 8
  · subst c8
    simp only [Cfg.err, Cfg.fld, oneCfg, stdCfg]
    exact sf7
  by_cases c9 : j = 9
  · subst c9
    simp only [Cfg.err, Cfg.e9, Cfg.fld, oneCfg, stdCfg]
    rw [sf7, sf8]
    rfl
  by_cases c10 : j = 10
  · subst c10
    simp only [Cfg.err, Cfg.fld, oneCfg, stdCfg]
    exact sf9
  by_cases c11 : j = 11
  · subst c11
    simp only [Cfg.err, Cfg.fld, oneCfg, stdCfg]
    exact sf10
  by_cases c12 : j = 12
  · subst c12
    simp only [Cfg.err, Cfg.fld, oneCfg, stdCfg]
    exact sf11
  omega
theorem one_bads4 (f : Nat) (n : Int) (hf : f < 18446744073709551616) : (oneCfg 4 f n).bads 13 = [] ∨ (oneCfg 4 f n).bads 13 = [5] := by
  refine bads_one _ 5 (by decide) fun j hj hjk => ?_
  by_cases c0 : j = 0
  · subst c0
    rfl
  by_cases c1 : j = 1
  · subst c1
    simp only [Cfg.err, Cfg.fld, oneCfg, stdCfg]
    exact sf0
  by_cases c2 : j = 2
  · subst c2
    simp only [Cfg.err, Cfg.fld, oneCfg, stdCfg]
    exact sf1
  by_cases c3 : j = 3
  · subst c3
    simp only [Cfg.err, Cfg.e3, Cfg.fld, oneCfg, stdCfg]
    rw [sf0, sf2, sfLe]
    rfl
  by_cases c4 : j = 4
  · subst c4
    simp only [Cfg.err, Cfg.fld, oneCfg, stdCfg]
    exact sf3
  by_cases c6 : j = 6
  · subst c6
    simp only [Cfg.err, Cfg.fld, oneCfg, stdCfg]
    exact sf5
  by_cases c7 : j = 7
  · subst c7
    simp only [Cfg.err, Cfg.fld, oneCfg, stdCfg]
    exact sf6
  by_cases c8 : j = 8
  · subst c8
    simp only [Cfg.err, Cfg.fld, oneCfg, stdCfg]
    exact sf7
  by_cases c9 : j = 9
  · subst c9
    simp only [Cfg.err, Cfg.e9, Cfg.fld, oneCfg, stdCfg]
    rw [sf7, sf8]
    rfl
  by_cases c10 : j = 10
  · subst c10
    simp only [Cfg.err, Cfg.fld, oneCfg, stdCfg]
    exact sf9
  by_cases c11 : j = 11
  · subst c11
    simp only [Cfg.err, Cfg.fld, oneCfg, stdCfg]
    exact sf10
  by_cases c12 : j = 12
  · subst c12
    simp only [Cfg.err, Cfg.fld, oneCfg, stdCfg]
    exact sf11
  omega
theorem one_bads5 (f : Nat) (n : Int) (hf : f < 18446744073709551616) : (oneCfg 5 f n).bads 13 = [] ∨ (oneCfg 5 f n).bads 13 = [6] := by
  refine bads_one _ 6 (by decide) fun j hj hjk => ?_
  by_cases c0 : j = 0
  · subst c0
    rfl
  by_cases c1 : j = 1
  · subst c1
    simp only [Cfg.err, Cfg.fld, oneCfg, stdCfg]
    exact sf0
  by_cases c2 : j = 2
  · subst c2
    simp only [Cfg.err, Cfg.fld, oneCfg, stdCfg]
    exact sf1
  by_cases c3 : j = 3
  · subst c3
    simp only [Cfg.err, Cfg.e3, Cfg.fld, oneCfg, stdCfg]
    rw [sf0, sf2, sfLe]
    rfl
  by_cases c4 : j = 4
  · subst c4
    simp only [Cfg.err, Cfg.fld, oneCfg, stdCfg]
    exact sf3
  by_cases c5 : j = 5
  · subst c5
    simp only [Cfg.err, Cfg.fld, oneCfg, stdCfg]
    exact sf4
  by_cases c7 : j = 7
  · subst c7
    simp only [Cfg.err, Cfg.fld, oneCfg, stdCfg]
    exact sf6
  by_cases c8 : j = 8
  · subst c8
    simp only [Cfg.err, Cfg.fld, oneCfg, stdCfg]
    exact sf7
  by_cases c9 : j = 9
  · subst c9
    simp only [Cfg.err, Cfg.e9, Cfg.fld, oneCfg, stdCfg]
    rw [sf7, sf8]
    rfl
  by_cases c10 : j = 10
  · subst c10
    simp only [Cfg.err, Cfg.fld, oneCfg, stdCfg]
    exact sf9
  by_cases c11 : j = 11
  · subst c11
    simp only [Cfg.err, Cfg.fld, oneCfg, stdCfg]
    exact sf10
  by_cases c12 : j = 12
  · subst c12
    simp only [Cfg.err, Cfg.fld, oneCfg, stdCfg]
    exact sf11
  omega
theorem one_bads6 (f : Nat) (n : Int) (hf : f < 18446744073709551616) : (oneCfg 6 f n).bads 13 = [] ∨ (oneCfg 6 f n).bads 13 = [7] := by
  refine bads_one _ 7 (by decide) fun j hj hjk => ?_
  by_cases c0 : j = 0
  · subst c0
    rfl
  by_cases c1 : j = 1
  · subst c1
    simp only [Cfg.err, Cfg.fld, oneCfg, stdCfg]
    exact sf0
  by_cases c2 : j = 2
  · subst c2
    simp only [Cfg.err, Cfg.fld, oneCfg, stdCfg]
    exact sf1
  by_cases c3 : j = 3
  · subst c3
    simp only [Cfg.err, Cfg.e3, Cfg.fld, oneCfg, stdCfg]
    rw [sf0, sf2, sfLe]
    rfl
  by_cases c4 : j = 4
  · subst c4
    simp only [Cfg.err, Cfg.fld, oneCfg, stdCfg]
    exact sf3
  by_cases c5 : j = 5
  · subst c5
    simp only [Cfg.err, Cfg.fld, oneCfg, stdCfg]
    exact sf4
  by_cases c6 : j = 6
  · subst c6
    simp only [Cfg.err, Cfg.fld, oneCfg, stdCfg]
    exact sf5
  by_cases c8 : j = 8
  · subst c8
    simp only [Cfg.err, Cfg.fld, oneCfg, stdCfg]
    exact sf7
  by_cases c9 : j = 9
  · subst c9
    simp only [Cfg.err, Cfg.e9, Cfg.fld, oneCfg, stdCfg]
    rw [sf7, sf8]
    rfl
  by_cases c10 : j = 10
  · subst c10
    simp only [Cfg.err, Cfg.fld, oneCfg, stdCfg]
    exact sf9
  by_cases c11 : j = 11
  · subst c11
    simp only [Cfg.err, Cfg.fld, oneCfg, stdCfg]
    exact sf10
  by_cases c12 : j = 12
  · subst c12
    simp only [Cfg.err, Cfg.fld, oneCfg, stdCfg]
    exact sf11
  omega
theorem one_bads8 (f : Nat) (n : Int) (hf : f < 18446744073709551616) : (oneCfg 8 f n).bads 13 = [] ∨ (oneCfg 8 f n).bads 13 = [9] := by
  refine bads_one _ 9 (by decide) fun j hj hjk => ?_
  by_cases c0 : j = 0
  · subst c0
    rfl
  by_cases c1 : j = 1
  · subst c1
    simp only [Cfg.err, Cfg.fld, oneCfg, stdCfg]
    exact sf0
  by_cases c2 : j = 2
  · subst c2
    simp only [Cfg.err, Cfg.fld, oneCfg, stdCfg]
    exact sf1
  by_cases c3 : j = 3
  · subst c3
    simp only [Cfg.err, Cfg.e3, Cfg.fld, oneCfg, stdCfg]
    rw [sf0, sf2, sfLe]
    rfl
  by_cases c4 : j = 4
  · subst c4
    simp only [Cfg.err, Cfg.fld, oneCfg, stdCfg]
    exact sf3
  by_cases c5 : j = 5
  · subst c5
    simp only [Cfg.err, Cfg.fld, oneCfg, stdCfg]
    exact sf4
  by_cases c6 : j = 6
  · subst c6
    simp only [Cfg.err, Cfg.fld, oneCfg, stdCfg]
    exact sf5
  by_cases c7 : j = 7
  · subst c7
    simp only [Cfg.err, Cfg.fld, oneCfg, stdCfg]
    exact sf6
  by_cases c8 : j = 8
  · subst c8
    simp only [Cfg.err, Cfg.fld, oneCfg, stdCfg]
    exact sf7
  by_cases c10 : j = 10
  · subst c10
    simp only [Cfg.err, Cfg.fld, oneCfg, stdCfg]
    exact sf9
  by_cases c11 : j = 11
  · subst c11
    simp only [Cfg.err, Cfg.fld, oneCfg, stdCfg]
    exact sf10
  by_cases c12 : j = 12
  · subst c12
    simp only [Cfg.err, Cfg.fld, oneCfg, stdCfg]
    exact sf11
  omega
theorem one_bads9 (f : Nat) (n : Int) (hf : f < 18446744073709551616) : (oneCfg 9 f n).bads 13 = [] ∨ (oneCfg 9 f n).bads 13 = [10] := by
  refine bads_one _ 10 (by decide) fun j hj hjk => ?_
  by_cases c0 : j = 0
  · subst c0
    rfl
  by_cases c1 : j = 1
  · subst c1
    simp only [Cfg.err, Cfg.fld, oneCfg, stdCfg]
    exact sf0
  by_cases c2 : j = 2
  · subst c2
    simp only [Cfg.err, Cfg.fld, oneCfg, stdCfg]
    exact sf1
  by_cases c3 : j = 3
  · subst c3
    simp only [Cfg.err, Cfg.e3, Cfg.fld, oneCfg, stdCfg]
    rw [sf0, sf2, sfLe]
    rfl
  by_cases c4 : j = 4
  · subst c4
    simp only [Cfg.err, Cfg.fld, oneCfg, stdCfg]
    exact sf3
  by_cases c5 : j = 5
  · subst c5
    simp only [Cfg.err, Cfg.fld, oneCfg, stdCfg]
    exact sf4
  by_cases c6 : j = 6
  · subst c6
    simp only [Cfg.err, Cfg.fld, oneCfg, stdCfg]
    exact sf5
  by_cases c7 : j = 7
  · subst c7
    simp only [Cfg.err, Cfg.fld, oneCfg, stdCfg]
    exact sf6
  by_cases c8 : j = 8
  · subst c8
    simp only [Cfg.err, Cfg.fld, oneCfg, stdCfg]
    exact sf7
  by_cases c9 : j = 9
  · subst c9
    simp only [Cfg.err, Cfg.e9, Cfg.fld, oneCfg, stdCfg]
    rw [sf7, sf8]
    rfl
  by_cases c11 : j = 11
  · subst c11
    simp only [Cfg.err, Cfg.fld, oneCfg, stdCfg]
    exact sf10
  by_cases c12 : j = 12
  · subst c12
    simp only [Cfg.err, Cfg.fld, oneCfg, stdCfg]
    exact sf11
  omega
theorem one_bads10 (f : Nat) (n : Int) (hf : f < 18446744073709551616) : (oneCfg 10 f n).bads 13 = [] ∨ (oneCfg 10 f n).bads 13 = [11] := by
  refine bads_one _ 11 (by decide) fun j hj hjk => ?_
  by_cases c0 : j = 0
  · subst c0
    rfl
  by_cases c1 : j = 1
  · subst c1
    simp only [Cfg.err, Cfg.fld, oneCfg, stdCfg]
    exact sf0
  by_cases c2 : j = 2
  · subst c2
    simp only [Cfg.err, Cfg.fld, oneCfg, stdCfg]
    exact sf1
  by_cases c3 : j = 3
  · subst c3
    simp only [Cfg.err, Cfg.e3, Cfg.fld, oneCfg, stdCfg]
    rw [sf0, sf2, sfLe]
    rfl
  by_cases c4 : j = 4
  · subst c4
    simp only [Cfg.err, Cfg.fld, oneCfg, stdCfg]
    exact sf3
  by_cases c5 : j = 5
  · subst c5
    simp only [Cfg.err, Cfg.fld, oneCfg, stdCfg]
    exact sf4
  by_cases c6 : j = 6
  · subst c6
    simp only [Cfg.err, Cfg.fld, oneCfg, stdCfg]
    exact sf5
  by_cases c7 : j = 7
  · subst c7
    simp only [Cfg.err, Cfg.fld, oneCfg, stdCfg]
    exact sf6
  by_cases c8 : j = 8
  · subst c8
    simp only [Cfg.err, Cfg.fld, oneCfg, stdCfg]
    exact sf7
  by_cases c9 : j = 9
  · subst c9
    simp only [Cfg.err, Cfg.e9, Cfg.fld, oneCfg, stdCfg]
    rw [sf7, sf8]
    rfl
  by_cases c10 : j = 10
  · subst c10
    simp only [Cfg.err, Cfg.fld, oneCfg, stdCfg]
    exact sf9
  by_cases c12 : j = 12
  · subst c12
    simp only [Cfg.err, Cfg.fld, oneCfg, stdCfg]
    exact sf11
  omega
theorem one_bads11 (f : Nat) (n : Int) (hf : f < 18446744073709551616) : (oneCfg 11 f n).bads 13 = [] ∨ (oneCfg 11 f n).bads 13 = [12] := by
  refine bads_one _ 12 (by decide) fun j hj hjk => ?_
  by_cases c0 : j = 0
  · subst c0
    rfl
  by_cases c1 : j = 1
  · subst c1
    simp only [Cfg.err, Cfg.fld, oneCfg, stdCfg]
    exact sf0
  by_cases c2 : j = 2
  · subst c2
    simp only [Cfg.err, Cfg.fld, oneCfg, stdCfg]
    exact sf1
  by_cases c3 : j = 3
  · subst c3
    simp only [Cfg.err, Cfg.e3, Cfg.fld, oneCfg, stdCfg]
    rw [sf0, sf2, sfLe]
    rfl
  by_cases c4 : j = 4
  · subst c4
    simp only [Cfg.err, Cfg.fld, oneCfg, stdCfg]
    exact sf3
  by_cases c5 : j = 5
  · subst c5
    simp only [Cfg.err, Cfg.fld, oneCfg, stdCfg]
    exact sf4
  by_cases c6 : j = 6
  · subst c6
    simp only [Cfg.err, Cfg.fld, oneCfg, stdCfg]
    exact sf5
  by_cases c7 : j = 7
  · subst c7
    simp only [Cfg.err, Cfg.fld, oneCfg, stdCfg]
    exact sf6
  by_cases c8 : j = 8
  · subst c8
    simp only [Cfg.err, Cfg.fld, oneCfg, stdCfg]
    exact sf7
  by_cases c9 : j = 9
  · subst c9
    simp only [Cfg.err, Cfg.e9, Cfg.fld, oneCfg, stdCfg]
    rw [sf7, sf8]
    rfl
  by_cases c10 : j = 10
  · subst c10
    simp only [Cfg.err, Cfg.fld, oneCfg, stdCfg]
    exact sf9
  by_cases c11 : j = 11
  · subst c11
    simp only [Cfg.err, Cfg.fld, oneCfg, stdCfg]
    exact sf10
  omega
theorem one_bads7 (f : Nat) (n : Int) : (oneCfg 7 f n).bads 13 = [] ∨ (oneCfg 7 f n).bads 13 = [8] ∨ (oneCfg 7 f n).bads 13 = [9] := by
  have hz : ∀ j, j < 13 → j ≠ 8 → j ≠ 9 → (oneCfg 7 f n).err j = 0 := by
    intro j hj h8 h9
    by_cases c0 : j = 0
    · subst c0; rfl
    by_cases c1 : j = 1
    · subst c1; simp only [Cfg.err, Cfg.fld, oneCfg, stdCfg]; exact sf0
    by_cases c2 : j = 2
    · subst c2; simp only [Cfg.err, Cfg.fld, oneCfg, stdCfg]; exact sf1
    by_cases c3 : j = 3
    · subst c3; simp only [Cfg.err, Cfg.e3, Cfg.fld, oneCfg, stdCfg]; rw [sf0, sf2, sfLe]; rfl
    by_cases c4 : j = 4
    · subst c4; simp only [Cfg.err, Cfg.fld, oneCfg, stdCfg]; exact sf3
    by_cases c5 : j = 5
    · subst c5; simp only [Cfg.err, Cfg.fld, oneCfg, stdCfg]; exact sf4
    by_cases c6 : j = 6
    · subst c6; simp only [Cfg.err, Cfg.fld, oneCfg, stdCfg]; exact sf5
    by_cases c7 : j = 7
    · subst c7; simp only [Cfg.err, Cfg.fld, oneCfg, stdCfg]; exact sf6
    by_cases c10 : j = 10
    · subst c10; simp only [Cfg.err, Cfg.fld, oneCfg, stdCfg]; exact sf9
    by_cases c11 : j = 11
    · subst c11; simp only [Cfg.err, Cfg.fld, oneCfg, stdCfg]; exact sf10
    by_cases c12 : j = 12
    · subst c12; simp only [Cfg.err, Cfg.fld, oneCfg, stdCfg]; exact sf11
    omega
  by_cases c : (oneCfg 7 f n).err 8 = 0
  · rcases bads_one _ 9 (by decide) (fun j hj h9 => by
      by_cases h8 : j = 8
      · subst h8; exact c
      · exact hz j hj h8 h9) with e | e
    · exact .inl e
    · exact .inr (.inr e)
  · have h9 : (oneCfg 7 f n).err 9 = 0 := by
      simp only [Cfg.err, Cfg.e9, Cfg.fld, oneCfg, stdCfg] at c ⊢
      refine (if_neg (fun g => ?_)).trans sf8
      simp only [Bool.and_eq_true] at g
      exact c (by simpa using g.1.1)
    rcases bads_one _ 8 (by decide) (fun j hj h8 => by
      by_cases h9' : j = 9
      · subst h9'; exact h9
      · exact hz j hj h8 h9') with e | e
    · exact .inl e
    · exact .inr (.inl e)
/-- what a list of one number, or none, looks like in memory -/
theorem own_nil {w : World} {B : Nat} {t : TypeId} {v : Value} (h : w.ownsRow B t 1 v 0 []) : ∃ a c, v = .slice a 0 c := by
  obtain ⟨_, h | ⟨g, cap, cur, h, _⟩⟩ := h
  · exact ⟨none, 0, h.1⟩
  · exact ⟨_, _, h⟩
theorem own_one {w : World} {B : Nat} {t : TypeId} {v x : Value} (h : w.ownsRow B t 1 v 1 [x]) : ∃ g c, v = .slice (some ⟨g, 0, none⟩) 1 c ∧ w.cell? ⟨g, 0, none⟩ = some x := by
  have hc := h
  obtain ⟨_, h | ⟨g, cap, cur, rfl, _⟩⟩ := h
  · exact absurd h.2 (by simp)
  · exact ⟨g, cap, rfl, by simpa [Addr.add] using hc.cells (g := g) rfl 0 x rfl⟩

set_option maxHeartbeats 2000000 in
theorem one_walk0 (a : Int) (f : Nat) (n : Int) (hK : a % 12 = 0) (ha0 : 0 ≤ a) (ha1 : a ≤ 255) (hf : f < 18446744073709551616) (w : World) :
    Calls Try.prog 5 #[.int .u8 a, .float .f64 f, .int .i64 n] w fun e w' => e = .returned (.bool true) ∧ Below w.heap.size w w' := by
  have hx : stc12[0]? = some (.float .f64 4593671619917905920) := rfl
  have sf := store_float Try.prog
  have HF := Lib.hid (fun w => faults_list (oneCfg 0 f n) (one_ok0 f n hf) w)
  rw [one_cells0] at HF
  rcases one_bads0 f n hf with e | e
  · have HB := Lib.hid e
    clear e
    go_enter Try.func5, Try.ntmps5
    go_wp2_with (first
      | (with_reducible refine (standard_any _).mono ?_; rintro e w1 ⟨rfl, hb1⟩; have st := store_one (P := Try.prog) w1 zcfg stc12 24 rfl stc_one; simp only [zcfg] at st)
      | (refine wpList_load_row rfl 24 (.tmp 7) rfl _ rfl 24 (stc12.setIfInBounds 0 (.float .f64 f)) (0, 0) _ ?hg0 Try.underlying24 rfl (by kernel_rfl) ?_; case hg0 => exact heap_alloc_new _ _)
      | (with_reducible refine (HF.out _).mono ?_; rintro e w2 ⟨v, rfl, hown, hb2⟩; rw [HB.out] at hown; obtain ⟨g, cp, rfl⟩ := own_nil hown; clear hown)
      | (with_reducible refine (shown10 _).mono ?_; rintro e w3 ⟨rfl, hb3⟩; obtain ⟨q1, _⟩ := bcell hb3))
    go_ret
    exact ⟨rfl, bnext (bnext (balloc hb1 _) hb2) hb3⟩
  · have HB := Lib.hid e
    clear e
    go_enter Try.func5, Try.ntmps5
    go_wp2_with (first
      | (with_reducible refine (standard_any _).mono ?_; rintro e w1 ⟨rfl, hb1⟩; have st := store_one (P := Try.prog) w1 zcfg stc12 24 rfl stc_one; simp only [zcfg] at st)
      | (refine wpList_load_row rfl 24 (.tmp 7) rfl _ rfl 24 (stc12.setIfInBounds 0 (.float .f64 f)) (0, 0) _ ?hg1 Try.underlying24 rfl (by kernel_rfl) ?_; case hg1 => exact heap_alloc_new _ _)
      | (with_reducible refine (HF.out _).mono ?_; rintro e w2 ⟨v, rfl, hown, hb2⟩; rw [HB.out] at hown; obtain ⟨g, cp, rfl, hcell⟩ := own_one hown; have hlt := block_lt_of_cell hcell; clear hown)
      | (with_reducible refine (shown10 _).mono ?_; rintro e w3 ⟨rfl, hb3⟩; obtain ⟨q1, _⟩ := bcell hb3))
    go_ret
    exact ⟨rfl, bnext (bnext (balloc hb1 _) hb2) hb3⟩
set_option maxHeartbeats 2000000 in
theorem one_walk1 (a : Int) (f : Nat) (n : Int) (hK : a % 12 = 1) (ha0 : 0 ≤ a) (ha1 : a ≤ 255) (hf : f < 18446744073709551616) (w : World) :
    Calls Try.prog 5 #[.int .u8 a, .float .f64 f, .int .i64 n] w fun e w' => e = .returned (.bool true) ∧ Below w.heap.size w w' := by
  have hx : stc12[1]? = some (.float .f64 4643985272004935680) := rfl
  have sf := store_float Try.prog
  have HF := Lib.hid (fun w => faults_list (oneCfg 1 f n) (one_ok1 f n hf) w)
  rw [one_cells1] at HF
  rcases one_bads1 f n hf with e | e
  · have HB := Lib.hid e
    clear e
    go_enter Try.func5, Try.ntmps5
    go_wp2_with (first
      | (with_reducible refine (standard_any _).mono ?_; rintro e w1 ⟨rfl, hb1⟩; have st := store_one (P := Try.prog) w1 zcfg stc12 24 rfl stc_one; simp only [zcfg] at st)
      | (refine wpList_load_row rfl 24 (.tmp 7) rfl _ rfl 24 (stc12.setIfInBounds 1 (.float .f64 f)) (0, 0) _ ?hg10 Try.underlying24 rfl (by kernel_rfl) ?_; case hg10 => exact heap_alloc_new _ _)
      | (with_reducible refine (HF.out _).mono ?_; rintro e w2 ⟨v, rfl, hown, hb2⟩; rw [HB.out] at hown; obtain ⟨g, cp, rfl⟩ := own_nil hown; clear hown)
      | (with_reducible refine (shown10 _).mono ?_; rintro e w3 ⟨rfl, hb3⟩; obtain ⟨q1, _⟩ := bcell hb3))
    go_ret
    exact ⟨rfl, bnext (bnext (balloc hb1 _) hb2) hb3⟩
  · have HB := Lib.hid e
    clear e
    go_enter Try.func5, Try.ntmps5
    go_wp2_with (first
      | (with_reducible refine (standard_any _).mono ?_; rintro e w1 ⟨rfl, hb1⟩; have st := store_one (P := Try.prog) w1 zcfg stc12 24 rfl stc_one; simp only [zcfg] at st)
      | (refine wpList_load_row rfl 24 (.tmp 7) rfl _ rfl 24 (stc12.setIfInBounds 1 (.float .f64 f)) (0, 0) _ ?hg11 Try.underlying24 rfl (by kernel_rfl) ?_; case hg11 => exact heap_alloc_new _ _)
      | (with_reducible refine (HF.out _).mono ?_; rintro e w2 ⟨v, rfl, hown, hb2⟩; rw [HB.out] at hown; obtain ⟨g, cp, rfl, hcell⟩ := own_one hown; have hlt := block_lt_of_cell hcell; clear hown)
      | (with_reducible refine (shown10 _).mono ?_; rintro e w3 ⟨rfl, hb3⟩; obtain ⟨q1, _⟩ := bcell hb3))
    go_ret
    exact ⟨rfl, bnext (bnext (balloc hb1 _) hb2) hb3⟩
set_option maxHeartbeats 2000000 in
theorem one_walk2 (a : Int) (f : Nat) (n : Int) (hK : a % 12 = 2) (ha0 : 0 ≤ a) (ha1 : a ≤ 255) (hf : f < 18446744073709551616) (w : World) :
    Calls Try.prog 5 #[.int .u8 a, .float .f64 f, .int .i64 n] w fun e w' => e = .returned (.bool true) ∧ Below w.heap.size w w' := by
  have hx : stc12[2]? = some (.float .f64 4652007308841189376) := rfl
  have sf := store_float Try.prog
  have HF := Lib.hid (fun w => faults_list (oneCfg 2 f n) (one_ok2 f n hf) w)
  rw [one_cells2] at HF
  rcases one_bads2 f n hf with e | e
  · have HB := Lib.hid e
    clear e
    go_enter Try.func5, Try.ntmps5
    go_wp2_with (first
      | (with_reducible refine (standard_any _).mono ?_; rintro e w1 ⟨rfl, hb1⟩; have st := store_one (P := Try.prog) w1 zcfg stc12 24 rfl stc_one; simp only [zcfg] at st)
      | (refine wpList_load_row rfl 24 (.tmp 7) rfl _ rfl 24 (stc12.setIfInBounds 2 (.float .f64 f)) (0, 0) _ ?hg20 Try.underlying24 rfl (by kernel_rfl) ?_; case hg20 => exact heap_alloc_new _ _)
      | (with_reducible refine (HF.out _).mono ?_; rintro e w2 ⟨v, rfl, hown, hb2⟩; rw [HB.out] at hown; obtain ⟨g, cp, rfl⟩ := own_nil hown; clear hown)
      | (with_reducible refine (shown10 _).mono ?_; rintro e w3 ⟨rfl, hb3⟩; obtain ⟨q1, _⟩ := bcell hb3))
    go_ret
    exact ⟨rfl, bnext (bnext (balloc hb1 _) hb2) hb3⟩
  · have HB := Lib.hid e
    clear e
    go_enter Try.func5, Try.ntmps5
    go_wp2_with (first
      | (with_reducible refine (standard_any _).mono ?_; rintro e w1 ⟨rfl, hb1⟩; have st := store_one (P := Try.prog) w1 zcfg stc12 24 rfl stc_one; simp only [zcfg] at st)
      | (refine wpList_load_row rfl 24 (.tmp 7) rfl _ rfl 24 (stc12.setIfInBounds 2 (.float .f64 f)) (0, 0) _ ?hg21 Try.underlying24 rfl (by kernel_rfl) ?_; case hg21 => exact heap_alloc_new _ _)
      | (with_reducible refine (HF.out _).mono ?_; rintro e w2 ⟨v, rfl, hown, hb2⟩; rw [HB.out] at hown; obtain ⟨g, cp, rfl, hcell⟩ := own_one hown; have hlt := block_lt_of_cell hcell; clear hown)
      | (with_reducible refine (shown10 _).mono ?_; rintro e w3 ⟨rfl, hb3⟩; obtain ⟨q1, _⟩ := bcell hb3))
    go_ret
    exact ⟨rfl, bnext (bnext (balloc hb1 _) hb2) hb3⟩
set_option maxHeartbeats 2000000 in
theorem one_walk3 (a : Int) (f : Nat) (n : Int) (hK : a % 12 = 3) (ha0 : 0 ≤ a) (ha1 : a ≤ 255) (hf : f < 18446744073709551616) (w : World) :
    Calls Try.prog 5 #[.int .u8 a, .float .f64 f, .int .i64 n] w fun e w' => e = .returned (.bool true) ∧ Below w.heap.size w w' := by
  have hx : stc12[3]? = some (.float .f64 4557750909289998844) := rfl
  have sf := store_float Try.prog
  have HF := Lib.hid (fun w => faults_list (oneCfg 3 f n) (one_ok3 f n hf) w)
  rw [one_cells3] at HF
  rcases one_bads3 f n hf with e | e
  · have HB := Lib.hid e
    clear e
    go_enter Try.func5, Try.ntmps5
    go_wp2_with (first
      | (with_reducible refine (standard_any _).mono ?_; rintro e w1 ⟨rfl, hb1⟩; have st := store_one (P := Try.prog) w1 zcfg stc12 24 rfl stc_one; simp only [zcfg] at st)
      | (refine wpList_load_row rfl 24 (.tmp 7) rfl _ rfl 24 (stc12.setIfInBounds 3 (.float .f64 f)) (0, 0) _ ?hg30 Try.underlying24 rfl (by kernel_rfl) ?_; case hg30 => exact heap_alloc_new _ _)
      | (with_reducible refine (HF.out _).mono ?_; rintro e w2 ⟨v, rfl, hown, hb2⟩; rw [HB.out] at hown; obtain ⟨g, cp, rfl⟩ := own_nil hown; clear hown)
      | (with_reducible refine (shown10 _).mono ?_; rintro e w3 ⟨rfl, hb3⟩; obtain ⟨q1, _⟩ := bcell hb3))
    go_ret
    exact ⟨rfl, bnext (bnext (balloc hb1 _) hb2) hb3⟩
  · have HB := Lib.hid e
    clear e
    go_enter Try.func5, Try.ntmps5
    go_wp2_with (first
      | (with_reducible refine (standard_any _).mono ?_; rintro e w1 ⟨rfl, hb1⟩; have st := store_one (P := Try.prog) w1 zcfg stc12 24 rfl stc_one; simp only [zcfg] at st)
      | (refine wpList_load_row rfl 24 (.tmp 7) rfl _ rfl 24 (stc12.setIfInBounds 3 (.float .f64 f)) (0, 0) _ ?hg31 Try.underlying24 rfl (by kernel_rfl) ?_; case hg31 => exact heap_alloc_new _ _)
      | (with_reducible refine (HF.out _).mono ?_; rintro e w2 ⟨v, rfl, hown, hb2⟩; rw [HB.out] at hown; obtain ⟨g, cp, rfl, hcell⟩ := own_one hown; have hlt := block_lt_of_cell hcell; clear hown)
      | (with_reducible refine (shown10 _).mono ?_; rintro e w3 ⟨rfl, hb3⟩; obtain ⟨q1, _⟩ := bcell hb3))
    go_ret
    exact ⟨rfl, bnext (bnext (balloc hb1 _) hb2) hb3⟩
set_option maxHeartbeats 2000000 in
theorem one_walk4 (a : Int) (f : Nat) (n : Int) (hK : a % 12 = 4) (ha0 : 0 ≤ a) (ha1 : a ≤ 255) (hf : f < 18446744073709551616) (w : World) :
    Calls Try.prog 5 #[.int .u8 a, .float .f64 f, .int .i64 n] w fun e w' => e = .returned (.bool true) ∧ Below w.heap.size w w' := by
  have hx : stc12[4]? = some (.float .f64 4534972062662729065) := rfl
  have sf := store_float Try.prog
  have HF := Lib.hid (fun w => faults_list (oneCfg 4 f n) (one_ok4 f n hf) w)
  rw [one_cells4] at HF
  rcases one_bads4 f n hf with e | e
  · have HB := Lib.hid e
    clear e
    go_enter Try.func5, Try.ntmps5
    go_wp2_with (first
      | (with_reducible refine (standard_any _).mono ?_; rintro e w1 ⟨rfl, hb1⟩; have st := store_one (P := Try.prog) w1 zcfg stc12 24 rfl stc_one; simp only [zcfg] at st)
      | (refine wpList_load_row rfl 24 (.tmp 7) rfl _ rfl 24 (stc12.setIfInBounds 4 (.float .f64 f)) (0, 0) _ ?hg40 Try.underlying24 rfl (by kernel_rfl) ?_; case hg40 => exact heap_alloc_new _ _)
      | (with_reducible refine (HF.out _).mono ?_; rintro e w2 ⟨v, rfl, hown, hb2⟩; rw [HB.out] at hown; obtain ⟨g, cp, rfl⟩ := own_nil hown; clear hown)
      | (with_reducible refine (shown10 _).mono ?_; rintro e w3 ⟨rfl, hb3⟩; obtain ⟨q1, _⟩ := bcell hb3))
    go_ret
    exact ⟨rfl, bnext (bnext (balloc hb1 _) hb2) hb3⟩
  · have HB := Lib.hid e
    clear e
    go_enter Try.func5, Try.ntmps5
    go_wp2_with (first
      | (with_reducible refine (standard_any _).mono ?_; rintro e w1 ⟨rfl, hb1⟩; have st := store_one (P := Try.prog) w1 zcfg stc12 24 rfl stc_one; simp only [zcfg] at st)
      | (refine wpList_load_row rfl 24 (.tmp 7) rfl _ rfl 24 (stc12.setIfInBounds 4 (.float .f64 f)) (0, 0) _ ?hg41 Try.underlying24 rfl (by kernel_rfl) ?_; case hg41 => exact heap_alloc_new _ _)
      | (with_reducible refine (HF.out _).mono ?_; rintro e w2 ⟨v, rfl, hown, hb2⟩; rw [HB.out] at hown; obtain ⟨g, cp, rfl, hcell⟩ := own_one hown; have hlt := block_lt_of_cell hcell; clear hown)
      | (with_reducible refine (shown10 _).mono ?_; rintro e w3 ⟨rfl, hb3⟩; obtain ⟨q1, _⟩ := bcell hb3))
    go_ret
    exact ⟨rfl, bnext (bnext (balloc hb1 _) hb2) hb3⟩
set_option maxHeartbeats 2000000 in
theorem one_walk5 (a : Int) (f : Nat) (n : Int) (hK : a % 12 = 5) (ha0 : 0 ≤ a) (ha1 : a ≤ 255) (hf : f < 18446744073709551616) (w : World) :
    Calls Try.prog 5 #[.int .u8 a, .float .f64 f, .int .i64 n] w fun e w' => e = .returned (.bool true) ∧ Below w.heap.size w w' := by
  have hx : stc12[5]? = some (.float .f64 4609434218613702656) := rfl
  have sf := store_float Try.prog
  have HF := Lib.hid (fun w => faults_list (oneCfg 5 f n) (one_ok5 f n hf) w)
  rw [one_cells5] at HF
  rcases one_bads5 f n hf with e | e
  · have HB := Lib.hid e
    clear e
    go_enter Try.func5, Try.ntmps5
    go_wp2_with (first
      | (with_reducible refine (standard_any _).mono ?_; rintro e w1 ⟨rfl, hb1⟩; have st := store_one (P := Try.prog) w1 zcfg stc12 24 rfl stc_one; simp only [zcfg] at st)
      | (refine wpList_load_row rfl 24 (.tmp 7) rfl _ rfl 24 (stc12.setIfInBounds 5 (.float .f64 f)) (0, 0) _ ?hg50 Try.underlying24 rfl (by kernel_rfl) ?_; case hg50 => exact heap_alloc_new _ _)
      | (with_reducible refine (HF.out _).mono ?_; rintro e w2 ⟨v, rfl, hown, hb2⟩; rw [HB.out] at hown; obtain ⟨g, cp, rfl⟩ := own_nil hown; clear hown)
      | (with_reducible refine (shown10 _).mono ?_; rintro e w3 ⟨rfl, hb3⟩; obtain ⟨q1, _⟩ := bcell hb3))
    go_ret
    exact ⟨rfl, bnext (bnext (balloc hb1 _) hb2) hb3⟩
  · have HB := Lib.hid e
    clear e
    go_enter Try.func5, Try.ntmps5
    go_wp2_with (first
      | (with_reducible refine (standard_any _).mono ?_; rintro e w1 ⟨rfl, hb1⟩; have st := store_one (P := Try.prog) w1 zcfg stc12 24 rfl stc_one; simp only [zcfg] at st)
      | (refine wpList_load_row rfl 24 (.tmp 7) rfl _ rfl 24 (stc12.setIfInBounds 5 (.float .f64 f)) (0, 0) _ ?hg51 Try.underlying24 rfl (by kernel_rfl) ?_; case hg51 => exact heap_alloc_new _ _)
      | (with_reducible refine (HF.out _).mono ?_; rintro e w2 ⟨v, rfl, hown, hb2⟩; rw [HB.out] at hown; obtain ⟨g, cp, rfl, hcell⟩ := own_one hown; have hlt := block_lt_of_cell hcell; clear hown)
      | (with_reducible refine (shown10 _).mono ?_; rintro e w3 ⟨rfl, hb3⟩; obtain ⟨q1, _⟩ := bcell hb3))
    go_ret
    exact ⟨rfl, bnext (bnext (balloc hb1 _) hb2) hb3⟩
set_option maxHeartbeats 2000000 in
theorem one_walk6 (a : Int) (f : Nat) (n : Int) (hK : a % 12 = 6) (ha0 : 0 ≤ a) (ha1 : a ≤ 255) (hf : f < 18446744073709551616) (w : World) :
    Calls Try.prog 5 #[.int .u8 a, .float .f64 f, .int .i64 n] w fun e w' => e = .returned (.bool true) ∧ Below w.heap.size w w' := by
  have hx : stc12[6]? = some (.float .f64 4616189618054758400) := rfl
  have sf := store_float Try.prog
  have HF := Lib.hid (fun w => faults_list (oneCfg 6 f n) (one_ok6 f n hf) w)
  rw [one_cells6] at HF
  rcases one_bads6 f n hf with e | e
  · have HB := Lib.hid e
    clear e
    go_enter Try.func5, Try.ntmps5
    go_wp2_with (first
      | (with_reducible refine (standard_any _).mono ?_; rintro e w1 ⟨rfl, hb1⟩; have st := store_one (P := Try.prog) w1 zcfg stc12 24 rfl stc_one; simp only [zcfg] at st)
      | (refine wpList_load_row rfl 24 (.tmp 7) rfl _ rfl 24 (stc12.setIfInBounds 6 (.float .f64 f)) (0, 0) _ ?hg60 Try.underlying24 rfl (by kernel_rfl) ?_; case hg60 => exact heap_alloc_new _ _)
      | (with_reducible refine (HF.out _).mono ?_; rintro e w2 ⟨v, rfl, hown, hb2⟩; rw [HB.out] at hown; obtain ⟨g, cp, rfl⟩ := own_nil hown; clear hown)
      | (with_reducible refine (shown10 _).mono ?_; rintro e w3 ⟨rfl, hb3⟩; obtain ⟨q1, _⟩ := bcell hb3))
    go_ret
    exact ⟨rfl, bnext (bnext (balloc hb1 _) hb2) hb3⟩
  · have HB := Lib.hid e
    clear e
    go_enter Try.func5, Try.ntmps5
    go_wp2_with (first
      | (with_reducible refine (standard_any _).mono ?_; rintro e w1 ⟨rfl, hb1⟩; have st := store_one (P := Try.prog) w1 zcfg stc12 24 rfl stc_one; simp only [zcfg] at st)
      | (refine wpList_load_row rfl 24 (.tmp 7) rfl _ rfl 24 (stc12.setIfInBounds 6 (.float .f64 f)) (0, 0) _ ?hg61 Try.underlying24 rfl (by kernel_rfl) ?_; case hg61 => exact heap_alloc_new _ _)
      | (with_reducible refine (HF.out _).mono ?_; rintro e w2 ⟨v, rfl, hown, hb2⟩; rw [HB.out] at hown; obtain ⟨g, cp, rfl, hcell⟩ := own_one hown; have hlt := block_lt_of_cell hcell; clear hown)
      | (with_reducible refine (shown10 _).mono ?_; rintro e w3 ⟨rfl, hb3⟩; obtain ⟨q1, _⟩ := bcell hb3))
    go_ret
    exact ⟨rfl, bnext (bnext (balloc hb1 _) hb2) hb3⟩
set_option maxHeartbeats 2000000 in
theorem one_walk7 (a : Int) (f : Nat) (n : Int) (hK : a % 12 = 7) (ha0 : 0 ≤ a) (ha1 : a ≤ 255) (hf : f < 18446744073709551616) (w : World) :
    Calls Try.prog 5 #[.int .u8 a, .float .f64 f, .int .i64 n] w fun e w' => e = .returned (.bool true) ∧ Below w.heap.size w w' := by
  have hx : stc12[7]? = some (.int .i64 6) := rfl
  have sf := store_float Try.prog
  have HF := Lib.hid (fun w => faults_list (oneCfg 7 f n) (one_ok7 f n hf) w)
  rw [one_cells7] at HF
  rcases one_bads7 f n with e | e | e
  · have HB := Lib.hid e
    clear e
    go_enter Try.func5, Try.ntmps5
    go_wp2_with (first
      | (with_reducible refine (standard_any _).mono ?_; rintro e w1 ⟨rfl, hb1⟩; have st := store_one (P := Try.prog) w1 zcfg stc12 24 rfl stc_one; simp only [zcfg] at st)
      | (refine wpList_load_row rfl 24 (.tmp 7) rfl _ rfl 24 (stc12.setIfInBounds 7 (.int .i64 n)) (0, 0) _ ?hg70 Try.underlying24 rfl (by kernel_rfl) ?_; case hg70 => exact heap_alloc_new _ _)
      | (with_reducible refine (HF.out _).mono ?_; rintro e w2 ⟨v, rfl, hown, hb2⟩; rw [HB.out] at hown; obtain ⟨g, cp, rfl⟩ := own_nil hown; clear hown)
      | (with_reducible refine (shown10 _).mono ?_; rintro e w3 ⟨rfl, hb3⟩; obtain ⟨q1, _⟩ := bcell hb3))
    go_ret
    exact ⟨rfl, bnext (bnext (balloc hb1 _) hb2) hb3⟩
  · have HB := Lib.hid e
    clear e
    go_enter Try.func5, Try.ntmps5
    go_wp2_with (first
      | (with_reducible refine (standard_any _).mono ?_; rintro e w1 ⟨rfl, hb1⟩; have st := store_one (P := Try.prog) w1 zcfg stc12 24 rfl stc_one; simp only [zcfg] at st)
      | (refine wpList_load_row rfl 24 (.tmp 7) rfl _ rfl 24 (stc12.setIfInBounds 7 (.int .i64 n)) (0, 0) _ ?hg71 Try.underlying24 rfl (by kernel_rfl) ?_; case hg71 => exact heap_alloc_new _ _)
      | (with_reducible refine (HF.out _).mono ?_; rintro e w2 ⟨v, rfl, hown, hb2⟩; rw [HB.out] at hown; obtain ⟨g, cp, rfl, hcell⟩ := own_one hown; have hlt := block_lt_of_cell hcell; clear hown)
      | (with_reducible refine (shown10 _).mono ?_; rintro e w3 ⟨rfl, hb3⟩; obtain ⟨q1, _⟩ := bcell hb3))
    go_ret
    exact ⟨rfl, bnext (bnext (balloc hb1 _) hb2) hb3⟩
  · have HB := Lib.hid e
    clear e
    go_enter Try.func5, Try.ntmps5
    go_wp2_with (first
      | (with_reducible refine (standard_any _).mono ?_; rintro e w1 ⟨rfl, hb1⟩; have st := store_one (P := Try.prog) w1 zcfg stc12 24 rfl stc_one; simp only [zcfg] at st)
      | (refine wpList_load_row rfl 24 (.tmp 7) rfl _ rfl 24 (stc12.setIfInBounds 7 (.int .i64 n)) (0, 0) _ ?hg72 Try.underlying24 rfl (by kernel_rfl) ?_; case hg72 => exact heap_alloc_new _ _)
      | (with_reducible refine (HF.out _).mono ?_; rintro e w2 ⟨v, rfl, hown, hb2⟩; rw [HB.out] at hown; obtain ⟨g, cp, rfl, hcell⟩ := own_one hown; have hlt := block_lt_of_cell hcell; clear hown)
      | (with_reducible refine (shown10 _).mono ?_; rintro e w3 ⟨rfl, hb3⟩; obtain ⟨q1, _⟩ := bcell hb3))
    go_ret
    exact ⟨rfl, bnext (bnext (balloc hb1 _) hb2) hb3⟩
set_option maxHeartbeats 2000000 in
theorem one_walk8 (a : Int) (f : Nat) (n : Int) (hK : a % 12 = 8) (ha0 : 0 ≤ a) (ha1 : a ≤ 255) (hf : f < 18446744073709551616) (w : World) :
    Calls Try.prog 5 #[.int .u8 a, .float .f64 f, .int .i64 n] w fun e w' => e = .returned (.bool true) ∧ Below w.heap.size w w' := by
  have hx : stc12[8]? = some (.int .i64 10) := rfl
  have sf := store_float Try.prog
  have HF := Lib.hid (fun w => faults_list (oneCfg 8 f n) (one_ok8 f n hf) w)
  rw [one_cells8] at HF
  rcases one_bads8 f n hf with e | e
  · have HB := Lib.hid e
    clear e
    go_enter Try.func5, Try.ntmps5
    go_wp2_with (first
      | (with_reducible refine (standard_any _).mono ?_; rintro e w1 ⟨rfl, hb1⟩; have st := store_one (P := Try.prog) w1 zcfg stc12 24 rfl stc_one; simp only [zcfg] at st)
      | (refine wpList_load_row rfl 24 (.tmp 7) rfl _ rfl 24 (stc12.setIfInBounds 8 (.int .i64 n)) (0, 0) _ ?hg80 Try.underlying24 rfl (by kernel_rfl) ?_; case hg80 => exact heap_alloc_new _ _)
      | (with_reducible refine (HF.out _).mono ?_; rintro e w2 ⟨v, rfl, hown, hb2⟩; rw [HB.out] at hown; obtain ⟨g, cp, rfl⟩ := own_nil hown; clear hown)
      | (with_reducible refine (shown10 _).mono ?_; rintro e w3 ⟨rfl, hb3⟩; obtain ⟨q1, _⟩ := bcell hb3))
    go_ret
    exact ⟨rfl, bnext (bnext (balloc hb1 _) hb2) hb3⟩
  · have HB := Lib.hid e
    clear e
    go_enter Try.func5, Try.ntmps5
    go_wp2_with (first
      | (with_reducible refine (standard_any _).mono ?_; rintro e w1 ⟨rfl, hb1⟩; have st := store_one (P := Try.prog) w1 zcfg stc12 24 rfl stc_one; simp only [zcfg] at st)
      | (refine wpList_load_row rfl 24 (.tmp 7) rfl _ rfl 24 (stc12.setIfInBounds 8 (.int .i64 n)) (0, 0) _ ?hg81 Try.underlying24 rfl (by kernel_rfl) ?_; case hg81 => exact heap_alloc_new _ _)
      | (with_reducible refine (HF.out _).mono ?_; rintro e w2 ⟨v, rfl, hown, hb2⟩; rw [HB.out] at hown; obtain ⟨g, cp, rfl, hcell⟩ := own_one hown; have hlt := block_lt_of_cell hcell; clear hown)
      | (with_reducible refine (shown10 _).mono ?_; rintro e w3 ⟨rfl, hb3⟩; obtain ⟨q1, _⟩ := bcell hb3))
    go_ret
    exact ⟨rfl, bnext (bnext (balloc hb1 _) hb2) hb3⟩
set_option maxHeartbeats 2000000 in
theorem one_walk9 (a : Int) (f : Nat) (n : Int) (hK : a % 12 = 9) (ha0 : 0 ≤ a) (ha1 : a ≤ 255) (hf : f < 18446744073709551616) (w : World) :
    Calls Try.prog 5 #[.int .u8 a, .float .f64 f, .int .i64 n] w fun e w' => e = .returned (.bool true) ∧ Below w.heap.size w w' := by
  have hx : stc12[9]? = some (.int .i64 0) := rfl
  have sf := store_float Try.prog
  have HF := Lib.hid (fun w => faults_list (oneCfg 9 f n) (one_ok9 f n hf) w)
  rw [one_cells9] at HF
  rcases one_bads9 f n hf with e | e
  · have HB := Lib.hid e
    clear e
    go_enter Try.func5, Try.ntmps5
    go_wp2_with (first
      | (with_reducible refine (standard_any _).mono ?_; rintro e w1 ⟨rfl, hb1⟩; have st := store_one (P := Try.prog) w1 zcfg stc12 24 rfl stc_one; simp only [zcfg] at st)
      | (refine wpList_load_row rfl 24 (.tmp 7) rfl _ rfl 24 (stc12.setIfInBounds 9 (.int .i64 n)) (0, 0) _ ?hg90 Try.underlying24 rfl (by kernel_rfl) ?_; case hg90 => exact heap_alloc_new _ _)
      | (with_reducible refine (HF.out _).mono ?_; rintro e w2 ⟨v, rfl, hown, hb2⟩; rw [HB.out] at hown; obtain ⟨g, cp, rfl⟩ := own_nil hown; clear hown)
      | (with_reducible refine (shown10 _).mono ?_; rintro e w3 ⟨rfl, hb3⟩; obtain ⟨q1, _⟩ := bcell hb3))
    go_ret
    exact ⟨rfl, bnext (bnext (balloc hb1 _) hb2) hb3⟩
  · have HB := Lib.hid e
    clear e
    go_enter Try.func5, Try.ntmps5
    go_wp2_with (first
      | (with_reducible refine (standard_any _).mono ?_; rintro e w1 ⟨rfl, hb1⟩; have st := store_one (P := Try.prog) w1 zcfg stc12 24 rfl stc_one; simp only [zcfg] at st)
      | (refine wpList_load_row rfl 24 (.tmp 7) rfl _ rfl 24 (stc12.setIfInBounds 9 (.int .i64 n)) (0, 0) _ ?hg91 Try.underlying24 rfl (by kernel_rfl) ?_; case hg91 => exact heap_alloc_new _ _)
      | (with_reducible refine (HF.out _).mono ?_; rintro e w2 ⟨v, rfl, hown, hb2⟩; rw [HB.out] at hown; obtain ⟨g, cp, rfl, hcell⟩ := own_one hown; have hlt := block_lt_of_cell hcell; clear hown)
      | (with_reducible refine (shown10 _).mono ?_; rintro e w3 ⟨rfl, hb3⟩; obtain ⟨q1, _⟩ := bcell hb3))
    go_ret
    exact ⟨rfl, bnext (bnext (balloc hb1 _) hb2) hb3⟩
set_option maxHeartbeats 2000000 in
theorem one_walk10 (a : Int) (f : Nat) (n : Int) (hK : a % 12 = 10) (ha0 : 0 ≤ a) (ha1 : a ≤ 255) (hf : f < 18446744073709551616) (w : World) :
    Calls Try.prog 5 #[.int .u8 a, .float .f64 f, .int .i64 n] w fun e w' => e = .returned (.bool true) ∧ Below w.heap.size w w' := by
  have hx : stc12[10]? = some (.int .i64 1) := rfl
  have sf := store_float Try.prog
  have HF := Lib.hid (fun w => faults_list (oneCfg 10 f n) (one_ok10 f n hf) w)
  rw [one_cells10] at HF
  rcases one_bads10 f n hf with e | e
  · have HB := Lib.hid e
    clear e
    go_enter Try.func5, Try.ntmps5
    go_wp2_with (first
      | (with_reducible refine (standard_any _).mono ?_; rintro e w1 ⟨rfl, hb1⟩; have st := store_one (P := Try.prog) w1 zcfg stc12 24 rfl stc_one; simp only [zcfg] at st)
      | (refine wpList_load_row rfl 24 (.tmp 7) rfl _ rfl 24 (stc12.setIfInBounds 10 (.int .i64 n)) (0, 0) _ ?hg100 Try.underlying24 rfl (by kernel_rfl) ?_; case hg100 => exact heap_alloc_new _ _)
      | (with_reducible refine (HF.out _).mono ?_; rintro e w2 ⟨v, rfl, hown, hb2⟩; rw [HB.out] at hown; obtain ⟨g, cp, rfl⟩ := own_nil hown; clear hown)
      | (with_reducible refine (shown10 _).mono ?_; rintro e w3 ⟨rfl, hb3⟩; obtain ⟨q1, _⟩ := bcell hb3))
    go_ret
    exact ⟨rfl, bnext (bnext (balloc hb1 _) hb2) hb3⟩
  · have HB := Lib.hid e
    clear e
    go_enter Try.func5, Try.ntmps5
    go_wp2_with (first
      | (with_reducible refine (standard_any _).mono ?_; rintro e w1 ⟨rfl, hb1⟩; have st := store_one (P := Try.prog) w1 zcfg stc12 24 rfl stc_one; simp only [zcfg] at st)
      | (refine wpList_load_row rfl 24 (.tmp 7) rfl _ rfl 24 (stc12.setIfInBounds 10 (.int .i64 n)) (0, 0) _ ?hg101 Try.underlying24 rfl (by kernel_rfl) ?_; case hg101 => exact heap_alloc_new _ _)
      | (with_reducible refine (HF.out _).mono ?_; rintro e w2 ⟨v, rfl, hown, hb2⟩; rw [HB.out] at hown; obtain ⟨g, cp, rfl, hcell⟩ := own_one hown; have hlt := block_lt_of_cell hcell; clear hown)
      | (with_reducible refine (shown10 _).mono ?_; rintro e w3 ⟨rfl, hb3⟩; obtain ⟨q1, _⟩ := bcell hb3))
    go_ret
    exact ⟨rfl, bnext (bnext (balloc hb1 _) hb2) hb3⟩
set_option maxHeartbeats 2000000 in
theorem one_walk11 (a : Int) (f : Nat) (n : Int) (hK : a % 12 = 11) (ha0 : 0 ≤ a) (ha1 : a ≤ 255) (hf : f < 18446744073709551616) (w : World) :
    Calls Try.prog 5 #[.int .u8 a, .float .f64 f, .int .i64 n] w fun e w' => e = .returned (.bool true) ∧ Below w.heap.size w w' := by
  have hx : stc12[11]? = some (.int .i64 3) := rfl
  have sf := store_float Try.prog
  have HF := Lib.hid (fun w => faults_list (oneCfg 11 f n) (one_ok11 f n hf) w)
  rw [one_cells11] at HF
  rcases one_bads11 f n hf with e | e
  · have HB := Lib.hid e
    clear e
    go_enter Try.func5, Try.ntmps5
    go_wp2_with (first
      | (with_reducible refine (standard_any _).mono ?_; rintro e w1 ⟨rfl, hb1⟩; have st := store_one (P := Try.prog) w1 zcfg stc12 24 rfl stc_one; simp only [zcfg] at st)
      | (refine wpList_load_row rfl 24 (.tmp 7) rfl _ rfl 24 (stc12.setIfInBounds 11 (.int .i64 n)) (0, 0) _ ?hg110 Try.underlying24 rfl (by kernel_rfl) ?_; case hg110 => exact heap_alloc_new _ _)
      | (with_reducible refine (HF.out _).mono ?_; rintro e w2 ⟨v, rfl, hown, hb2⟩; rw [HB.out] at hown; obtain ⟨g, cp, rfl⟩ := own_nil hown; clear hown)
      | (with_reducible refine (shown10 _).mono ?_; rintro e w3 ⟨rfl, hb3⟩; obtain ⟨q1, _⟩ := bcell hb3))
    go_ret
    exact ⟨rfl, bnext (bnext (balloc hb1 _) hb2) hb3⟩
  · have HB := Lib.hid e
    clear e
    go_enter Try.func5, Try.ntmps5
    go_wp2_with (first
      | (with_reducible refine (standard_any _).mono ?_; rintro e w1 ⟨rfl, hb1⟩; have st := store_one (P := Try.prog) w1 zcfg stc12 24 rfl stc_one; simp only [zcfg] at st)
      | (refine wpList_load_row rfl 24 (.tmp 7) rfl _ rfl 24 (stc12.setIfInBounds 11 (.int .i64 n)) (0, 0) _ ?hg111 Try.underlying24 rfl (by kernel_rfl) ?_; case hg111 => exact heap_alloc_new _ _)
      | (with_reducible refine (HF.out _).mono ?_; rintro e w2 ⟨v, rfl, hown, hb2⟩; rw [HB.out] at hown; obtain ⟨g, cp, rfl, hcell⟩ := own_one hown; have hlt := block_lt_of_cell hcell; clear hown)
      | (with_reducible refine (shown10 _).mono ?_; rintro e w3 ⟨rfl, hb3⟩; obtain ⟨q1, _⟩ := bcell hb3))
    go_ret
    exact ⟨rfl, bnext (bnext (balloc hb1 _) hb2) hb3⟩
theorem one_walk (a : Int) (f : Nat) (n : Int) (ha : 0 ≤ a ∧ a ≤ 255) (hf : f < 18446744073709551616) (w : World) :
    Calls Try.prog 5 #[.int .u8 a, .float .f64 f, .int .i64 n] w fun e w' => e = .returned (.bool true) ∧ Below w.heap.size w w' := by
  have h : a % 12 = 0 ∨ a % 12 = 1 ∨ a % 12 = 2 ∨ a % 12 = 3 ∨ a % 12 = 4 ∨ a % 12 = 5 ∨ a % 12 = 6 ∨ a % 12 = 7 ∨ a % 12 = 8 ∨ a % 12 = 9 ∨ a % 12 = 10 ∨ a % 12 = 11 := by omega
  rcases h with h | h | h | h | h | h | h | h | h | h | h | h
  · exact one_walk0 a f n h ha.1 ha.2 hf w
  · exact one_walk1 a f n h ha.1 ha.2 hf w
  · exact one_walk2 a f n h ha.1 ha.2 hf w
  · exact one_walk3 a f n h ha.1 ha.2 hf w
  · exact one_walk4 a f n h ha.1 ha.2 hf w
  · exact one_walk5 a f n h ha.1 ha.2 hf w
  · exact one_walk6 a f n h ha.1 ha.2 hf w
  · exact one_walk7 a f n h ha.1 ha.2 hf w
  · exact one_walk8 a f n h ha.1 ha.2 hf w
  · exact one_walk9 a f n h ha.1 ha.2 hf w
  · exact one_walk10 a f n h ha.1 ha.2 hf w
  · exact one_walk11 a f n h ha.1 ha.2 hf w
end Go.Proofs.Ytmgfnejiienghaa
