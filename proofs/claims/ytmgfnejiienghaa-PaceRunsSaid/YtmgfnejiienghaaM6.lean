/- The walk over setup's faults. -/
import Derived.Test.YtmgfnejiienghaaM5
import Derived.Deep.DeepCutAuto
namespace Go.Proofs.Ytmgfnejiienghaa
open Go.RowKit
set_option linter.unusedVariables false
set_option maxRecDepth 100000

theorem checkf1 (b pb : Nat) (x : Nat) (old : Value) (w : World) (hx : x < 18446744073709551616) (hc : w.cell? ⟨b, 0, none⟩ = some (.float .f64 x)) (hb : b < w.heap.size) (hp : w.cell? ⟨pb, 0, none⟩ = some old) (hf : w.frozen? ⟨pb, 0, none⟩ = false) (hpb : pb < w.heap.size) :
    Calls Try.prog 153 #[fa1, .pointer (some ⟨b, 0, none⟩), .pointer (some ⟨pb, 0, none⟩)] w fun e w' => e = .returned (.int .i64 (fWithin x 4562254508917369340 4621819117588971520).2) ∧ Below w.heap.size (w.setCell ⟨pb, 0, none⟩ (.int .i64 (fWithin x 4562254508917369340 4621819117588971520).1)) w' := by
  have hc' : w.cell? ⟨b, 0 + 0, none⟩ = some (.float .f64 x) := hc
  have hp' : w.cell? ⟨pb, 0 + 0, none⟩ = some old := hp
  have hf' : w.frozen? ⟨pb, 0 + 0, none⟩ = false := hf
  exact check_float _ _ _ _ _ _ x b 0 0 pb 0 old w hx (by decide) (by decide) hc' hb hp' hf' hpb (at1_call b) (at1_any b) (to1_call pb) (to1_any pb)
theorem checkf2 (b pb : Nat) (x : Nat) (old : Value) (w : World) (hx : x < 18446744073709551616) (hc : w.cell? ⟨b, 1, none⟩ = some (.float .f64 x)) (hb : b < w.heap.size) (hp : w.cell? ⟨pb, 1, none⟩ = some old) (hf : w.frozen? ⟨pb, 1, none⟩ = false) (hpb : pb < w.heap.size) :
    Calls Try.prog 153 #[fa2, .pointer (some ⟨b, 0, none⟩), .pointer (some ⟨pb, 0, none⟩)] w fun e w' => e = .returned (.int .i64 (fWithin x 4607182418800017408 4660134898793709568).2) ∧ Below w.heap.size (w.setCell ⟨pb, 1, none⟩ (.int .i64 (fWithin x 4607182418800017408 4660134898793709568).1)) w' := by
  have hc' : w.cell? ⟨b, 0 + 1, none⟩ = some (.float .f64 x) := hc
  have hp' : w.cell? ⟨pb, 0 + 1, none⟩ = some old := hp
  have hf' : w.frozen? ⟨pb, 0 + 1, none⟩ = false := hf
  exact check_float _ _ _ _ _ _ x b 0 1 pb 0 old w hx (by decide) (by decide) hc' hb hp' hf' hpb (at2_call b) (at2_any b) (to2_call pb) (to2_any pb)
theorem checkf3 (b pb : Nat) (x : Nat) (old : Value) (w : World) (hx : x < 18446744073709551616) (hc : w.cell? ⟨b, 2, none⟩ = some (.float .f64 x)) (hb : b < w.heap.size) (hp : w.cell? ⟨pb, 2, none⟩ = some old) (hf : w.frozen? ⟨pb, 2, none⟩ = false) (hpb : pb < w.heap.size) :
    Calls Try.prog 153 #[fa3, .pointer (some ⟨b, 0, none⟩), .pointer (some ⟨pb, 0, none⟩)] w fun e w' => e = .returned (.int .i64 (fWithin x 4607182418800017408 4681608360884174848).2) ∧ Below w.heap.size (w.setCell ⟨pb, 2, none⟩ (.int .i64 (fWithin x 4607182418800017408 4681608360884174848).1)) w' := by
  have hc' : w.cell? ⟨b, 0 + 2, none⟩ = some (.float .f64 x) := hc
  have hp' : w.cell? ⟨pb, 0 + 2, none⟩ = some old := hp
  have hf' : w.frozen? ⟨pb, 0 + 2, none⟩ = false := hf
  exact check_float _ _ _ _ _ _ x b 0 2 pb 0 old w hx (by decide) (by decide) hc' hb hp' hf' hpb (at3_call b) (at3_any b) (to3_call pb) (to3_any pb)
theorem checkf4 (b pb : Nat) (x : Nat) (old : Value) (w : World) (hx : x < 18446744073709551616) (hc : w.cell? ⟨b, 3, none⟩ = some (.float .f64 x)) (hb : b < w.heap.size) (hp : w.cell? ⟨pb, 3, none⟩ = some old) (hf : w.frozen? ⟨pb, 3, none⟩ = false) (hpb : pb < w.heap.size) :
    Calls Try.prog 153 #[fa4, .pointer (some ⟨b, 0, none⟩), .pointer (some ⟨pb, 0, none⟩)] w fun e w' => e = .returned (.int .i64 (fWithin x 4517329193108106637 4591870180066957722).2) ∧ Below w.heap.size (w.setCell ⟨pb, 3, none⟩ (.int .i64 (fWithin x 4517329193108106637 4591870180066957722).1)) w' := by
  have hc' : w.cell? ⟨b, 0 + 3, none⟩ = some (.float .f64 x) := hc
  have hp' : w.cell? ⟨pb, 0 + 3, none⟩ = some old := hp
  have hf' : w.frozen? ⟨pb, 0 + 3, none⟩ = false := hf
  exact check_float _ _ _ _ _ _ x b 0 3 pb 0 old w hx (by decide) (by decide) hc' hb hp' hf' hpb (at4_call b) (at4_any b) (to4_call pb) (to4_any pb)
theorem checkf5 (b pb : Nat) (x : Nat) (old : Value) (w : World) (hx : x < 18446744073709551616) (hc : w.cell? ⟨b, 4, none⟩ = some (.float .f64 x)) (hb : b < w.heap.size) (hp : w.cell? ⟨pb, 4, none⟩ = some old) (hf : w.frozen? ⟨pb, 4, none⟩ = false) (hpb : pb < w.heap.size) :
    Calls Try.prog 153 #[fa5, .pointer (some ⟨b, 0, none⟩), .pointer (some ⟨pb, 0, none⟩)] w fun e w' => e = .returned (.int .i64 (fWithin x 0 4576918229304087675).2) ∧ Below w.heap.size (w.setCell ⟨pb, 4, none⟩ (.int .i64 (fWithin x 0 4576918229304087675).1)) w' := by
  have hc' : w.cell? ⟨b, 0 + 4, none⟩ = some (.float .f64 x) := hc
  have hp' : w.cell? ⟨pb, 0 + 4, none⟩ = some old := hp
  have hf' : w.frozen? ⟨pb, 0 + 4, none⟩ = false := hf
  exact check_float _ _ _ _ _ _ x b 0 4 pb 0 old w hx (by decide) (by decide) hc' hb hp' hf' hpb (at5_call b) (at5_any b) (to5_call pb) (to5_any pb)
theorem checkf6 (b pb : Nat) (x : Nat) (old : Value) (w : World) (hx : x < 18446744073709551616) (hc : w.cell? ⟨b, 5, none⟩ = some (.float .f64 x)) (hb : b < w.heap.size) (hp : w.cell? ⟨pb, 5, none⟩ = some old) (hf : w.frozen? ⟨pb, 5, none⟩ = false) (hpb : pb < w.heap.size) :
    Calls Try.prog 153 #[fa6, .pointer (some ⟨b, 0, none⟩), .pointer (some ⟨pb, 0, none⟩)] w fun e w' => e = .returned (.int .i64 (fWithin x 4576918229304087675 4625196817309499392).2) ∧ Below w.heap.size (w.setCell ⟨pb, 5, none⟩ (.int .i64 (fWithin x 4576918229304087675 4625196817309499392).1)) w' := by
  have hc' : w.cell? ⟨b, 0 + 5, none⟩ = some (.float .f64 x) := hc
  have hp' : w.cell? ⟨pb, 0 + 5, none⟩ = some old := hp
  have hf' : w.frozen? ⟨pb, 0 + 5, none⟩ = false := hf
  exact check_float _ _ _ _ _ _ x b 0 5 pb 0 old w hx (by decide) (by decide) hc' hb hp' hf' hpb (at6_call b) (at6_any b) (to6_call pb) (to6_any pb)
theorem checkf7 (b pb : Nat) (x : Nat) (old : Value) (w : World) (hx : x < 18446744073709551616) (hc : w.cell? ⟨b, 6, none⟩ = some (.float .f64 x)) (hb : b < w.heap.size) (hp : w.cell? ⟨pb, 6, none⟩ = some old) (hf : w.frozen? ⟨pb, 6, none⟩ = false) (hpb : pb < w.heap.size) :
    Calls Try.prog 153 #[fa7, .pointer (some ⟨b, 0, none⟩), .pointer (some ⟨pb, 0, none⟩)] w fun e w' => e = .returned (.int .i64 (fWithin x 4607182418800017408 4636737291354636288).2) ∧ Below w.heap.size (w.setCell ⟨pb, 6, none⟩ (.int .i64 (fWithin x 4607182418800017408 4636737291354636288).1)) w' := by
  have hc' : w.cell? ⟨b, 0 + 6, none⟩ = some (.float .f64 x) := hc
  have hp' : w.cell? ⟨pb, 0 + 6, none⟩ = some old := hp
  have hf' : w.frozen? ⟨pb, 0 + 6, none⟩ = false := hf
  exact check_float _ _ _ _ _ _ x b 0 6 pb 0 old w hx (by decide) (by decide) hc' hb hp' hf' hpb (at7_call b) (at7_any b) (to7_call pb) (to7_any pb)
theorem checkf8 (b pb : Nat) (x : Int) (old : Value) (w : World) (hc : w.cell? ⟨b, 7, none⟩ = some (.int .i64 x)) (hb : b < w.heap.size) (hp : w.cell? ⟨pb, 7, none⟩ = some old) (hf : w.frozen? ⟨pb, 7, none⟩ = false) (hpb : pb < w.heap.size) :
    Calls Try.prog 156 #[fa8, .pointer (some ⟨b, 0, none⟩), .pointer (some ⟨pb, 0, none⟩)] w fun e w' => e = .returned (.int .i64 (sWhole x 4 17).2) ∧ Below w.heap.size (w.setCell ⟨pb, 7, none⟩ (.int .i64 (sWhole x 4 17).1)) w' := by
  have hc' : w.cell? ⟨b, 0 + 7, none⟩ = some (.int .i64 x) := hc
  have hp' : w.cell? ⟨pb, 0 + 7, none⟩ = some old := hp
  have hf' : w.frozen? ⟨pb, 0 + 7, none⟩ = false := hf
  exact check_int _ _ _ _ _ _ x b 0 7 pb 0 old w hc' hb hp' hf' hpb (at8_call b) (at8_any b) (to8_call pb) (to8_any pb)
theorem checkf9 (b pb : Nat) (x : Int) (old : Value) (w : World) (hc : w.cell? ⟨b, 8, none⟩ = some (.int .i64 x)) (hb : b < w.heap.size) (hp : w.cell? ⟨pb, 8, none⟩ = some old) (hf : w.frozen? ⟨pb, 8, none⟩ = false) (hpb : pb < w.heap.size) :
    Calls Try.prog 156 #[fa9, .pointer (some ⟨b, 0, none⟩), .pointer (some ⟨pb, 0, none⟩)] w fun e w' => e = .returned (.int .i64 (sWhole x 4 17).2) ∧ Below w.heap.size (w.setCell ⟨pb, 8, none⟩ (.int .i64 (sWhole x 4 17).1)) w' := by
  have hc' : w.cell? ⟨b, 0 + 8, none⟩ = some (.int .i64 x) := hc
  have hp' : w.cell? ⟨pb, 0 + 8, none⟩ = some old := hp
  have hf' : w.frozen? ⟨pb, 0 + 8, none⟩ = false := hf
  exact check_int _ _ _ _ _ _ x b 0 8 pb 0 old w hc' hb hp' hf' hpb (at9_call b) (at9_any b) (to9_call pb) (to9_any pb)
theorem checkf10 (b pb : Nat) (x : Int) (old : Value) (w : World) (hc : w.cell? ⟨b, 9, none⟩ = some (.int .i64 x)) (hb : b < w.heap.size) (hp : w.cell? ⟨pb, 9, none⟩ = some old) (hf : w.frozen? ⟨pb, 9, none⟩ = false) (hpb : pb < w.heap.size) :
    Calls Try.prog 156 #[fa10, .pointer (some ⟨b, 0, none⟩), .pointer (some ⟨pb, 0, none⟩)] w fun e w' => e = .returned (.int .i64 (sWhole x 0 8).2) ∧ Below w.heap.size (w.setCell ⟨pb, 9, none⟩ (.int .i64 (sWhole x 0 8).1)) w' := by
  have hc' : w.cell? ⟨b, 0 + 9, none⟩ = some (.int .i64 x) := hc
  have hp' : w.cell? ⟨pb, 0 + 9, none⟩ = some old := hp
  have hf' : w.frozen? ⟨pb, 0 + 9, none⟩ = false := hf
  exact check_int _ _ _ _ _ _ x b 0 9 pb 0 old w hc' hb hp' hf' hpb (at10_call b) (at10_any b) (to10_call pb) (to10_any pb)
theorem checkf11 (b pb : Nat) (x : Int) (old : Value) (w : World) (hc : w.cell? ⟨b, 10, none⟩ = some (.int .i64 x)) (hb : b < w.heap.size) (hp : w.cell? ⟨pb, 10, none⟩ = some old) (hf : w.frozen? ⟨pb, 10, none⟩ = false) (hpb : pb < w.heap.size) :
    Calls Try.prog 156 #[fa11, .pointer (some ⟨b, 0, none⟩), .pointer (some ⟨pb, 0, none⟩)] w fun e w' => e = .returned (.int .i64 (sWhole x 1 10).2) ∧ Below w.heap.size (w.setCell ⟨pb, 10, none⟩ (.int .i64 (sWhole x 1 10).1)) w' := by
  have hc' : w.cell? ⟨b, 0 + 10, none⟩ = some (.int .i64 x) := hc
  have hp' : w.cell? ⟨pb, 0 + 10, none⟩ = some old := hp
  have hf' : w.frozen? ⟨pb, 0 + 10, none⟩ = false := hf
  exact check_int _ _ _ _ _ _ x b 0 10 pb 0 old w hc' hb hp' hf' hpb (at11_call b) (at11_any b) (to11_call pb) (to11_any pb)
theorem checkf12 (b pb : Nat) (x : Int) (old : Value) (w : World) (hc : w.cell? ⟨b, 11, none⟩ = some (.int .i64 x)) (hb : b < w.heap.size) (hp : w.cell? ⟨pb, 11, none⟩ = some old) (hf : w.frozen? ⟨pb, 11, none⟩ = false) (hpb : pb < w.heap.size) :
    Calls Try.prog 156 #[fa12, .pointer (some ⟨b, 0, none⟩), .pointer (some ⟨pb, 0, none⟩)] w fun e w' => e = .returned (.int .i64 (sWhole x 1 10).2) ∧ Below w.heap.size (w.setCell ⟨pb, 11, none⟩ (.int .i64 (sWhole x 1 10).1)) w' := by
  have hc' : w.cell? ⟨b, 0 + 11, none⟩ = some (.int .i64 x) := hc
  have hp' : w.cell? ⟨pb, 0 + 11, none⟩ = some old := hp
  have hf' : w.frozen? ⟨pb, 0 + 11, none⟩ = false := hf
  exact check_int _ _ _ _ _ _ x b 0 11 pb 0 old w hc' hb hp' hf' hpb (at12_call b) (at12_any b) (to12_call pb) (to12_any pb)

theorem heap_new_at {w : World} {b : Nat} (h : b = w.heap.size) (o : Obj) : (w.alloc o).heap[b]? = some o := by subst h; exact heap_alloc_new w o
/-- what holds of memory behind k fields -/
structure Flt (c : Cfg) (k : Nat) (w wr : World) : Prop where
  c0 : wr.heap[w.heap.size]? = some (.cells c.cells 24 (0, 0))
  c1 : ∃ cs, cs.size = 12 ∧ wr.heap[w.heap.size + 1]? = some (.cells cs 26 (0, 0))
  c2 : ∃ cs, cs.size = 13 ∧ wr.heap[w.heap.size + 2]? = some (.cells cs 86 (0, 0))
  c3 : wr.heap[w.heap.size + 3]? = some (.cells (c.pcs k) 26 (0, 0))
  c4 : wr.heap[w.heap.size + 4]? = some (.cells (c.ecs k) 86 (0, 0))
  c5 : wr.heap[w.heap.size + 5]? = some (.cells fvs 92 (0, 0))
  hz : w.heap.size + 5 < wr.heap.size
  hb : Below w.heap.size w wr

theorem Flt.step {c : Cfg} {k : Nat} {w wr w' : World} {v u : Value} (h : Flt c k w wr) (hb1 : Below wr.heap.size (wr.setCell ⟨w.heap.size + 3, k, none⟩ v) w')
    (hp : (c.pcs k).setIfInBounds k v = c.pcs (k + 1)) (he : (c.ecs k).setIfInBounds (k + 1) u = c.ecs (k + 1)) : Flt c (k + 1) w (w'.setCell ⟨w.heap.size + 4, k + 1, none⟩ u) := by
  obtain ⟨h0, ⟨cs1, z1, h1⟩, ⟨cs2, z2, h2⟩, h3, h4, h5, hz, hb⟩ := h
  have hsz := hb1.size
  rw [size_setCell] at hsz
  refine ⟨?_, ⟨cs1, z1, ?_⟩, ⟨cs2, z2, ?_⟩, ?_, ?_, ?_, by rw [size_setCell]; omega, ((hb.setCell (p := ⟨w.heap.size + 3, k, none⟩) (by simp) v).trans (hb1.mono hb.size)).setCell (p := ⟨w.heap.size + 4, k + 1, none⟩) (by simp) u⟩
  · refine heap_setCell_ne ?_ (by omega) u; rw [hb1.block _ (by omega)]; exact heap_setCell_ne h0 (by omega) v
  · refine heap_setCell_ne ?_ (by omega) u; rw [hb1.block _ (by omega)]; exact heap_setCell_ne h1 (by omega) v
  · refine heap_setCell_ne ?_ (by omega) u; rw [hb1.block _ (by omega)]; exact heap_setCell_ne h2 (by omega) v
  · refine heap_setCell_ne ?_ (by omega) u; rw [hb1.block _ (by omega), ← hp]; exact heap_setCell h3 v
  · rw [← he]; refine heap_setCell ?_ u; rw [hb1.block _ (by omega)]; exact heap_setCell_ne h4 (by omega) v
  · refine heap_setCell_ne ?_ (by omega) u; rw [hb1.block _ (by omega)]; exact heap_setCell_ne h5 (by omega) v
theorem Flt.eCell {c : Cfg} {k : Nat} {w wr w' : World} {v u : Value} {j : Nat} (h : Flt c k w wr) (hb1 : Below wr.heap.size (wr.setCell ⟨w.heap.size + 3, k, none⟩ v) w') (hj : (c.ecs k)[j]? = some u) :
    w'.cell? ⟨w.heap.size + 4, j, none⟩ = some u ∧ w'.frozen? ⟨w.heap.size + 4, j, none⟩ = false := by
  have e : w'.heap[w.heap.size + 4]? = some (.cells (c.ecs k) 86 (0, 0)) := by
    rw [hb1.block _ (by have := h.hz; omega)]; exact heap_setCell_ne h.c4 (by omega) v
  exact ⟨cell_of_heap e hj, free_of_heap e⟩

theorem Flt.start (c : Cfg) (w : World) (cs1 cs2 cs3 cs4 : Array Value) (z1 : cs1.size = 12) (z2 : cs2.size = 13) (h3 : cs3 = c.pcs 0) (h4 : cs4 = c.ecs 0) :
    Flt c 0 w ((((((w.alloc (.cells c.cells 24)).alloc (.cells cs1 26)).alloc (.cells cs2 86)).alloc (.cells cs3 26)).alloc (.cells cs4 86)).alloc (.cells fvs 92)) := by
  subst h3 h4
  refine ⟨?_, ⟨cs1, z1, ?_⟩, ⟨cs2, z2, ?_⟩, ?_, ?_, ?_, by simp, ?_⟩
  · rw [Below.heap_alloc _ _ _ (by simp only [World.size_alloc]; omega), Below.heap_alloc _ _ _ (by simp only [World.size_alloc]; omega), Below.heap_alloc _ _ _ (by simp only [World.size_alloc]; omega), Below.heap_alloc _ _ _ (by simp only [World.size_alloc]; omega), Below.heap_alloc _ _ _ (by simp only [World.size_alloc]; omega)]
    exact heap_new_at rfl _
  · rw [Below.heap_alloc _ _ _ (by simp only [World.size_alloc]; omega), Below.heap_alloc _ _ _ (by simp only [World.size_alloc]; omega), Below.heap_alloc _ _ _ (by simp only [World.size_alloc]; omega), Below.heap_alloc _ _ _ (by simp only [World.size_alloc]; omega)]
    exact heap_new_at (by simp) _
  · rw [Below.heap_alloc _ _ _ (by simp only [World.size_alloc]; omega), Below.heap_alloc _ _ _ (by simp only [World.size_alloc]; omega), Below.heap_alloc _ _ _ (by simp only [World.size_alloc]; omega)]
    exact heap_new_at (by simp) _
  · rw [Below.heap_alloc _ _ _ (by simp only [World.size_alloc]; omega), Below.heap_alloc _ _ _ (by simp only [World.size_alloc]; omega)]
    exact heap_new_at (by simp) _
  · rw [Below.heap_alloc _ _ _ (by simp only [World.size_alloc]; omega)]
    exact heap_new_at (by simp) _
  · exact heap_new_at (by simp) _
  · exact ((((((Below.refl _ _).alloc (Nat.le_refl _) _).alloc (by simp) _).alloc (by simp; omega) _).alloc (by simp; omega) _).alloc (by simp; omega) _).alloc (by simp; omega) _

theorem pcs_one (c : Cfg) : (c.pcs 12).all (·.oneCell') = true := by simp [Cfg.pcs, Value.oneCell']
theorem errs_one (c : Cfg) : c.errs.all (·.oneCell') = true := by simp [Cfg.errs, Value.oneCell']
theorem pcs12 (c : Cfg) : c.pcs 12 = c.set := by simp [Cfg.pcs, Cfg.set]
/-- behind the first test; behind the second -/
structure Flt2 (c : Cfg) (ec : Array Value) (w wr : World) : Prop where
  c0 : wr.heap[w.heap.size]? = some (.cells c.cells 24 (0, 0))
  c1 : ∃ cs, cs.size = 12 ∧ wr.heap[w.heap.size + 1]? = some (.cells cs 26 (0, 0))
  c2 : ∃ cs, cs.size = 13 ∧ wr.heap[w.heap.size + 2]? = some (.cells cs 86 (0, 0))
  c3 : wr.heap[w.heap.size + 3]? = some (.cells (c.pcs 12) 26 (0, 0))
  c4 : wr.heap[w.heap.size + 4]? = some (.cells ec 86 (0, 0))
  hb : Below w.heap.size w wr
def Cfg.ec3 (c : Cfg) : Array Value := (c.ecs 12).setIfInBounds 3 (.int .i64 c.e3)
theorem Flt.two {c : Cfg} {w wr : World} (h : Flt c 12 w wr) (he : c.e3 = (c.fld 2).2) : Flt2 c c.ec3 w wr :=
  ⟨h.c0, h.c1, h.c2, h.c3, by rw [h.c4, Cfg.ec3, he]; rfl, h.hb⟩
theorem Flt2.set {c : Cfg} {ec : Array Value} {w wr : World} (h : Flt2 c ec w wr) (j : Nat) (v : Value) : Flt2 c (ec.setIfInBounds j v) w (wr.setCell ⟨w.heap.size + 4, j, none⟩ v) := by
  obtain ⟨h0, ⟨cs1, z1, h1⟩, ⟨cs2, z2, h2⟩, h3, h4, hb⟩ := h
  exact ⟨heap_setCell_ne h0 (by omega) v, ⟨cs1, z1, heap_setCell_ne h1 (by omega) v⟩, ⟨cs2, z2, heap_setCell_ne h2 (by omega) v⟩, heap_setCell_ne h3 (by omega) v, heap_setCell h4 v, hb.setCell (p := ⟨w.heap.size + 4, j, none⟩) (by simp) v⟩
theorem Flt.two' {c : Cfg} {w wr : World} (h : Flt c 12 w wr) (he : c.e3 = 100) : Flt2 c c.ec3 w (wr.setCell ⟨w.heap.size + 4, 3, none⟩ (.int .i64 100)) := by
  have h2 : Flt2 c (c.ecs 12) w wr := ⟨h.c0, h.c1, h.c2, h.c3, h.c4, h.hb⟩
  rw [Cfg.ec3, he]
  exact h2.set 3 _
theorem Flt2.three {c : Cfg} {w wr : World} (h : Flt2 c c.ec3 w wr) (he : c.e9 = (c.fld 8).2) : Flt2 c c.errs w wr :=
  ⟨h.c0, h.c1, h.c2, h.c3, by rw [h.c4]; simp only [Cfg.errs, Cfg.err, he]; rfl, h.hb⟩
theorem Flt2.three' {c : Cfg} {w wr : World} (h : Flt2 c c.ec3 w wr) (he : c.e9 = 100) : Flt2 c c.errs w (wr.setCell ⟨w.heap.size + 4, 9, none⟩ (.int .i64 100)) := by
  have h2 := h.set 9 (.int .i64 100)
  have e : c.ec3.setIfInBounds 9 (.int .i64 100) = c.errs := by simp only [Cfg.errs, Cfg.err, he]; rfl
  rwa [e] at h2

set_option maxHeartbeats 6000000 in
theorem faults_any (c : Cfg) (hc : c.ok) (w : World) : Calls Try.prog 44 #[.agg c.cells] w fun e w' => e = .returned (.tuple #[.agg c.set, .agg c.errs]) ∧ Below w.heap.size w w' := by
  go_enter Try.func44, Try.ntmps44
  go_wp2_with (with_reducible refine (fields_any _).mono ?_; rintro e w' ⟨rfl, rfl⟩)
  go_loopw [6, 7, 10] (fun x y i wr => ∃ k : Nat, k ≤ 12 ∧ i = .int .i64 k ∧ Flt c k w wr) (fun _ _ i _ => 12 - (intOf i).toNat)
  case atStart => exact ⟨0, by omega, rfl, Flt.start c w _ _ _ _ rfl rfl rfl rfl⟩
  case round =>
    obtain ⟨k, hk, rfl, h⟩ := hrel
    by_cases e0 : k = 0
    · subst e0
      have c2 := cell_of_heap (o := 0) (v := .iface 146 fa1) h.c5 rfl
      have hm := m_check1
      have H := Lib.hid h
      have hz := h.hz
      clear h
      go_wp2_with fail
      refine (checkf1 _ _ _ (.int .i64 0) _ hc.step (cell_of_heap H.out.c0 rfl) (by omega) (cell_of_heap H.out.c3 rfl) (free_of_heap H.out.c3) (by omega)).mono ?_
      rintro e w' ⟨rfl, hb1⟩
      have q := H.out.eCell (j := 1) (u := .int .i64 0) hb1 rfl
      obtain ⟨q1, q2⟩ := q
      go_wp2_with fail
      exact ⟨⟨1, by omega, rfl, H.out.step hb1 (by rfl) (by rfl)⟩, by simp [intOf]⟩
    by_cases e1 : k = 1
    · subst e1
      have c2 := cell_of_heap (o := 1) (v := .iface 146 fa2) h.c5 rfl
      have hm := m_check2
      have H := Lib.hid h
      have hz := h.hz
      clear h
      go_wp2_with fail
      refine (checkf2 _ _ _ (.int .i64 0) _ hc.watch (cell_of_heap H.out.c0 rfl) (by omega) (cell_of_heap H.out.c3 rfl) (free_of_heap H.out.c3) (by omega)).mono ?_
      rintro e w' ⟨rfl, hb1⟩
      have q := H.out.eCell (j := 2) (u := .int .i64 0) hb1 rfl
      obtain ⟨q1, q2⟩ := q
      go_wp2_with fail
      exact ⟨⟨2, by omega, rfl, H.out.step hb1 (by rfl) (by rfl)⟩, by simp [intOf]⟩
    by_cases e2 : k = 2
    · subst e2
      have c2 := cell_of_heap (o := 2) (v := .iface 146 fa3) h.c5 rfl
      have hm := m_check3
      have H := Lib.hid h
      have hz := h.hz
      clear h
      go_wp2_with fail
      refine (checkf3 _ _ _ (.int .i64 0) _ hc.panic (cell_of_heap H.out.c0 rfl) (by omega) (cell_of_heap H.out.c3 rfl) (free_of_heap H.out.c3) (by omega)).mono ?_
      rintro e w' ⟨rfl, hb1⟩
      have q := H.out.eCell (j := 3) (u := .int .i64 0) hb1 rfl
      obtain ⟨q1, q2⟩ := q
      go_wp2_with fail
      exact ⟨⟨3, by omega, rfl, H.out.step hb1 (by rfl) (by rfl)⟩, by simp [intOf]⟩
    by_cases e3 : k = 3
    · subst e3
      have c2 := cell_of_heap (o := 3) (v := .iface 146 fa4) h.c5 rfl
      have hm := m_check4
      have H := Lib.hid h
      have hz := h.hz
      clear h
      go_wp2_with fail
      refine (checkf4 _ _ _ (.int .i64 0) _ hc.maxRate (cell_of_heap H.out.c0 rfl) (by omega) (cell_of_heap H.out.c3 rfl) (free_of_heap H.out.c3) (by omega)).mono ?_
      rintro e w' ⟨rfl, hb1⟩
      have q := H.out.eCell (j := 4) (u := .int .i64 0) hb1 rfl
      obtain ⟨q1, q2⟩ := q
      go_wp2_with fail
      exact ⟨⟨4, by omega, rfl, H.out.step hb1 (by rfl) (by rfl)⟩, by simp [intOf]⟩
    by_cases e4 : k = 4
    · subst e4
      have c2 := cell_of_heap (o := 4) (v := .iface 146 fa5) h.c5 rfl
      have hm := m_check5
      have H := Lib.hid h
      have hz := h.hz
      clear h
      go_wp2_with fail
      refine (checkf5 _ _ _ (.int .i64 0) _ hc.phi (cell_of_heap H.out.c0 rfl) (by omega) (cell_of_heap H.out.c3 rfl) (free_of_heap H.out.c3) (by omega)).mono ?_
      rintro e w' ⟨rfl, hb1⟩
      have q := H.out.eCell (j := 5) (u := .int .i64 0) hb1 rfl
      obtain ⟨q1, q2⟩ := q
      go_wp2_with fail
      exact ⟨⟨5, by omega, rfl, H.out.step hb1 (by rfl) (by rfl)⟩, by simp [intOf]⟩
    by_cases e5 : k = 5
    · subst e5
      have c2 := cell_of_heap (o := 5) (v := .iface 146 fa6) h.c5 rfl
      have hm := m_check6
      have H := Lib.hid h
      have hz := h.hz
      clear h
      go_wp2_with fail
      refine (checkf6 _ _ _ (.int .i64 0) _ hc.maxDist (cell_of_heap H.out.c0 rfl) (by omega) (cell_of_heap H.out.c3 rfl) (free_of_heap H.out.c3) (by omega)).mono ?_
      rintro e w' ⟨rfl, hb1⟩
      have q := H.out.eCell (j := 6) (u := .int .i64 0) hb1 rfl
      obtain ⟨q1, q2⟩ := q
      go_wp2_with fail
      exact ⟨⟨6, by omega, rfl, H.out.step hb1 (by rfl) (by rfl)⟩, by simp [intOf]⟩
    by_cases e6 : k = 6
    · subst e6
      have c2 := cell_of_heap (o := 6) (v := .iface 146 fa7) h.c5 rfl
      have hm := m_check7
      have H := Lib.hid h
      have hz := h.hz
      clear h
      go_wp2_with fail
      refine (checkf7 _ _ _ (.int .i64 0) _ hc.gate (cell_of_heap H.out.c0 rfl) (by omega) (cell_of_heap H.out.c3 rfl) (free_of_heap H.out.c3) (by omega)).mono ?_
      rintro e w' ⟨rfl, hb1⟩
      have q := H.out.eCell (j := 7) (u := .int .i64 0) hb1 rfl
      obtain ⟨q1, q2⟩ := q
      go_wp2_with fail
      exact ⟨⟨7, by omega, rfl, H.out.step hb1 (by rfl) (by rfl)⟩, by simp [intOf]⟩
    by_cases e7 : k = 7
    · subst e7
      have c2 := cell_of_heap (o := 7) (v := .iface 149 fa8) h.c5 rfl
      have hm := m_check8
      have H := Lib.hid h
      have hz := h.hz
      clear h
      go_wp2_with fail
      refine (checkf8 _ _ _ (.int .i64 0) _ (cell_of_heap H.out.c0 rfl) (by omega) (cell_of_heap H.out.c3 rfl) (free_of_heap H.out.c3) (by omega)).mono ?_
      rintro e w' ⟨rfl, hb1⟩
      have q := H.out.eCell (j := 8) (u := .int .i64 0) hb1 rfl
      obtain ⟨q1, q2⟩ := q
      go_wp2_with fail
      exact ⟨⟨8, by omega, rfl, H.out.step hb1 (by rfl) (by rfl)⟩, by simp [intOf]⟩
    by_cases e8 : k = 8
    · subst e8
      have c2 := cell_of_heap (o := 8) (v := .iface 149 fa9) h.c5 rfl
      have hm := m_check9
      have H := Lib.hid h
      have hz := h.hz
      clear h
      go_wp2_with fail
      refine (checkf9 _ _ _ (.int .i64 0) _ (cell_of_heap H.out.c0 rfl) (by omega) (cell_of_heap H.out.c3 rfl) (free_of_heap H.out.c3) (by omega)).mono ?_
      rintro e w' ⟨rfl, hb1⟩
      have q := H.out.eCell (j := 9) (u := .int .i64 0) hb1 rfl
      obtain ⟨q1, q2⟩ := q
      go_wp2_with fail
      exact ⟨⟨9, by omega, rfl, H.out.step hb1 (by rfl) (by rfl)⟩, by simp [intOf]⟩
    by_cases e9 : k = 9
    · subst e9
      have c2 := cell_of_heap (o := 9) (v := .iface 149 fa10) h.c5 rfl
      have hm := m_check10
      have H := Lib.hid h
      have hz := h.hz
      clear h
      go_wp2_with fail
      refine (checkf10 _ _ _ (.int .i64 0) _ (cell_of_heap H.out.c0 rfl) (by omega) (cell_of_heap H.out.c3 rfl) (free_of_heap H.out.c3) (by omega)).mono ?_
      rintro e w' ⟨rfl, hb1⟩
      have q := H.out.eCell (j := 10) (u := .int .i64 0) hb1 rfl
      obtain ⟨q1, q2⟩ := q
      go_wp2_with fail
      exact ⟨⟨10, by omega, rfl, H.out.step hb1 (by rfl) (by rfl)⟩, by simp [intOf]⟩
    by_cases e10 : k = 10
    · subst e10
      have c2 := cell_of_heap (o := 10) (v := .iface 149 fa11) h.c5 rfl
      have hm := m_check11
      have H := Lib.hid h
      have hz := h.hz
      clear h
      go_wp2_with fail
      refine (checkf11 _ _ _ (.int .i64 0) _ (cell_of_heap H.out.c0 rfl) (by omega) (cell_of_heap H.out.c3 rfl) (free_of_heap H.out.c3) (by omega)).mono ?_
      rintro e w' ⟨rfl, hb1⟩
      have q := H.out.eCell (j := 11) (u := .int .i64 0) hb1 rfl
      obtain ⟨q1, q2⟩ := q
      go_wp2_with fail
      exact ⟨⟨11, by omega, rfl, H.out.step hb1 (by rfl) (by rfl)⟩, by simp [intOf]⟩
    by_cases e11 : k = 11
    · subst e11
      have c2 := cell_of_heap (o := 11) (v := .iface 149 fa12) h.c5 rfl
      have hm := m_check12
      have H := Lib.hid h
      have hz := h.hz
      clear h
      go_wp2_with fail
      refine (checkf12 _ _ _ (.int .i64 0) _ (cell_of_heap H.out.c0 rfl) (by omega) (cell_of_heap H.out.c3 rfl) (free_of_heap H.out.c3) (by omega)).mono ?_
      rintro e w' ⟨rfl, hb1⟩
      have q := H.out.eCell (j := 12) (u := .int .i64 0) hb1 rfl
      obtain ⟨q1, q2⟩ := q
      go_wp2_with fail
      exact ⟨⟨12, by omega, rfl, H.out.step hb1 (by rfl) (by rfl)⟩, by simp [intOf]⟩
    · obtain rfl : k = 12 := by omega
      have H := Lib.hid h
      have hz := h.hz
      have g1 := cell_of_heap (o := 1) (v := .int .i64 (c.fld 0).2) h.c4 rfl
      have g3 := cell_of_heap (o := 3) (v := .int .i64 (c.fld 2).2) h.c4 rfl
      have k0 := cell_of_heap (o := 0) (v := .float .f64 c.step) h.c0 rfl
      have k2 := cell_of_heap (o := 2) (v := .float .f64 c.panic) h.c0 rfl
      have f4 := free_of_heap (o := 3) h.c4
      clear h
      go_upto_region 8 with fail
      go_cut [35] (fun s wx => wx = wr ∧ s = .bool ((c.fld 0).2 == 0 && (c.fld 2).2 == 0 && fLe c.panic c.step))
      case first =>
        go_wp2_with fail
        all_goals go_meet
        all_goals exact ⟨rfl, by congr 1; simp [fLe, *]⟩
      case rest =>
        obtain ⟨rfl, rfl⟩ := hcut
        obtain ⟨t, ht⟩ : ∃ t, ((c.fld 0).2 == 0 && (c.fld 2).2 == 0 && fLe c.panic c.step) = t := ⟨_, rfl⟩
        rw [ht]
        have HT := Lib.hid ht
        clear ht
        go_upto_if 35 with fail
        go_cut [0] (fun s0 wx => s0 = .agg c.cells ∧ Flt2 c c.ec3 w wx)
        case first =>
          cases t
          · go_wp2_with fail
            go_meet
            exact ⟨rfl, H.out.two (by rw [Cfg.e3, HT.out]; rfl)⟩
          · go_wp2_with fail
            go_meet
            exact ⟨rfl, H.out.two' (by rw [Cfg.e3, HT.out]; rfl)⟩
        case rest =>
          obtain ⟨rfl, h2⟩ := hcut
          clear HT H hz g1 g3 k0 k2 f4
          have H := Lib.hid h2
          have g8 := cell_of_heap (o := 8) (v := .int .i64 (c.fld 7).2) h2.c4 rfl
          have g9 := cell_of_heap (o := 9) (v := .int .i64 (c.fld 8).2) h2.c4 rfl
          have k7 := cell_of_heap (o := 7) (v := .int .i64 c.minPoll) h2.c0 rfl
          have k8 := cell_of_heap (o := 8) (v := .int .i64 c.maxPoll) h2.c0 rfl
          have f9 := free_of_heap (o := 9) h2.c4
          clear h2
          go_upto_region 10 with fail
          go_cut [51] (fun s wx => wx = wc ∧ s = .bool ((c.fld 7).2 == 0 && (c.fld 8).2 == 0 && decide (c.maxPoll < c.minPoll)))
          case first =>
            go_wp2_with fail
            all_goals go_meet
            all_goals exact ⟨rfl, by congr 1; simp [*]⟩
          case rest =>
            obtain ⟨rfl, rfl⟩ := hcut
            obtain ⟨t', ht⟩ : ∃ t, ((c.fld 7).2 == 0 && (c.fld 8).2 == 0 && decide (c.maxPoll < c.minPoll)) = t := ⟨_, rfl⟩
            rw [ht]
            have HT := Lib.hid ht
            clear ht
            go_upto_if 51 with fail
            go_cut [0] (fun s0 wx => s0 = .agg c.cells ∧ Flt2 c c.errs w wx)
            case first =>
              cases t'
              · go_wp2_with fail
                go_meet
                exact ⟨rfl, H.out.three (by rw [Cfg.e9, HT.out]; rfl)⟩
              · go_wp2_with fail
                go_meet
                exact ⟨rfl, H.out.three' (by rw [Cfg.e9, HT.out]; rfl)⟩
            case rest =>
              obtain ⟨rfl, h3⟩ := hcut
              obtain ⟨h0, ⟨cs1, z1, h1⟩, ⟨cs2, z2, h2⟩, h3, h4, hb⟩ := h3
              clear HT H g8 g9 k7 k8 f9
              go_wp2_with fail
              refine wp_region_any (by kernel_rfl) ?_
              change wpAny _ _ _ _ _ _ _ (World.drew _)
              have hR1 : ((wc.drew.setRow (w.heap.size + 1) (c.pcs 12)).setRow (w.heap.size + 2) c.errs).heap[w.heap.size + 1]? = some (.cells c.set 26 (0, 0)) := by
                rw [setRow_other _ _ _ _ (by omega), ← pcs12]; exact setRow_heap _ _ _ _ _ _ h1
              have hR2 : ((wc.drew.setRow (w.heap.size + 1) (c.pcs 12)).setRow (w.heap.size + 2) c.errs).heap[w.heap.size + 2]? = some (.cells c.errs 86 (0, 0)) :=
                setRow_heap _ _ _ _ _ _ (by rw [setRow_other _ _ _ _ (by omega)]; exact h2)
              have hRb : Below w.heap.size w ((wc.drew.setRow (w.heap.size + 1) (c.pcs 12)).setRow (w.heap.size + 2) c.errs) := below_setRow (below_setRow hb.drew (by omega) _) (by omega) _
              have h2' : (wc.setRow (w.heap.size + 1) (c.pcs 12)).heap[w.heap.size + 2]? = some (.cells cs2 86 (0, 0)) := by rw [setRow_other _ _ _ _ (by omega)]; exact h2
              have h4' : (wc.setRow (w.heap.size + 1) (c.pcs 12)).heap[w.heap.size + 4]? = some (.cells c.errs 86 (0, 0)) := by rw [setRow_other _ _ _ _ (by omega)]; exact h4
              refine wpAny_ready (rs := [0, 1]) (by kernel_rfl) (by simp) ?_
              refine AllReady.cons rfl (fun K hK => step_load_row rfl 26 _ rfl _ rfl _ (c.pcs 12) _ _ h3 Try.underlying26 rfl (by kernel_rfl) (hK _ _ ?_)) ?_
              · refine wpAny_ready (rs := [1, 2]) (by kernel_rfl) (by simp) ?_
                refine AllReady.cons rfl (fun K hK => step_load_row rfl 86 _ rfl _ rfl _ c.errs _ _ h4 Try.underlying86 rfl (by kernel_rfl) (hK _ _ ?_)) ?_
                · refine wpAny_ready (rs := [2]) (by kernel_rfl) (by simp) ?_
                  refine AllReady.cons rfl (fun K hK => step_store_row rfl 26 _ _ rfl _ (c.pcs 12) rfl rfl _ cs1 h1 (by kernel_rfl) z1 (pcs_one c) (hK _ _ ?_)) ?_
                  · refine wpAny_ready (rs := [3]) (by kernel_rfl) (by simp) ?_
                    refine AllReady.cons rfl (fun K hK => step_store_row rfl 86 _ _ rfl _ c.errs rfl rfl _ cs2 h2' (by kernel_rfl) z2 (errs_one c) (hK _ _ ?_)) ?_
                    · refine wpAny_done (by kernel_rfl) ?_ _
                      go_wp2_with fail
                      exact bodyPost_ret (v := .tuple #[.agg c.set, .agg c.errs]) (results_two_rows rfl _ _ (w.heap.size + 1) (w.heap.size + 2) _ _ _ _ _ _ _ _ rfl hR1 Try.underlying26 rfl (by kernel_rfl) rfl hR2 Try.underlying86 rfl (by kernel_rfl)) rfl ⟨rfl, hRb⟩
                    exact AllReady.nil
                  exact AllReady.nil
                refine AllReady.cons rfl (fun K hK => step_store_row rfl 26 _ _ rfl _ (c.pcs 12) rfl rfl _ cs1 h1 (by kernel_rfl) z1 (pcs_one c) (hK _ _ ?_)) ?_
                · refine wpAny_ready (rs := [1]) (by kernel_rfl) (by simp) ?_
                  refine AllReady.cons rfl (fun K hK => step_load_row rfl 86 _ rfl _ rfl _ c.errs _ _ h4' Try.underlying86 rfl (by kernel_rfl) (hK _ _ ?_)) ?_
                  · refine wpAny_ready (rs := [3]) (by kernel_rfl) (by simp) ?_
                    refine AllReady.cons rfl (fun K hK => step_store_row rfl 86 _ _ rfl _ c.errs rfl rfl _ cs2 h2' (by kernel_rfl) z2 (errs_one c) (hK _ _ ?_)) ?_
                    · refine wpAny_done (by kernel_rfl) ?_ _
                      go_wp2_with fail
                      exact bodyPost_ret (v := .tuple #[.agg c.set, .agg c.errs]) (results_two_rows rfl _ _ (w.heap.size + 1) (w.heap.size + 2) _ _ _ _ _ _ _ _ rfl hR1 Try.underlying26 rfl (by kernel_rfl) rfl hR2 Try.underlying86 rfl (by kernel_rfl)) rfl ⟨rfl, hRb⟩
                    exact AllReady.nil
                  exact AllReady.nil
                exact AllReady.nil
              refine AllReady.cons rfl (fun K hK => step_load_row rfl 86 _ rfl _ rfl _ c.errs _ _ h4 Try.underlying86 rfl (by kernel_rfl) (hK _ _ ?_)) ?_
              · refine wpAny_ready (rs := [0]) (by kernel_rfl) (by simp) ?_
                refine AllReady.cons rfl (fun K hK => step_load_row rfl 26 _ rfl _ rfl _ (c.pcs 12) _ _ h3 Try.underlying26 rfl (by kernel_rfl) (hK _ _ ?_)) ?_
                · refine wpAny_ready (rs := [2]) (by kernel_rfl) (by simp) ?_
                  refine AllReady.cons rfl (fun K hK => step_store_row rfl 26 _ _ rfl _ (c.pcs 12) rfl rfl _ cs1 h1 (by kernel_rfl) z1 (pcs_one c) (hK _ _ ?_)) ?_
                  · refine wpAny_ready (rs := [3]) (by kernel_rfl) (by simp) ?_
                    refine AllReady.cons rfl (fun K hK => step_store_row rfl 86 _ _ rfl _ c.errs rfl rfl _ cs2 h2' (by kernel_rfl) z2 (errs_one c) (hK _ _ ?_)) ?_
                    · refine wpAny_done (by kernel_rfl) ?_ _
                      go_wp2_with fail
                      exact bodyPost_ret (v := .tuple #[.agg c.set, .agg c.errs]) (results_two_rows rfl _ _ (w.heap.size + 1) (w.heap.size + 2) _ _ _ _ _ _ _ _ rfl hR1 Try.underlying26 rfl (by kernel_rfl) rfl hR2 Try.underlying86 rfl (by kernel_rfl)) rfl ⟨rfl, hRb⟩
                    exact AllReady.nil
                  exact AllReady.nil
                exact AllReady.nil
              exact AllReady.nil
end Go.Proofs.Ytmgfnejiienghaa
