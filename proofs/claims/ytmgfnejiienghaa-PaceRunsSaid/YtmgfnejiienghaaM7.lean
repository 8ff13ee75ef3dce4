/- Whole rows of cells, stored into blocks that have just been laid. -/
import Derived.WalkKit
import Derived.Laws.Rows
import Derived.Laws.CopyOwn
import Derived.Deep.WholeRow
namespace Go.Proofs.Ytmgfnejiienghaa
open Go.RowKit

theorem setRow_alloc2_first (w : World) (c c' : Array Value) (t : TypeId) (o : Obj) : ((w.alloc (.cells c t)).alloc o).setRow w.heap.size c' = (w.alloc (.cells c' t)).alloc o := by
  have e : ((w.heap.push (.cells c t)).push o).modify w.heap.size (fun | .cells _ elem frozen => .cells c' elem frozen | o => o) = (w.heap.push (.cells c' t)).push o := by
    apply Array.ext_getElem?
    intro i
    rw [Array.getElem?_modify]
    by_cases h : w.heap.size = i
    · subst h; simp [Array.getElem?_push]
    · rw [if_neg h]; simp only [Array.getElem?_push, Array.size_push]
      by_cases h2 : i = w.heap.size + 1
      · simp [h2]
      · simp [h2, Ne.symm h]
  simp only [World.setRow, World.alloc]
  congr 1
theorem setRow_alloc2_last (w : World) (a : Obj) (c c' : Array Value) (t : TypeId) : ((w.alloc a).alloc (.cells c t)).setRow (w.heap.size + 1) c' = (w.alloc a).alloc (.cells c' t) := by
  have h := Go.World.setRow_alloc_new (w.alloc a) c c' t
  have e : (w.alloc a).heap.size = w.heap.size + 1 := by simp
  rwa [e] at h
/-- a whole row stored into the first, the last, of two blocks that have just been laid -/
theorem store_first {P : Program} (w : World) (c c' : Array Value) (t : TypeId) (o : Obj) (hs : c.size = c'.size) (h1 : c'.all (·.oneCell') = true) :
    (storeCells ⟨w.heap.size, 0, none⟩ c'.toList).run P ((w.alloc (.cells c t)).alloc o) = .ok () ((w.alloc (.cells c' t)).alloc o) := by
  have h := run_storeCells_from (P := P) w.heap.size t c'.toList 0 c ((w.alloc (.cells c t)).alloc o) (heap_alloc2_old _ _ _) (by simp [hs]) (fun v hv => (Array.all_eq_true_iff_forall_mem.1 h1) v (by simpa using hv))
  rw [h]
  simp [setRow_alloc2_first]
theorem store_last {P : Program} (w : World) (a : Obj) (c c' : Array Value) (t : TypeId) (hs : c.size = c'.size) (h1 : c'.all (·.oneCell') = true) :
    (storeCells ⟨w.heap.size + 1, 0, none⟩ c'.toList).run P ((w.alloc a).alloc (.cells c t)) = .ok () ((w.alloc a).alloc (.cells c' t)) := by
  have h := run_storeCells_from (P := P) (w.heap.size + 1) t c'.toList 0 c ((w.alloc a).alloc (.cells c t)) (heap_alloc2_new _ _ _) (by simp [hs]) (fun v hv => (Array.all_eq_true_iff_forall_mem.1 h1) v (by simpa using hv))
  rw [h]
  simp [setRow_alloc2_last]
end Go.Proofs.Ytmgfnejiienghaa
