/- The walk over the law PaceEnds. -/
import Derived.Test.YtmgfnejiienghaaM12
import Derived.Deep.AppendLies
namespace Go.Proofs.Ytmgfnejiienghaa
open Go.RowKit Go.IntWalk
set_option linter.unusedVariables false
set_option maxRecDepth 100000

theorem pRunH_append (l t : List Bool) : ∀ p d, pRunH p d (l ++ t) = pRunH (pRunH p d l).1 (pRunH p d l).2 t := by
  induction l with
  | nil => intro p d; rfl
  | cons q l ih => intro p d; exact ih _ _
theorem up60 : ∀ p : Fin 5, ∀ d : Fin 61, (pRunH (6 + (p.val : Int)) ((d.val : Int) - 30) (List.replicate 60 true)).1 = 10 := by decide +kernel
theorem down60 : ∀ p : Fin 5, ∀ d : Fin 61, (pRunH (6 + (p.val : Int)) ((d.val : Int) - 30) (List.replicate 60 false)).1 = 6 := by decide +kernel
theorem up_stays (n : Nat) : ∀ d, (pRunH 10 d (List.replicate n true)).1 = 10 := by
  induction n with
  | zero => intro d; rfl
  | succ n ih =>
    intro d
    have h : (pNext 10 d true).1 = 10 := by
      simp only [pNext, pStep, show clampI 10 6 10 = 10 from rfl, if_true]
      split <;> rfl
    rw [List.replicate_succ]
    show (pRunH (pNext 10 d true).1 (pNext 10 d true).2 _).1 = 10
    rw [h]
    exact ih _
theorem down_stays (n : Nat) : ∀ d, (pRunH 6 d (List.replicate n false)).1 = 6 := by
  induction n with
  | zero => intro d; rfl
  | succ n ih =>
    intro d
    have h : (pNext 6 d false).1 = 6 := by
      simp only [pNext, pStep, show clampI 6 6 10 = 6 from rfl, Bool.false_eq_true, if_false]
      split <;> rfl
    rw [List.replicate_succ]
    show (pRunH (pNext 6 d false).1 (pNext 6 d false).2 _).1 = 6
    rw [h]
    exact ih _
theorem ends_up (x c : Int) (n : Nat) : (pRun x c (List.replicate (60 + n) true)).1 = 10 := by
  have hx := clampI_in x (low := 6) (high := 10) (by decide)
  have hc := clampI_in c (low := -30) (high := 30) (by decide)
  unfold pRun
  generalize clampI x 6 10 = p at hx ⊢
  generalize clampI c (-30) 30 = d at hc ⊢
  obtain ⟨i, rfl⟩ : ∃ i : Fin 5, p = 6 + (i.val : Int) := ⟨⟨(p - 6).toNat, by omega⟩, by show p = 6 + ((p - 6).toNat : Int); omega⟩
  obtain ⟨j, rfl⟩ : ∃ j : Fin 61, d = (j.val : Int) - 30 := ⟨⟨(d + 30).toNat, by omega⟩, by show d = ((d + 30).toNat : Int) - 30; omega⟩
  rw [← List.replicate_append_replicate, pRunH_append, up60 i j]
  exact up_stays _ _
theorem ends_down (x c : Int) (n : Nat) : (pRun x c (List.replicate (60 + n) false)).1 = 6 := by
  have hx := clampI_in x (low := 6) (high := 10) (by decide)
  have hc := clampI_in c (low := -30) (high := 30) (by decide)
  unfold pRun
  generalize clampI x 6 10 = p at hx ⊢
  generalize clampI c (-30) 30 = d at hc ⊢
  obtain ⟨i, rfl⟩ : ∃ i : Fin 5, p = 6 + (i.val : Int) := ⟨⟨(p - 6).toNat, by omega⟩, by show p = 6 + ((p - 6).toNat : Int); omega⟩
  obtain ⟨j, rfl⟩ : ∃ j : Fin 61, d = (j.val : Int) - 30 := ⟨⟨(d + 30).toNat, by omega⟩, by show d = ((d + 30).toNat : Int) - 30; omega⟩
  rw [← List.replicate_append_replicate, pRunH_append, down60 i j]
  exact down_stays _ _
theorem info_bool : (Try.prog.info? 4).map (fun i => (i.zero, i.size, i.bytes)) = some (some (.bool false), 1, 1) := by kernel_rfl
theorem owned_blow {w : World} {base n : Nat} {v : Value} {bs : List Bool} (h : w.ownsRow base 4 1 v n (bs.map Value.bool)) : BLow w.heap.size w v bs := by
  have hl := h.1
  simp only [List.length_map, Nat.mul_one] at hl
  have hc := fun g hg => h.cells (g := g) hg
  have hlt := h.lt
  rcases h.2 with ⟨rfl, hn⟩ | ⟨g, cap, cur, rfl, hb, hg, hnc, _⟩
  · exact .inl ⟨List.eq_nil_of_length_eq_zero (by omega), _, _, by rfl⟩
  · refine .inr ⟨g, 0, cap, by rw [hl], by omega, (hlt g rfl).2, fun i b hi => ?_⟩
    have := hc g rfl i (.bool b) (by simp [hi])
    rw [show (⟨g, 0, none⟩ : Addr).add i = ⟨g, 0 + i, none⟩ by unfold Addr.add; split <;> simp_all] at this
    exact this
theorem BLow.grown {W : World} {v : Value} {bs : List Bool} (h : BLow W.heap.size W v bs) (d : Nat) (os : Array Obj) : BLow (Sort.grow (redrawn W d) os).heap.size (Sort.grow (redrawn W d) os) v bs := by
  have hb := below_regrown W d os
  rcases h.to hb with h | ⟨g, o, c, rfl, h1, h2, h3⟩
  · exact .inl h
  · exact .inr ⟨g, o, c, rfl, h1, Nat.lt_of_lt_of_le h2 hb.size, h3⟩
/-- two slices of the call's own, of k trues and of k falses, apart -/
structure TwoB (base k : Nat) (v x : Value) (W0 wr : World) : Prop where
  q : wr.ownsRow base 4 1 v k ((List.replicate k true).map Value.bool)
  l : wr.ownsRow base 4 1 x k ((List.replicate k false).map Value.bool)
  ne : ∃ g h, v.ownBlock = some g ∧ x.ownBlock = some h ∧ g ≠ h
  b : Below base W0 wr
  le : base ≤ wr.heap.size
theorem below_grown {base : Nat} {W0 w w' : World} {row : Option Nat} (h : Below base W0 w) (hg : w.grownBy w' row) (hrow : ∀ k, row = some k → base ≤ k) (hle : base ≤ w.heap.size) : Below base W0 w' :=
  h.grown hg hle hrow
end Go.Proofs.Ytmgfnejiienghaa
