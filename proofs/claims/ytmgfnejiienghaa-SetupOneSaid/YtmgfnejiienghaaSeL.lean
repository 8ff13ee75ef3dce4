/- Plain laws on what package setup sets: within its bounds; the only fault. -/
import Derived.Test.YtmgfnejiienghaaSc
import Derived.Test.YtmgfnejiienghaaFlL
namespace Go.Proofs.Ytmgfnejiienghaa
open Go.RowKit
set_option linter.unusedVariables false
set_option maxRecDepth 100000

theorem Cfg.check_cases (c : Cfg) : ((∀ j, j < 13 → c.err j = 0) ∧ c.check = (c.set, 0, 0)) ∨ ∃ k, 1 ≤ k ∧ k < 13 ∧ c.err k ≠ 0 ∧ (∀ j, j < k → c.err j = 0) ∧ c.check = (zero12, (k : Int), c.err k) := by
  cases hf : (List.range 13).find? (fun i => c.err i != 0) with
  | none =>
    have h : ∀ j, j < 13 → c.err j = 0 := fun j hj => by
      have := List.find?_eq_none.1 hf j (by simpa using hj)
      simpa using this
    exact .inl ⟨h, Cfg.check_good h⟩
  | some k =>
    rw [List.find?_range_eq_some] at hf
    obtain ⟨h1, h2, h3⟩ := hf
    have hk : k < 13 := by simpa using h2
    have he : c.err k ≠ 0 := by simpa using h1
    have hl : ∀ j, j < k → c.err j = 0 := fun j hj => by simpa using h3 j hj
    have h0 : k ≠ 0 := fun e => he (by subst e; rfl)
    exact .inr ⟨k, by omega, hk, he, hl, Cfg.check_bad hk he hl⟩

/-- a float within its bounds tells a number within what they tell -/
theorem within_ok (b lo hi : Nat) (h : (fWithin b lo hi).2 = 0) : (fOf b).2 = 0 ∧ (fOf lo).2 = 0 ∧ (fOf hi).2 = 0 ∧ (fWithin b lo hi).1 = (fOf b).1 ∧ (fOf lo).1 ≤ (fOf b).1 ∧ (fOf b).1 ≤ (fOf hi).1 := by
  unfold fWithin at h ⊢
  by_cases c1 : (fOf b).2 ≠ 0
  · rw [if_pos c1] at h; exact (c1 h).elim
  by_cases c2 : (fOf lo).2 ≠ 0
  · rw [if_neg c1, if_pos c2] at h; exact (c2 h).elim
  by_cases c3 : (fOf hi).2 ≠ 0
  · rw [if_neg c1, if_neg c2, if_pos c3] at h; exact (c3 h).elim
  by_cases c4 : (FloatKind.f64.format.order b lo == some Ordering.lt) = true ∨ (FloatKind.f64.format.order hi b == some Ordering.lt) = true
  · rw [if_neg c1, if_neg c2, if_neg c3, if_pos c4] at h; simp at h
  rw [if_neg c1, if_neg c2, if_neg c3, if_neg c4]
  simp only [ne_eq, Decidable.not_not] at c1 c2 c3
  obtain ⟨e1, _⟩ := fOf_floor b c1
  obtain ⟨e2, _⟩ := fOf_floor lo c2
  obtain ⟨e3, _⟩ := fOf_floor hi c3
  refine ⟨c1, c2, c3, rfl, ?_, ?_⟩
  · refine fOf_mono lo b c2 c1 fun g => c4 (.inl ?_)
    rw [order_fin lo b (by omega) (by omega)] at g
    rw [order_fin b lo (by omega) (by omega), Int.min_comm]
    have g' := Int.compare_eq_gt.1 (Option.some.inj g)
    rw [Int.compare_eq_lt.2 g']; rfl
  · refine fOf_mono b hi c1 c3 fun g => c4 (.inr ?_)
    rw [order_fin b hi (by omega) (by omega)] at g
    rw [order_fin hi b (by omega) (by omega), Int.min_comm]
    have g' := Int.compare_eq_gt.1 (Option.some.inj g)
    rw [Int.compare_eq_lt.2 g']; rfl
theorem whole_ok (n lo hi : Int) (h : (sWhole n lo hi).2 = 0) : (sWhole n lo hi).1 = n ∧ lo ≤ n ∧ n ≤ hi := by
  unfold sWhole at h ⊢
  by_cases c : n < lo ∨ n > hi
  · rw [if_pos c] at h; simp at h
  · rw [if_neg c]; exact ⟨rfl, by omega, by omega⟩
/-- above, as floats: not below, as what is set -/
theorem above_ok (a b : Nat) (ha : (fOf a).2 = 0) (hb : (fOf b).2 = 0) (h : fLe a b = false) : (fOf b).1 ≤ (fOf a).1 := by
  obtain ⟨e1, _⟩ := fOf_floor a ha
  obtain ⟨e2, _⟩ := fOf_floor b hb
  refine fOf_mono b a hb ha fun g => ?_
  rw [order_fin b a (by omega) (by omega)] at g
  have g' := Int.compare_eq_gt.1 (Option.some.inj g)
  unfold fLe at h
  rw [order_fin a b (by omega) (by omega), Int.min_comm, Int.compare_eq_lt.2 g'] at h
  simp at h

theorem Cfg.e3_ok {c : Cfg} (h0 : (c.fld 0).2 = 0) (h : c.e3 = 0) : (c.fld 2).2 = 0 ∧ fLe c.panic c.step = false := by
  unfold Cfg.e3 at h
  split at h
  · simp at h
  · rename_i g
    refine ⟨h, ?_⟩
    simpa [h0, h] using g
theorem Cfg.e9_ok {c : Cfg} (h0 : (c.fld 7).2 = 0) (h : c.e9 = 0) : (c.fld 8).2 = 0 ∧ c.minPoll ≤ c.maxPoll := by
  unfold Cfg.e9 at h
  split at h
  · simp at h
  · rename_i g
    refine ⟨h, ?_⟩
    simpa [h0, h] using g

/-- what was set, if there is no fault -/
theorem set_within (c : Cfg) (h : ∀ j, j < 13 → c.err j = 0) : ∃ v0 v1 v2 v3 v4 v5 v6 v7 v8 v9 v10 v11 : Int,
    c.set = #[.int .i64 v0, .int .i64 v1, .int .i64 v2, .int .i64 v3, .int .i64 v4, .int .i64 v5, .int .i64 v6, .int .i64 v7, .int .i64 v8, .int .i64 v9, .int .i64 v10, .int .i64 v11] ∧
    0 < v0 ∧ v0 ≤ v2 ∧ 4294967296 ≤ v1 ∧ 0 < v3 ∧ v3 < 536870912 ∧ 0 ≤ v4 ∧ v4 < 67108864 ∧ 0 < v5 ∧ 4294967296 ≤ v6 ∧ 4 ≤ v7 ∧ v7 ≤ v8 ∧ v8 ≤ 17 ∧ 0 ≤ v9 ∧ v9 ≤ 8 ∧ 1 ≤ v10 ∧ 1 ≤ v11 := by
  have f0 : (c.fld 0).2 = 0 := h 1 (by omega)
  have f1 : (c.fld 1).2 = 0 := h 2 (by omega)
  obtain ⟨f2, p2⟩ := Cfg.e3_ok f0 (h 3 (by omega))
  have f3 : (c.fld 3).2 = 0 := h 4 (by omega)
  have f4 : (c.fld 4).2 = 0 := h 5 (by omega)
  have f5 : (c.fld 5).2 = 0 := h 6 (by omega)
  have f6 : (c.fld 6).2 = 0 := h 7 (by omega)
  have f7 : (c.fld 7).2 = 0 := h 8 (by omega)
  obtain ⟨f8, p8⟩ := Cfg.e9_ok f7 (h 9 (by omega))
  have f9 : (c.fld 9).2 = 0 := h 10 (by omega)
  have f10 : (c.fld 10).2 = 0 := h 11 (by omega)
  have f11 : (c.fld 11).2 = 0 := h 12 (by omega)
  have k0 : (fOf 4562254508917369340).1 = 4294967 := by decide +kernel
  have k1 : (fOf 4607182418800017408).1 = 4294967296 := by decide +kernel
  have k3 : (fOf 4517329193108106637).1 = 4294 := by decide +kernel
  have k3' : (fOf 4591870180066957722).1 = 429496729 := by decide +kernel
  have k4 : (fOf 0).1 = 0 := by decide +kernel
  have k4' : (fOf 4576918229304087675).1 = 42949672 := by decide +kernel
  obtain ⟨a0, _, _, b0, l0, _⟩ := within_ok _ _ _ f0
  obtain ⟨_, _, _, b1, l1, _⟩ := within_ok _ _ _ f1
  obtain ⟨a2, _, _, b2, _, _⟩ := within_ok _ _ _ f2
  obtain ⟨_, _, _, b3, l3, u3⟩ := within_ok _ _ _ f3
  obtain ⟨_, _, _, b4, l4, u4⟩ := within_ok _ _ _ f4
  obtain ⟨_, _, _, b5, l5, _⟩ := within_ok _ _ _ f5
  obtain ⟨_, _, _, b6, l6, _⟩ := within_ok _ _ _ f6
  obtain ⟨b7, l7, u7⟩ := whole_ok _ _ _ f7
  obtain ⟨b8, l8, u8⟩ := whole_ok _ _ _ f8
  obtain ⟨b9, l9, u9⟩ := whole_ok _ _ _ f9
  obtain ⟨b10, l10, u10⟩ := whole_ok _ _ _ f10
  obtain ⟨b11, l11, u11⟩ := whole_ok _ _ _ f11
  have ab := above_ok _ _ a2 a0 p2
  rw [k0] at l0
  rw [k1] at l1 l6
  rw [k3] at l3
  rw [k3'] at u3
  rw [k4] at l4
  rw [k4'] at u4 l5
  refine ⟨_, _, _, _, _, _, _, _, _, _, _, _, rfl, ?_⟩
  simp only [Cfg.fld]
  rw [b0, b1, b2, b3, b4, b5, b6, b7, b8, b9, b10, b11]
  exact ⟨by omega, ab, by omega, by omega, by omega, by omega, by omega, by omega, by omega, by omega, by omega, by omega, by omega, by omega, by omega, by omega⟩
end Go.Proofs.Ytmgfnejiienghaa
