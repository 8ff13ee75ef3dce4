/- The walk over the law SetupWithin. -/
import Derived.Test.YtmgfnejiienghaaSh
import Derived.Test.YtmgfnejiienghaaSeL
namespace Go.Proofs.Ytmgfnejiienghaa
open Go.RowKit
set_option linter.unusedVariables false
set_option maxRecDepth 100000

theorem sName_ne (k : Nat) (h1 : 1 ≤ k) (h2 : k < 13) : (sName (k : Int)).toList.isEmpty = false := by
  have : ∀ k : Fin 13, 1 ≤ k.val → (sName ((k.val : Nat) : Int)).toList.isEmpty = false := by decide +kernel
  exact this ⟨k, h2⟩ h1

set_option maxHeartbeats 2000000 in
theorem within_walk (c : Cfg) (hc : c.ok) (w : World) : Calls Try.prog 3 #[.agg c.cells] w fun e w' => e = .returned (.bool true) ∧ Below w.heap.size w w' := by
  rcases c.check_cases with ⟨hg, hk⟩ | ⟨k, h1, h2, he, _, hk⟩
  · obtain ⟨v0, v1, v2, v3, v4, v5, v6, v7, v8, v9, v10, v11, hs, g0, g1, g2, g3, g4, g5, g6, g7, g8, g9, g10, g11, g12, g13, g14, g15⟩ := set_within c hg
    rw [hs] at hk
    have HK := Lib.hid hk
    clear hk hs hg
    go_enter Try.func3, Try.ntmps3
    go_wp2_with (first
      | (refine wpList_load_row rfl 24 (.tmp 1) rfl _ rfl 24 c.cells (0, 0) _ ?hg1 Try.underlying24 rfl (by kernel_rfl) ?_; case hg1 => exact heap_alloc_new _ _)
      | (with_reducible refine (check_any c hc _).mono ?_; rintro e w1 ⟨rfl, hb1⟩; rw [HK.out])
      | (with_reducible refine (shown10 _).mono ?_; rintro e w2 ⟨rfl, hb2⟩; obtain ⟨q1, _⟩ := bcell hb2))
    go_ret
    exact ⟨rfl, bnext (balloc (bnext ((Below.refl _ _).alloc (Nat.le_refl _) _) hb1) _) hb2⟩
  · have he' : (c.err k != 0) = true := by simpa using he
    have hn := sName_ne k h1 h2
    have HK := Lib.hid hk
    clear hk he
    go_enter Try.func3, Try.ntmps3
    go_wp2_with (first
      | (refine wpList_load_row rfl 24 (.tmp 1) rfl _ rfl 24 c.cells (0, 0) _ ?hg1 Try.underlying24 rfl (by kernel_rfl) ?_; case hg1 => exact heap_alloc_new _ _)
      | (with_reducible refine (check_any c hc _).mono ?_; rintro e w1 ⟨rfl, hb1⟩; rw [HK.out]; simp only [zero12])
      | (with_reducible refine (shown10 _).mono ?_; rintro e w2 ⟨rfl, hb2⟩; obtain ⟨q1, _⟩ := bcell hb2)
      | (with_reducible refine (name_any _ ?hn1 ?hn2 _).mono ?_; (case hn1 => omega); (case hn2 => omega); rintro e w3 ⟨rfl, hb3⟩))
    go_ret
    exact ⟨rfl, bnext (bnext (balloc (bnext ((Below.refl _ _).alloc (Nat.le_refl _) _) hb1) _) hb2) hb3⟩
end Go.Proofs.Ytmgfnejiienghaa
