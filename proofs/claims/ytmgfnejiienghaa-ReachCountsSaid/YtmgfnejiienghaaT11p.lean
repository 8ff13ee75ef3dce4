/- Law 11: ReachSilent plainly: what becomes of a state by questions, answered ones first, then silence. -/
import Derived.Test.YtmgfnejiienghaaT11s
namespace Go.Proofs.Ytmgfnejiienghaa
open Go Go.RowKit Ev
set_option linter.unusedVariables false
set_option linter.unusedSimpArgs false

structure RcS where
  g : Int
  h : Int
  p : Int
  x : Int
theorem rcG_in (g : Int) : 0 ≤ rcG g ∧ rcG g ≤ 255 := by unfold rcG; omega
theorem rcO_in {g : Int} (h : 0 ≤ g ∧ g ≤ 255) : 0 ≤ rcO g ∧ rcO g ≤ 255 := by unfold rcO; split <;> omega
theorem rcH_in {g h : Int} (hh : 6 ≤ h ∧ h ≤ 10) : (6 ≤ rcH g h ∧ rcH g h ≤ 10) ∧ h ≤ rcH g h ∧ (g % 8 = 0 → rcH g h = min (h + 1) 10) := by
  unfold rcH; split <;> refine ⟨by omega, by omega, fun e => ?_⟩
  · rfl
  · omega
theorem rcX_in {n now d : Int} (hn : 6 ≤ n ∧ n ≤ 10) (h0 : 0 ≤ now ∧ now ≤ 1152921504606846976) (hd : 0 ≤ d ∧ d ≤ 4294967295) : now < rcX n now d ∧ rcX n now d ≤ now + 8796093022208 := by
  unfold rcX sat rcW rcD
  rcases six_ten hn with rfl | rfl | rfl | rfl | rfl <;> simp only [Int.reduceSub, Int.reduceToNat, Int.reducePow, Int.reduceMul] <;> omega
/-- a question and its answer -/
def rcOne (s : RcS) : RcS := ⟨rcO (rcG s.g), rcH (rcG s.g) s.h, 10, rcX (min (rcH (rcG s.g) s.h) s.p) s.x 0⟩
def rcA : Nat → RcS
  | 0 => ⟨0, 6, 6, 0⟩
  | k + 1 => rcOne (rcA k)
structure RcS.In (s : RcS) (k : Nat) : Prop where
  g : 0 ≤ s.g ∧ s.g ≤ 255
  h : 6 ≤ s.h ∧ s.h ≤ 10
  p : 6 ≤ s.p ∧ s.p ≤ 10
  x : 0 ≤ s.x ∧ s.x ≤ k * 8796093022208
theorem rcA_in : ∀ k : Nat, k ≤ 1000 → (rcA k).In k
  | 0, _ => ⟨⟨by decide, by decide⟩, ⟨by decide, by decide⟩, ⟨by decide, by decide⟩, ⟨by decide, by decide⟩⟩
  | k + 1, hk => by
    have i := rcA_in k (by omega)
    have ih := (rcH_in (g := rcG (rcA k).g) i.h).1
    have ix := i.x
    have hx := rcX_in (n := min (rcH (rcG (rcA k).g) (rcA k).h) (rcA k).p) (now := (rcA k).x) (d := 0) (by have := i.p; omega) ⟨i.x.1, by omega⟩ (by omega)
    refine ⟨rcO_in (rcG_in _), ih, ⟨by show (6 : Int) ≤ 10; omega, Int.le_refl _⟩, ?_⟩
    show 0 ≤ rcX _ _ _ ∧ rcX _ _ _ ≤ _
    generalize rcX (min (rcH (rcG (rcA k).g) (rcA k).h) (rcA k).p) (rcA k).x 0 = y at *
    omega
/-- a question that no one answers -/
def rcTwo (s : RcS) (d : Int) : RcS := ⟨rcG s.g, rcH (rcG s.g) s.h, 10, rcX (min (rcH (rcG s.g) s.h) 10) s.x d⟩
def rcB (s : RcS) (dr : Int → Int) : Nat → RcS
  | 0 => ⟨s.g, s.h, 10, s.x⟩
  | k + 1 => rcTwo (rcB s dr k) (dr k)
structure RcS.Sil (s : RcS) (k m : Nat) : Prop where
  g : 0 ≤ s.g ∧ s.g ≤ 255
  h : 6 ≤ s.h ∧ s.h ≤ 10
  x : 0 ≤ s.x ∧ s.x ≤ m * 8796093022208
  d1 : 1 ≤ k → s.g % 2 = 0
  d2 : 2 ≤ k → s.g % 4 = 0
  d3 : 3 ≤ k → s.g % 8 = 0
  d4 : 4 ≤ k → s.g % 16 = 0
  d5 : 5 ≤ k → s.g % 32 = 0
  d6 : 6 ≤ k → s.g % 64 = 0
  d7 : 7 ≤ k → s.g % 128 = 0
  d8 : 8 ≤ k → s.g = 0
  h1 : 3 ≤ k → 7 ≤ s.h
  h2 : 4 ≤ k → 8 ≤ s.h
  h3 : 5 ≤ k → 9 ≤ s.h
  h4 : 6 ≤ k → 10 ≤ s.h
theorem rcB_in {s : RcS} {j : Nat} (hs : s.In j) {dr : Int → Int} (hd : ∀ a, 0 ≤ dr a ∧ dr a ≤ 4294967295) : ∀ k : Nat, j + k ≤ 1000 → (rcB s dr k).Sil k (j + k)
  | 0, _ => ⟨hs.g, hs.h, hs.x, by omega, by omega, by omega, by omega, by omega, by omega, by omega, by omega, by omega, by omega, by omega, by omega⟩
  | k + 1, hk => by
    have i := rcB_in hs hd k (by omega)
    obtain ⟨ih, i2, i3⟩ := rcH_in (g := rcG (rcB s dr k).g) i.h
    have ix := i.x
    have hx := rcX_in (n := min (rcH (rcG (rcB s dr k).g) (rcB s dr k).h) 10) (now := (rcB s dr k).x) (d := dr k) (by omega) ⟨i.x.1, by omega⟩ (hd _)
    have eg : (rcB s dr (k + 1)).g = rcG (rcB s dr k).g := rfl
    have eh : (rcB s dr (k + 1)).h = rcH (rcG (rcB s dr k).g) (rcB s dr k).h := rfl
    have exx : (rcB s dr (k + 1)).x = rcX (min (rcH (rcG (rcB s dr k).g) (rcB s dr k).h) 10) (rcB s dr k).x (dr k) := rfl
    have g0 := rcG_in (rcB s dr k).g
    have d8' : 3 ≤ k + 1 → rcG (rcB s dr k).g % 8 = 0 := fun h => by
      have := i.d2 (by omega)
      unfold rcG; omega
    refine ⟨?_, ?_, ?_, ?_, ?_, ?_, ?_, ?_, ?_, ?_, ?_, ?_, ?_, ?_, ?_⟩
    · rw [eg]; exact g0
    · rw [eh]; exact ih
    · rw [exx]
      generalize rcX (min (rcH (rcG (rcB s dr k).g) (rcB s dr k).h) 10) (rcB s dr k).x (dr k) = y at *
      omega
    · intro h; rw [eg]; unfold rcG; omega
    · intro h; have := i.d1 (by omega); rw [eg]; unfold rcG; omega
    · intro h; have := i.d2 (by omega); rw [eg]; unfold rcG; omega
    · intro h; have := i.d3 (by omega); rw [eg]; unfold rcG; omega
    · intro h; have := i.d4 (by omega); rw [eg]; unfold rcG; omega
    · intro h; have := i.d5 (by omega); rw [eg]; unfold rcG; omega
    · intro h; have := i.d6 (by omega); rw [eg]; unfold rcG; omega
    · intro h; have := i.d7 (by omega); have := i.g; rw [eg]; unfold rcG; omega
    · intro h; have := i3 (d8' (by omega)); have := i.h; rw [eh]; omega
    · intro h; have := i3 (d8' (by omega)); have := i.h1 (by omega); rw [eh]; omega
    · intro h; have := i3 (d8' (by omega)); have := i.h2 (by omega); rw [eh]; omega
    · intro h; have := i3 (d8' (by omega)); have := i.h3 (by omega); rw [eh]; omega
/-- the law's checks at a question -/
theorem rcB_ok {s : RcS} {j : Nat} (hs : s.In j) {dr : Int → Int} (hd : ∀ a, 0 ≤ dr a ∧ dr a ≤ 4294967295) (k : Nat) (hk : j + k ≤ 900) :
    (rcB s dr k).h ≤ (rcB s dr (k + 1)).h ∧ (rcB s dr k).x < (rcB s dr (k + 1)).x ∧ (7 ≤ k → (rcB s dr (k + 1)).g = 0) ∧ (6 ≤ k → (rcB s dr (k + 1)).h = 10) := by
  have i := rcB_in hs hd k (by omega)
  have i' := rcB_in hs hd (k + 1) (by omega)
  have ix := i.x
  have hx := rcX_in (n := min (rcH (rcG (rcB s dr k).g) (rcB s dr k).h) 10) (now := (rcB s dr k).x) (d := dr k) (by have := (rcH_in (g := rcG (rcB s dr k).g) i.h).1; omega) ⟨i.x.1, by omega⟩ (hd _)
  exact ⟨(rcH_in i.h).2.1, hx.1, fun h => i'.d8 (by omega), fun h => by have := i'.h4 (by omega); have := i'.h; omega⟩
end Go.Proofs.Ytmgfnejiienghaa
