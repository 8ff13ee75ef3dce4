/- Law 11: ReachCounts plainly: the register tells which of the last eight were answered. -/
import Derived.Test.YtmgfnejiienghaaT11s
namespace Go.Proofs.Ytmgfnejiienghaa
open Go Go.RowKit Ev
set_option linter.unusedVariables false
set_option linter.unusedSimpArgs false

def rcBit (b : Bool) : Int := if b then 1 else 0
/-- the register behind i questions -/
def rcReg (l : Nat → Bool) : Nat → Int
  | 0 => 0
  | i + 1 => if l i then rcO (rcG (rcReg l i)) else rcG (rcReg l i)
/-- the answer j questions ahead of the i-th one -/
def rcE (l : Nat → Bool) (i j : Nat) : Bool := if j ≤ i then l (i - j) else false
def rcSum (f : Nat → Bool) : Int := rcBit (f 0) + 2 * rcBit (f 1) + 4 * rcBit (f 2) + 8 * rcBit (f 3) + 16 * rcBit (f 4) + 32 * rcBit (f 5) + 64 * rcBit (f 6) + 128 * rcBit (f 7)
theorem rcE_zero (l : Nat → Bool) (i : Nat) : rcE l i 0 = l i := by unfold rcE; rw [if_pos (Nat.zero_le _)]; rfl
theorem rcE_succ (l : Nat → Bool) (i j : Nat) : rcE l (i + 1) (j + 1) = rcE l i j := by
  unfold rcE
  by_cases h : j ≤ i
  · rw [if_pos h, if_pos (by omega), show i + 1 - (j + 1) = i - j by omega]
  · rw [if_neg h, if_neg (by omega)]
theorem rcBit_in (b : Bool) : rcBit b = 0 ∨ rcBit b = 1 := by cases b <;> simp [rcBit]
theorem rc_step (b c0 c1 c2 c3 c4 c5 c6 c7 : Bool) : (if b then rcO (rcG (rcBit c0 + 2 * rcBit c1 + 4 * rcBit c2 + 8 * rcBit c3 + 16 * rcBit c4 + 32 * rcBit c5 + 64 * rcBit c6 + 128 * rcBit c7)) else rcG (rcBit c0 + 2 * rcBit c1 + 4 * rcBit c2 + 8 * rcBit c3 + 16 * rcBit c4 + 32 * rcBit c5 + 64 * rcBit c6 + 128 * rcBit c7)) = rcBit b + 2 * rcBit c0 + 4 * rcBit c1 + 8 * rcBit c2 + 16 * rcBit c3 + 32 * rcBit c4 + 64 * rcBit c5 + 128 * rcBit c6 := by
  have k : ∀ b, 0 ≤ rcBit b ∧ rcBit b ≤ 1 := fun b => by cases b <;> decide
  have key : ∀ x c : Int, 0 ≤ x ∧ x ≤ 127 → rcG (x + 128 * c) = 2 * x := fun x c h => by unfold rcG; omega
  have h0 := k c0; have h1 := k c1; have h2 := k c2; have h3 := k c3; have h4 := k c4; have h5 := k c5; have h6 := k c6
  rw [key _ _ ⟨by omega, by omega⟩]
  have odd : ∀ x : Int, rcO (2 * x) = 1 + 2 * x := fun x => by unfold rcO; rw [if_pos (by omega)]; omega
  rw [odd]
  have e0 : rcBit false = 0 := rfl
  have e1 : rcBit true = 1 := rfl
  cases b
  · rw [if_neg (by decide), e0]; omega
  · rw [if_pos rfl, e1]; omega
theorem rcReg_sum (l : Nat → Bool) : ∀ i : Nat, rcReg l (i + 1) = rcSum (rcE l i)
  | 0 => by
    have e : ∀ j, 0 < j → rcE l 0 j = false := fun j h => by unfold rcE; rw [if_neg (by omega)]
    unfold rcSum
    rw [rcE_zero, e 1 (by decide), e 2 (by decide), e 3 (by decide), e 4 (by decide), e 5 (by decide), e 6 (by decide), e 7 (by decide)]
    show (if l 0 then rcO (rcG 0) else rcG 0) = _
    cases l 0 <;> decide
  | i + 1 => by
    show (if l (i + 1) then rcO (rcG (rcReg l (i + 1))) else rcG (rcReg l (i + 1))) = _
    rw [rcReg_sum l i]
    unfold rcSum
    rw [rc_step, rcE_zero l (i + 1), rcE_succ, rcE_succ, rcE_succ, rcE_succ, rcE_succ, rcE_succ, rcE_succ]
theorem pop_key : ∀ b0 b1 b2 b3 b4 b5 b6 b7 : Bool, popI (rcBit b0 + 2 * rcBit b1 + 4 * rcBit b2 + 8 * rcBit b3 + 16 * rcBit b4 + 32 * rcBit b5 + 64 * rcBit b6 + 128 * rcBit b7) = rcBit b0 + rcBit b1 + rcBit b2 + rcBit b3 + rcBit b4 + rcBit b5 + rcBit b6 + rcBit b7 := by decide
/-- how many of the last eight were answered -/
theorem rcReg_pop (l : Nat → Bool) (i : Nat) : popI (rcReg l (i + 1)) = rcBit (rcE l i 0) + rcBit (rcE l i 1) + rcBit (rcE l i 2) + rcBit (rcE l i 3) + rcBit (rcE l i 4) + rcBit (rcE l i 5) + rcBit (rcE l i 6) + rcBit (rcE l i 7) := by
  rw [rcReg_sum]; exact pop_key _ _ _ _ _ _ _ _
/-- how many of m from a on -/
def rcN (l : Nat → Bool) (a : Nat) : Nat → Int
  | 0 => 0
  | m + 1 => rcN l a m + rcBit (l (a + m))
theorem rcN_in (l : Nat → Bool) (a : Nat) : ∀ m : Nat, 0 ≤ rcN l a m ∧ rcN l a m ≤ m
  | 0 => ⟨Int.le_refl _, Int.le_refl _⟩
  | m + 1 => by
    have := rcN_in l a m
    have := rcBit_in (l (a + m))
    show 0 ≤ rcN l a m + rcBit (l (a + m)) ∧ rcN l a m + rcBit (l (a + m)) ≤ _
    omega
/-- the inner loop's count is the register's -/
theorem rcN_pop (l : Nat → Bool) (i : Nat) : rcN l (i - 7) (i + 1 - (i - 7)) = popI (rcReg l (i + 1)) := by
  rw [rcReg_pop]
  by_cases h : 7 ≤ i
  · obtain ⟨a, rfl⟩ : ∃ a, i = a + 7 := ⟨i - 7, by omega⟩
    rw [show a + 7 - 7 = a by omega, show a + 7 + 1 - a = 8 by omega]
    have e : ∀ j, j ≤ 7 → rcE l (a + 7) j = l (a + (7 - j)) := fun j hj => by
      unfold rcE; rw [if_pos (by omega), show a + 7 - j = a + (7 - j) by omega]
    rw [e 0 (by decide), e 1 (by decide), e 2 (by decide), e 3 (by decide), e 4 (by decide), e 5 (by decide), e 6 (by decide), e 7 (by decide)]
    simp only [rcN, Nat.reduceSub]
    omega
  · rw [show i - 7 = 0 by omega]
    have hi : i = 0 ∨ i = 1 ∨ i = 2 ∨ i = 3 ∨ i = 4 ∨ i = 5 ∨ i = 6 := by omega
    have z : rcBit false = 0 := rfl
    rcases hi with rfl | rfl | rfl | rfl | rfl | rfl | rfl <;> simp [rcN, rcE, z] <;> omega
end Go.Proofs.Ytmgfnejiienghaa
