/- Numbers of 64 bits, cut where they are too great: plain. -/
import Derived.Test.YthhipnhnpjhaaaaEvM
namespace Go.Proofs.Ythhipnhnpjhaaaa
open Go Go.RowKit
set_option linter.unusedVariables false

/-- cut at both ends -/
def sat (x : Int) : Int := max (-9223372036854775807) (min x 9223372036854775807)
theorem sat_in (x : Int) : -9223372036854775807 ≤ sat x ∧ sat x ≤ 9223372036854775807 := by unfold sat; omega
theorem sat_mono {x y : Int} (h : x ≤ y) : sat x ≤ sat y := by unfold sat; omega
theorem sat_of {x : Int} (h : -9223372036854775807 ≤ x ∧ x ≤ 9223372036854775807) : sat x = x := by unfold sat; omega
def i64r (x : Int) : Prop := -9223372036854775808 ≤ x ∧ x ≤ 9223372036854775807
/-- which bit is the highest one -/
def wLog (n : Int) : Int := if n ≤ 0 then -1 else (Nat.log2 n.toNat : Int)
theorem wLog_lt {n : Int} {k : Nat} (hn : 0 < n) : wLog n < k ↔ n < 2 ^ k := by
  unfold wLog
  rw [if_neg (by omega)]
  have h := Nat.log2_lt (n := n.toNat) (k := k) (by omega)
  have e : (n.toNat : Int) = n := by omega
  constructor
  · intro hh
    have := h.1 (by omega)
    have : ((n.toNat : Nat) : Int) < ((2 ^ k : Nat) : Int) := by exact_mod_cast this
    rw [e] at this
    simpa using this
  · intro hh
    have : ((n.toNat : Nat) : Int) < ((2 ^ k : Nat) : Int) := by rw [e]; simpa using hh
    have := h.2 (by exact_mod_cast this)
    omega
theorem wLog_in {n : Int} (h : n ≤ 18446744073709551615) : -1 ≤ wLog n ∧ wLog n ≤ 63 := by
  by_cases hn : 0 < n
  · have e64 : (2 : Int) ^ 64 = 18446744073709551616 := by decide
    have h1 := (wLog_lt (k := 64) hn).2 (by omega)
    have h2 : 0 ≤ wLog n := by unfold wLog; rw [if_neg (by omega)]; exact Int.natCast_nonneg _
    omega
  · unfold wLog; rw [if_pos (by omega)]; omega
def fAddI (a b : Int) : Int := sat (a + b)
def fSubI (a b : Int) : Int := sat (a - b)
/-- turned by n bits, up or down -/
def fShI (a n : Int) : Int :=
  if n ≤ 0 then max (a / 2 ^ (min 63 (-n).toNat)) (-9223372036854775807)
  else sat (a * 2 ^ (min n.toNat 64))
theorem log_shift {m : Int} (hm : 0 < m) (t : Nat) : wLog m + t < 63 ↔ m * 2 ^ t < 9223372036854775808 := by
  have e63 : (2 : Int) ^ 63 = 9223372036854775808 := by decide
  have hp : (0 : Int) < 2 ^ t := Int.pow_pos (by decide)
  by_cases ht : t ≤ 63
  · have h1 := wLog_lt (n := m) (k := 63 - t) hm
    have h2 : (2 : Int) ^ 63 = 2 ^ (63 - t) * 2 ^ t := by rw [← Int.pow_add]; congr 1; omega
    rw [← e63, h2]
    constructor
    · intro h
      exact Int.mul_lt_mul_of_pos_right (h1.1 (by omega)) hp
    · intro h
      have := h1.2 (Int.lt_of_mul_lt_mul_right h (by omega))
      omega
  · have h0 : 0 ≤ wLog m := by unfold wLog; rw [if_neg (by omega)]; exact Int.natCast_nonneg _
    have h3 : (2 : Int) ^ 63 ≤ 2 ^ t := by
      have h4 : (2 : Int) ^ t = 2 ^ 63 * 2 ^ (t - 63) := by rw [← Int.pow_add]; congr 1; omega
      have h5 : (0 : Int) < 2 ^ (t - 63) := Int.pow_pos (by decide)
      rw [h4, e63]; omega
    constructor
    · intro h; omega
    · intro h
      have : 1 * 2 ^ t ≤ m * 2 ^ t := Int.mul_le_mul_of_nonneg_right (by omega) (by omega)
      omega
/-- the shift's value, as the code has it -/
theorem shift_down {a : Int} (a0 : -9223372036854775808 ≤ a) (a1 : a ≤ 9223372036854775807) (q : Int) (hq : 0 < q) : max (a.fdiv q) (-9223372036854775807) = sat (a / q) := by
  rw [Int.fdiv_eq_ediv_of_nonneg _ (by omega)]
  have : a / q ≤ 9223372036854775807 := by
    by_cases h : 0 ≤ a
    · have := Int.ediv_le_self q h; omega
    · have := Int.ediv_neg_of_neg_of_pos (show a < 0 by omega) hq; omega
  unfold sat; omega
end Go.Proofs.Ythhipnhnpjhaaaa
