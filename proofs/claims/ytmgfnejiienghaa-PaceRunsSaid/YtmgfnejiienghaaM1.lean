/- Plain definitions for the package floaty: what Kind, Of and Within compute, by the bits of the numbers; and small laws on masks of bits. -/
import Derived.WalkKit
import Derived.IntWalk
namespace Go.Proofs.Ytmgfnejiienghaa
open Go.RowKit Go.IntWalk
set_option linter.unusedVariables false

theorem ret_int {k : IntKind} {a b : Int} (h : a = b) : Ending.returned (.int k a) = .returned (.int k b) := by rw [h]
theorem ret_two {k k' : IntKind} {a b a' b' : Int} (h : a = b) (h' : a' = b') : Ending.returned (.tuple #[.int k a, .int k' a']) = .returned (.tuple #[.int k b, .int k' b']) := by rw [h, h']
theorem ret_bool {a b : Bool} (h : a = b) : Ending.returned (.bool a) = .returned (.bool b) := by rw [h]

theorem p64 : (2 : Int) ^ 64 = 18446744073709551616 := by decide
theorem p63 : (2 : Int) ^ 63 = 9223372036854775808 := by decide
theorem u64_wraps (n : Int) (h0 : 0 ≤ n) (h1 : n < 2 ^ 64) : IntKind.u64.wrap n = n := u64_in n ⟨h0, by rw [p64] at h1; omega⟩
theorem i64_wraps (n : Int) (h0 : 0 ≤ n) (h1 : n < 2 ^ 63) : IntKind.i64.wrap n = n := i64_in n ⟨by omega, by rw [p63] at h1; omega⟩
/-- a mask of the lower i bits of a uint64 -/
theorem u64_mask (i : Nat) (hi : i ≤ 64) (x : Int) (h0 : 0 ≤ x) (h1 : x < 18446744073709551616) : bits .and .u64 x (2 ^ i - 1) = x % 2 ^ i :=
  bits_mask .u64 64 (by decide) u64_wraps i hi x h0 (by rw [p64]; exact h1)
theorem u64_join (i : Nat) (hi : i ≤ 64) (x y : Int) (hx0 : 0 ≤ x) (hx : x % 2 ^ i = 0) (hx1 : x < 18446744073709551616) (hy0 : 0 ≤ y) (hy : y < 2 ^ i) : bits .or .u64 x y = x + y := by
  have hp : (2 : Int) ^ i ≤ 2 ^ 64 := by exact_mod_cast Nat.pow_le_pow_right (by decide) hi
  exact bits_join .u64 64 (by decide) u64_wraps i x y hx0 hx (by rw [p64]; exact hx1) hy0 hy (by omega)
theorem i64_or52 (M : Int) (h0 : 0 ≤ M) (h1 : M ≤ 4503599627370495) : bits .or .i64 M 4503599627370496 = M + 4503599627370496 := by
  have h := bits_join .i64 63 (by decide) i64_wraps 52 4503599627370496 M (by decide) (by decide) (by decide) h0 (by omega) (by rw [p63]; omega)
  have c : bits .or .i64 M 4503599627370496 = bits .or .i64 4503599627370496 M := by simp only [bits, BitVec.or_comm]
  rw [c, h]; omega
theorem u64_and2047 (x : Int) (h0 : 0 ≤ x) (h1 : x < 18446744073709551616) : bits .and .u64 x 2047 = x % 2048 := u64_mask 11 (by decide) x h0 h1
theorem u64_and52 (x : Int) (h0 : 0 ≤ x) (h1 : x < 18446744073709551616) : bits .and .u64 x 4503599627370495 = x % 4503599627370496 := u64_mask 52 (by decide) x h0 h1

/-- the bits without the sign -/
def fAbs (b : Nat) : Nat := (bits BinOp.andNot IntKind.u64 (b : Int) 9223372036854775808).toNat
def fKind (b : Nat) : Int :=
  if (FloatKind.f64.format.order b b != some Ordering.eq) = true then 0
  else if (FloatKind.f64.format.order (fAbs b) 9218868437227405311 == some Ordering.gt) = true then 1 + (if wrap64 (b : Int) < 0 then 1 else 0)
  else if (FloatKind.f64.format.order b 0 == some Ordering.eq) = true then 3 + (if wrap64 (b : Int) < 0 then 1 else 0)
  else 5 + (if wrap64 (b : Int) < 0 then 1 else 0)
/-- what is told of a finite number with the sign, the exponent's field and the fraction's -/
def fVal (neg : Bool) (E M : Int) : Int :=
  let n := if 0 < E then M + 4503599627370496 else M
  let s := if neg then -n else n
  let p := if 0 < E then E - 1023 - 52 + 32 else E - 1023 - 52 + 32 + 1
  if 0 ≤ p then wrap64 (s * 2 ^ min p.toNat 64) else s / 2 ^ (min (-p) 63).toNat
def fOf (b : Nat) : Int × Int :=
  if fKind b = 0 then (0, 30) else if fKind b ≤ 2 then (0, 31) else if fKind b ≤ 4 then (0, 0)
  else if (FloatKind.f64.format.order (fAbs b) 4746794007248502784 == some Ordering.gt) = true ∨ (FloatKind.f64.format.order (fAbs b) 4746794007248502784 == some Ordering.eq) = true then (0, 32)
  else (fVal (FloatKind.f64.format.order b 0 == some Ordering.lt) ((b : Int) / 4503599627370496 % 2048) ((b : Int) % 4503599627370496), 0)
def fWithin (b lo hi : Nat) : Int × Int :=
  if (fOf b).2 ≠ 0 then (0, (fOf b).2) else if (fOf lo).2 ≠ 0 then (0, (fOf lo).2) else if (fOf hi).2 ≠ 0 then (0, (fOf hi).2)
  else if (FloatKind.f64.format.order b lo == some Ordering.lt) = true ∨ (FloatKind.f64.format.order hi b == some Ordering.lt) = true then (0, 32)
  else fOf b

/-- a whole number within its bounds -/
def sWhole (n lo hi : Int) : Int × Int := if n < lo ∨ n > hi then (0, 100) else (n, 0)

/-- the three numbers of 'Of', case by case -/
theorem fVal_up {neg : Bool} {E M : Int} (hE : 0 < E) (hp : 0 ≤ E - 1023 - 52 + 32) : fVal neg E M = wrap64 ((if neg then -(M + 4503599627370496) else M + 4503599627370496) * 2 ^ min (E - 1023 - 52 + 32).toNat 64) := by
  simp only [fVal, if_pos hE, if_pos hp]
theorem fVal_down {neg : Bool} {E M : Int} (hE : 0 < E) (hp : E - 1023 - 52 + 32 < 0) : fVal neg E M = (if neg then -(M + 4503599627370496) else M + 4503599627370496) / 2 ^ (min (-(E - 1023 - 52 + 32)) 63).toNat := by
  simp only [fVal, if_pos hE, if_neg (Int.not_le.2 hp)]
theorem fVal_small {neg : Bool} {M : Int} : fVal neg 0 M = (if neg then -M else M) / 9223372036854775808 := by
  simp only [fVal]
  rfl
theorem fOf_num {b : Nat} (h1 : (fKind b == 0) = false) (h2 : 2 < fKind b) (h4 : 4 < fKind b) (h5 : (FloatKind.f64.format.order (fAbs b) 4746794007248502784 == some Ordering.gt) = false) (h6 : (FloatKind.f64.format.order (fAbs b) 4746794007248502784 == some Ordering.eq) = false) :
    fOf b = (fVal (FloatKind.f64.format.order b 0 == some Ordering.lt) ((b : Int) / 4503599627370496 % 2048) ((b : Int) % 4503599627370496), 0) := by
  have h1' : ¬ fKind b = 0 := by simpa using h1
  simp only [fOf]
  rw [if_neg h1', if_neg (by omega), if_neg (by omega), if_neg (by simp [h5, h6])]
end Go.Proofs.Ytmgfnejiienghaa
