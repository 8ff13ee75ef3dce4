/- Words of 64 bits, as the evaluator has them: plain. -/
import Derived.Test.YthhipnhnpjhaaaaNd
import Derived.Test.YthhipnhnpjhaaaaEvQ
namespace Go.Proofs.Ythhipnhnpjhaaaa
open Go Go.RowKit Ev
set_option linter.unusedVariables false

theorem shlW (x : Int) (k : Nat) (hk : k ≤ 64) : arI .shl .u64 x k = x * 2 ^ k % 18446744073709551616 := by
  show IntKind.u64.wrap (x * 2 ^ (min (k : Int).toNat 64)) = _
  rw [show min (k : Int).toNat 64 = k by omega, IntKind.wrap_u64]
theorem shl1 (x : Int) : arI .shl .u64 x 1 = x * 2 % 18446744073709551616 := shlW x 1 (by decide)
theorem shl2 (x : Int) : arI .shl .u64 x 2 = x * 4 % 18446744073709551616 := shlW x 2 (by decide)
theorem shl32 (x : Int) : arI .shl .u64 x 32 = x * 4294967296 % 18446744073709551616 := shlW x 32 (by decide)
theorem shrW (x : Int) (k : Nat) (hk : k ≤ 64) : arI .shr .u64 x k = x / 2 ^ k := by
  show x.fdiv (2 ^ (min (k : Int).toNat 64)) = _
  rw [show min (k : Int).toNat 64 = k by omega, Int.fdiv_eq_ediv_of_nonneg _ (Int.le_of_lt (Int.pow_pos (by decide)))]
theorem shr62 (x : Int) : arI .shr .u64 x 62 = x / 4611686018427387904 := shrW x 62 (by decide)
theorem shr32 (x : Int) : arI .shr .u64 x 32 = x / 4294967296 := shrW x 32 (by decide)
theorem shr31 (x : Int) : arI .shr .u64 x 31 = x / 2147483648 := shrW x 31 (by decide)
theorem subW (x y : Int) : arI .sub .u64 x y = (x - y) % 18446744073709551616 := IntKind.wrap_u64 _
theorem addW (x y : Int) : arI .add .u64 x y = (x + y) % 18446744073709551616 := IntKind.wrap_u64 _
theorem mulW (x y : Int) : arI .mul .u64 x y = (x * y) % 18446744073709551616 := IntKind.wrap_u64 _
theorem orW {x y : Int} (k : Nat) (hk : k ≤ 64) (hx : 0 ≤ x ∧ x < 18446744073709551616) (hd : x % 2 ^ k = 0) (hy : 0 ≤ y ∧ y < 2 ^ k) : arI .or .u64 x y = x + y := by
  have e64 : (2 : Nat) ^ 64 = 18446744073709551616 := by decide
  have hp : (2 : Int) ^ k ≤ 18446744073709551616 := by
    have := Nat.pow_le_pow_right (n := 2) (by decide) hk
    rw [e64] at this
    rw [show (2 : Int) ^ k = ((2 ^ k : Nat) : Int) from (Int.natCast_pow 2 k).symm]
    omega
  obtain ⟨a, rfl⟩ := Int.eq_ofNat_of_zero_le hx.1
  obtain ⟨b, rfl⟩ := Int.eq_ofNat_of_zero_le hy.1
  have hd' : a % 2 ^ k = 0 := by exact_mod_cast hd
  have hb' : b < 2 ^ k := by exact_mod_cast hy.2
  have hdm := Nat.div_add_mod a (2 ^ k)
  rw [hd', Nat.add_zero] at hdm
  have hor : a ||| b = a + b := by
    rw [← hdm]; exact (Nat.two_pow_add_eq_or_of_lt hb' _).symm
  have ha64 : a < 18446744073709551616 := by omega
  have hb64 : b < 18446744073709551616 := by omega
  have hlt : a + b < 18446744073709551616 := by
    rw [← hor]
    exact Nat.or_lt_two_pow (n := 64) ha64 hb64
  show IntKind.u64.wrap (((BitVec.ofInt 64 a ||| BitVec.ofInt 64 b).toNat : Nat) : Int) = _
  rw [BitVec.toNat_or, BitVec.toNat_ofInt, BitVec.toNat_ofInt, IntKind.wrap_u64]
  have ea : ((a : Int) % ((2 ^ 64 : Nat) : Int)).toNat = a := by rw [e64]; omega
  have eb : ((b : Int) % ((2 ^ 64 : Nat) : Int)).toNat = b := by rw [e64]; omega
  rw [ea, eb, hor]
  omega
theorem or1 {x y : Int} (hx : 0 ≤ x ∧ x < 18446744073709551616) (hd : x % 2 = 0) (hy : 0 ≤ y ∧ y < 2) : arI .or .u64 x y = x + y := orW 1 (by decide) hx hd hy
theorem or2 {x y : Int} (hx : 0 ≤ x ∧ x < 18446744073709551616) (hd : x % 4 = 0) (hy : 0 ≤ y ∧ y < 4) : arI .or .u64 x y = x + y := orW 2 (by decide) hx hd hy
theorem or32 {x y : Int} (hx : 0 ≤ x ∧ x < 18446744073709551616) (hd : x % 4294967296 = 0) (hy : 0 ≤ y ∧ y < 4294967296) : arI .or .u64 x y = x + y := orW 32 (by decide) hx hd hy
theorem and32 {x : Int} (hx : 0 ≤ x ∧ x < 18446744073709551616) : arI .and .u64 x 4294967295 = x % 4294967296 := by
  have e64 : (2 : Nat) ^ 64 = 18446744073709551616 := by decide
  obtain ⟨a, rfl⟩ := Int.eq_ofNat_of_zero_le hx.1
  have ha64 : a < 18446744073709551616 := by omega
  show IntKind.u64.wrap (((BitVec.ofInt 64 a &&& BitVec.ofInt 64 4294967295).toNat : Nat) : Int) = _
  have ea : ((a : Int) % ((2 ^ 64 : Nat) : Int)).toNat = a := by rw [e64]; omega
  have eb : (BitVec.ofInt 64 4294967295).toNat = 2 ^ 32 - 1 := by decide
  rw [BitVec.toNat_and, BitVec.toNat_ofInt, ea, eb, Nat.and_two_pow_sub_one_eq_mod, IntKind.wrap_u64]
  show ((a % 4294967296 : Nat) : Int) % 18446744073709551616 = (a : Int) % 4294967296
  omega
end Go.Proofs.Ythhipnhnpjhaaaa
