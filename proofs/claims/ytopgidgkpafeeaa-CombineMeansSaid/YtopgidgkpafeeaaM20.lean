/- The walk over fix.Mul. -/
import Derived.Test.YtopgidgkpafeeaaM18
import Derived.Test.YtopgidgkpafeeaaM19
namespace Go.Proofs.Ytopgidgkpafeeaa
open Go.RowKit Go.IntWalk
set_option linter.unusedVariables false
set_option maxRecDepth 100000

/-- the product of two numbers in fixed point -/
def fMul (a b : Int) : Int :=
  if 2147483648 ≤ fSize a * fSize b / 18446744073709551616 then fCut 9223372036854775807 0 (decide (a < 0) != decide (b < 0))
  else fCut (fSize a * fSize b / 4294967296) (fSize a * fSize b * 4294967296 % 18446744073709551616) (decide (a < 0) != decide (b < 0))
theorem fMul_small {a b hi lo : Int} {x y : Bool} (e1 : fSize a * fSize b / 18446744073709551616 = hi) (e2 : fSize a * fSize b % 18446744073709551616 = lo) (h : hi < 2147483648) (hx : decide (a < 0) = x) (hy : decide (b < 0) = y) :
    fMul a b = fCut (hi * 4294967296 + lo / 4294967296) (lo * 4294967296 % 18446744073709551616) (x != y) := by
  unfold fMul
  rw [hx, hy, if_neg (by omega)]
  generalize fSize a * fSize b = P at e1 e2
  have h1 : P / 4294967296 = hi * 4294967296 + lo / 4294967296 := by omega
  have h2 : P * 4294967296 % 18446744073709551616 = lo * 4294967296 % 18446744073709551616 := by omega
  rw [h1, h2]
theorem fMul_big {a b hi : Int} {x y : Bool} (e1 : fSize a * fSize b / 18446744073709551616 = hi) (h : ¬ hi < 2147483648) (hx : decide (a < 0) = x) (hy : decide (b < 0) = y) :
    fMul a b = fCut 9223372036854775807 0 (x != y) := by
  unfold fMul
  rw [hx, hy, if_pos (by omega)]
theorem u64_up32 (x : Int) (h0 : 0 ≤ x) : IntKind.u64.wrap (x * 4294967296) = x * 4294967296 % 18446744073709551616 := by
  simp [IntKind.wrap, IntKind.bits, IntKind.signed]
theorem size_mul {x y : Int} (hx0 : 0 ≤ x) (hx1 : x ≤ 9223372036854775808) (hy0 : 0 ≤ y) (hy1 : y ≤ 9223372036854775808) : 0 ≤ x * y ∧ x * y ≤ 85070591730234615865843651857942052864 := by
  constructor
  · exact Int.mul_nonneg hx0 hy0
  · calc x * y ≤ 9223372036854775808 * y := Int.mul_le_mul_of_nonneg_right hx1 hy0
      _ ≤ 9223372036854775808 * 9223372036854775808 := Int.mul_le_mul_of_nonneg_left hy1 (by omega)
      _ = 85070591730234615865843651857942052864 := by decide
set_option maxHeartbeats 1000000 in
theorem fixmul_any (a b : Int) (h0 : -9223372036854775808 ≤ a) (h1 : a ≤ 9223372036854775807) (g0 : -9223372036854775808 ≤ b) (g1 : b ≤ 9223372036854775807) (w : World) :
    Calls Try.prog 56 #[.int .i64 a, .int .i64 b] w fun e w' => e = .returned (.int .i64 (fMul a b)) ∧ Below w.heap.size w w' := by
  have ka := fSize_in h0 h1
  have kb := fSize_in g0 g1
  have HA := Lib.hid (size_any a h0 h1)
  have HB := Lib.hid (size_any b g0 g1)
  have HM := Lib.hid (mul_any (fSize a) (fSize b) ka.1 (by omega) kb.1 (by omega))
  have kp := size_mul ka.1 ka.2 kb.1 kb.2
  obtain ⟨hi, E1⟩ : ∃ x, fSize a * fSize b / 18446744073709551616 = x := ⟨_, rfl⟩
  obtain ⟨lo, E2⟩ : ∃ x, fSize a * fSize b % 18446744073709551616 = x := ⟨_, rfl⟩
  have hi0 : 0 ≤ hi := by omega
  have hi1 : hi ≤ 4611686018427387904 := by omega
  have lo0 : 0 ≤ lo := by omega
  have lo1 : lo < 18446744073709551616 := by omega
  obtain ⟨x, X⟩ : ∃ x, decide (a < 0) = x := ⟨_, rfl⟩
  obtain ⟨y, Y⟩ : ∃ x, decide (b < 0) = x := ⟨_, rfl⟩
  rw [X] at HA
  rw [Y] at HB
  rw [E1, E2] at HM
  clear ka kb kp h0 h1 g0 g1
  by_cases hb : hi < 2147483648
  · have HF := Lib.hid (fMul_small E1 E2 hb X Y)
    have j := u64_join32 (hi * 4294967296) (lo / 4294967296) (by omega) (Int.mul_emod_left _ _) (by omega) (by omega) (by omega)
    have u1 := u64_up32 lo lo0
    have u2 := u64_in (hi * 4294967296) (by omega)
    obtain ⟨n, En⟩ : ∃ n, hi * 4294967296 + lo / 4294967296 = n := ⟨_, rfl⟩
    obtain ⟨r, Er⟩ : ∃ n, lo * 4294967296 % 18446744073709551616 = n := ⟨_, rfl⟩
    have n0 : 0 ≤ n ∧ n ≤ 18446744073709551615 := by omega
    have r0 : 0 ≤ r ∧ r ≤ 18446744073709551615 := by omega
    have HC := Lib.hid (fun s => cut_any n r s n0.1 n0.2 r0.1 r0.2)
    rw [En] at j
    rw [En, Er] at HF
    rw [Er] at u1
    have hz : hi / 2147483648 = 0 := by omega
    clear E1 E2 En Er X Y n0 r0
    cases x <;> cases y
    all_goals
      go_enter Try.func56, Try.ntmps56
      go_wp2_with (first | (with_reducible refine (HA.out _).mono ?_; rintro e w1 ⟨rfl, rfl⟩) | (with_reducible refine (HB.out _).mono ?_; rintro e w1 ⟨rfl, rfl⟩) | (with_reducible refine (HM.out _).mono ?_; rintro e w1 ⟨rfl, hb1⟩) | (with_reducible refine (HC.out _ _).mono ?_; rintro e w2 ⟨rfl, rfl⟩))
      go_ret
      exact ⟨ret_int HF.out.symm, hb1⟩
  · have HF := Lib.hid (fMul_big E1 hb X Y)
    have HC := Lib.hid (fun s => cut_any 9223372036854775807 0 s (by decide) (by decide) (by decide) (by decide))
    have hz : 0 < hi / 2147483648 := by omega
    clear E1 E2 X Y
    cases x <;> cases y
    all_goals
      go_enter Try.func56, Try.ntmps56
      go_wp2_with (first | (with_reducible refine (HA.out _).mono ?_; rintro e w1 ⟨rfl, rfl⟩) | (with_reducible refine (HB.out _).mono ?_; rintro e w1 ⟨rfl, rfl⟩) | (with_reducible refine (HM.out _).mono ?_; rintro e w1 ⟨rfl, hb1⟩) | (with_reducible refine (HC.out _ _).mono ?_; rintro e w2 ⟨rfl, rfl⟩))
      go_ret
      exact ⟨ret_int HF.out.symm, hb1⟩
end Go.Proofs.Ytopgidgkpafeeaa
