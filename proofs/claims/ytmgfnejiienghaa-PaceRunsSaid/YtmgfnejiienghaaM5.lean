/- Several texts in one. -/
import Derived.Test.YtmgfnejiienghaaM3
import Derived.Test.YtmgfnejiienghaaM4
import Derived.Test.YtmgfnejiienghaaProg
import Derived.Test.YtmgfnejiienghaaM1
import Derived.WalkKit
import Derived.WalkSpells
import Derived.WalkLawsBesides
import Derived.Lib.Hide
import Derived.StillTailTactics
import Derived.Lib.QuietBelow
import Derived.Laws.Rows
import Derived.Laws.CopyOwn
/- The walk over fix.Mul. -/
namespace Go.Proofs.Ytmgfnejiienghaa
open Go.RowKit Go.IntWalk
set_option linter.unusedVariables false
set_option maxRecDepth 100000

/-- the product of two numbers in fixed point -/
def fMul (a b : Int) : Int :=
  if 2147483648 ≤ fSize a * fSize b / 18446744073709551616 then fCut 9223372036854775807 0 (decide (a < 0) != decide (b < 0))
  else fCut (fSize a * fSize b / 4294967296) (fSize a * fSize b * 4294967296 % 18446744073709551616) (decide (a < 0) != decide (b < 0))
theorem fMul_small {a b hi lo : Int} {x y : Bool} (e1 : fSize a * fSize b / 18446744073709551616 = hi) (e2 : fSize a * fSize b % 18446744073709551616 = lo) (h : hi < 2147483648) (hx : decide (a < 0) = x) (hy : decide (b < 0) = y) :
    fMul a b = fCut (hi * 4294967296 + lo / 4294967296) (lo * 4294967296 % 18446744073709551616) (x != y) := by
  unfold fMul
  rw [hx, hy, if_neg (by omega)]
  generalize fSize a * fSize b = P at e1 e2
  have h1 : P / 4294967296 = hi * 4294967296 + lo / 4294967296 := by omega
  have h2 : P * 4294967296 % 18446744073709551616 = lo * 4294967296 % 18446744073709551616 := by omega
  rw [h1, h2]
theorem fMul_big {a b hi : Int} {x y : Bool} (e1 : fSize a * fSize b / 18446744073709551616 = hi) (h : ¬ hi < 2147483648) (hx : decide (a < 0) = x) (hy : decide (b < 0) = y) :
    fMul a b = fCut 9223372036854775807 0 (x != y) := by
  unfold fMul
  rw [hx, hy, if_pos (by omega)]
theorem u64_up32 (x : Int) (h0 : 0 ≤ x) : IntKind.u64.wrap (x * 4294967296) = x * 4294967296 % 18446744073709551616 := by
  simp [IntKind.wrap, IntKind.bits, IntKind.signed]
theorem size_mul {x y : Int} (hx0 : 0 ≤ x) (hx1 : x ≤ 9223372036854775808) (hy0 : 0 ≤ y) (hy1 : y ≤ 9223372036854775808) : 0 ≤ x * y ∧ x * y ≤ 85070591730234615865843651857942052864 := by
  constructor
  · exact Int.mul_nonneg hx0 hy0
  · calc x * y ≤ 9223372036854775808 * y := Int.mul_le_mul_of_nonneg_right hx1 hy0
      _ ≤ 9223372036854775808 * 9223372036854775808 := Int.mul_le_mul_of_nonneg_left hy1 (by omega)
      _ = 85070591730234615865843651857942052864 := by decide
set_option maxHeartbeats 1000000 in
theorem fixmul_any (a b : Int) (h0 : -9223372036854775808 ≤ a) (h1 : a ≤ 9223372036854775807) (g0 : -9223372036854775808 ≤ b) (g1 : b ≤ 9223372036854775807) (w : World) :
    Calls Try.prog 50 #[.int .i64 a, .int .i64 b] w fun e w' => e = .returned (.int .i64 (fMul a b)) ∧ Below w.heap.size w w' := by
  have ka := fSize_in h0 h1
  have kb := fSize_in g0 g1
  have HA := Lib.hid (size_any a h0 h1)
  have HB := Lib.hid (size_any b g0 g1)
  have HM := Lib.hid (mul_any (fSize a) (fSize b) ka.1 (by omega) kb.1 (by omega))
  have kp := size_mul ka.1 ka.2 kb.1 kb.2
  obtain ⟨hi, E1⟩ : ∃ x, fSize a * fSize b / 18446744073709551616 = x := ⟨_, rfl⟩
  obtain ⟨lo, E2⟩ : ∃ x, fSize a * fSize b % 18446744073709551616 = x := ⟨_, rfl⟩
  have hi0 : 0 ≤ hi := by omega
  have hi1 : hi ≤ 4611686018427387904 := by omega
  have lo0 : 0 ≤ lo := by omega
  have lo1 : lo < 18446744073709551616 := by omega
  obtain ⟨x, X⟩ : ∃ x, decide (a < 0) = x := ⟨_, rfl⟩
  obtain ⟨y, Y⟩ : ∃ x, decide (b < 0) = x := ⟨_, rfl⟩
  rw [X] at HA
  rw [Y] at HB
  rw [E1, E2] at HM
  clear ka kb kp h0 h1 g0 g1
  by_cases hb : hi < 2147483648
  · have HF := Lib.hid (fMul_small E1 E2 hb X Y)
    have j := u64_join32 (hi * 4294967296) (lo / 4294967296) (by omega) (Int.mul_emod_left _ _) (by omega) (by omega) (by omega)
    have u1 := u64_up32 lo lo0
    have u2 := u64_in (hi * 4294967296) (by omega)
    obtain ⟨n, En⟩ : ∃ n, hi * 4294967296 + lo / 4294967296 = n := ⟨_, rfl⟩
    obtain ⟨r, Er⟩ : ∃ n, lo * 4294967296 % 18446744073709551616 = n := ⟨_, rfl⟩
    have n0 : 0 ≤ n ∧ n ≤ 18446744073709551615 := by omega
    have r0 : 0 ≤ r ∧ r ≤ 18446744073709551615 := by omega
    have HC := Lib.hid (fun s => cut_any n r s n0.1 n0.2 r0.1 r0.2)
    rw [En] at j
    rw [En, Er] at HF
    rw [Er] at u1
    have hz : hi / 2147483648 = 0 := by omega
    clear E1 E2 En Er X Y n0 r0
    cases x <;> cases y
    all_goals
      go_enter Try.func50, Try.ntmps50
      go_wp2_with (first | (with_reducible refine (HA.out _).mono ?_; rintro e w1 ⟨rfl, rfl⟩) | (with_reducible refine (HB.out _).mono ?_; rintro e w1 ⟨rfl, rfl⟩) | (with_reducible refine (HM.out _).mono ?_; rintro e w1 ⟨rfl, hb1⟩) | (with_reducible refine (HC.out _ _).mono ?_; rintro e w2 ⟨rfl, rfl⟩))
      go_ret
      exact ⟨ret_int HF.out.symm, hb1⟩
  · have HF := Lib.hid (fMul_big E1 hb X Y)
    have HC := Lib.hid (fun s => cut_any 9223372036854775807 0 s (by decide) (by decide) (by decide) (by decide))
    have hz : 0 < hi / 2147483648 := by omega
    clear E1 E2 X Y
    cases x <;> cases y
    all_goals
      go_enter Try.func50, Try.ntmps50
      go_wp2_with (first | (with_reducible refine (HA.out _).mono ?_; rintro e w1 ⟨rfl, rfl⟩) | (with_reducible refine (HB.out _).mono ?_; rintro e w1 ⟨rfl, rfl⟩) | (with_reducible refine (HM.out _).mono ?_; rintro e w1 ⟨rfl, hb1⟩) | (with_reducible refine (HC.out _ _).mono ?_; rintro e w2 ⟨rfl, rfl⟩))
      go_ret
      exact ⟨ret_int HF.out.symm, hb1⟩
end Go.Proofs.Ytmgfnejiienghaa
/- The walks over the package floaty and what it calls of the package math. -/
namespace Go.Proofs.Ytmgfnejiienghaa
open Go.RowKit
set_option maxRecDepth 100000

theorem call_bits (b : Nat) (w : World) : (callFunc 131 #[.float .f64 b]).run Try.prog w = .ok (.value (.int .u64 b)) w := by kernel_rfl
theorem call_frombits (b : Int) (w : World) : (callFunc 136 #[.int .u64 b]).run Try.prog w = .ok (.value (.float .f64 b.toNat)) w := by kernel_rfl

set_option maxHeartbeats 400000 in
theorem kind_any (b : Nat) (w : World) :
    Calls Try.prog 129 #[.float .f64 b] w fun e w' => e = .returned (.int .i64 (fKind b)) ∧ w = w' := by
  have k1 := call_bits b
  have k2 := call_frombits
  obtain ⟨s, Hs⟩ : ∃ s : Int, Hid ((if wrap64 (b : Int) < 0 then 1 else 0) = s) := ⟨_, Lib.hid rfl⟩
  by_cases hs : wrap64 (b : Int) < 0
  · have e := Hs.out
    rw [if_pos hs] at e
    subst e
    go_enter Try.func129, Try.ntmps129
    go_wp2
    all_goals go_ret
    all_goals clear k1 k2
    all_goals exact ⟨ret_int (by simp only [fKind, fAbs, Hs.out]; simp [*]), rfl⟩
  · have e := Hs.out
    rw [if_neg hs] at e
    subst e
    go_enter Try.func129, Try.ntmps129
    go_wp2
    all_goals go_ret
    all_goals clear k1 k2
    all_goals exact ⟨ret_int (by simp only [fKind, fAbs, Hs.out]; simp [*]), rfl⟩

set_option maxHeartbeats 400000 in
theorem abs_any (b : Nat) (w : World) :
    Calls Try.prog 130 #[.float .f64 b] w fun e w' => e = .returned (.float .f64 (fAbs b)) ∧ w = w' := by
  have k1 := call_bits b
  have k2 := call_frombits
  go_enter Try.func130, Try.ntmps130
  go_wp2
  go_ret
  exact ⟨rfl, rfl⟩

set_option maxHeartbeats 400000 in
theorem of_num (b : Nat) (w : World) (hb : b < 18446744073709551616) (h1 : (fKind b == 0) = false) (h2 : 2 < fKind b) (h4 : 4 < fKind b) (h5 : (FloatKind.f64.format.order (fAbs b) 4746794007248502784 == some Ordering.gt) = false) (h6 : (FloatKind.f64.format.order (fAbs b) 4746794007248502784 == some Ordering.eq) = false) :
    Calls Try.prog 126 #[.float .f64 b] w fun e w' => e = .returned (.tuple #[.int .i64 (fOf b).1, .int .i64 (fOf b).2]) ∧ w = w' := by
  have k1 := call_bits b
  have Hf := Lib.hid (fOf_num h1 h2 h4 h5 h6)
  obtain ⟨E, hE, hE0, hE1, HE⟩ : ∃ E : Int, bits BinOp.and IntKind.u64 (↑b / 4503599627370496) 2047 = E ∧ 0 ≤ E ∧ E ≤ 2047 ∧ Hid ((b : Int) / 4503599627370496 % 2048 = E) :=
    ⟨_, u64_and2047 ((b : Int) / 4503599627370496) (by omega) (by omega), by omega, by omega, Lib.hid rfl⟩
  obtain ⟨M, hM, hM0, hM1, HM⟩ : ∃ M : Int, bits BinOp.and IntKind.u64 (↑b) 4503599627370495 = M ∧ 0 ≤ M ∧ M ≤ 4503599627370495 ∧ Hid ((b : Int) % 4503599627370496 = M) :=
    ⟨_, u64_and52 (b : Int) (by omega) (by omega), by omega, by omega, Lib.hid rfl⟩
  have hor : bits BinOp.or IntKind.i64 M 4503599627370496 = M + 4503599627370496 := i64_or52 M hM0 hM1
  have HB : Hid (∀ t, (FloatKind.f64.format.order b 0 == some Ordering.lt) = t → fOf b = (fVal t E M, 0)) := Lib.hid (fun t ht => by rw [Hf.out, HE.out, HM.out, ht])
  obtain ⟨t, ht, Ht⟩ : ∃ t, (FloatKind.f64.format.order b 0 == some Ordering.lt) = t ∧ Hid (fOf b = (fVal t E M, 0)) := ⟨_, rfl, Lib.hid (HB.out _ rfl)⟩
  clear HB Hf
  by_cases e0 : 0 < E
  · by_cases hp : 0 ≤ E - 1023 - 52 + 32
    · have Hv := Lib.hid (fVal_up (neg := t) (M := M) e0 hp)
      cases t
      · go_enter Try.func126, Try.ntmps126
        go_wp2_with (first | (go_at_call 129; refine (kind_any _ _).mono ?_; rintro e w' ⟨rfl, rfl⟩) | (go_at_call 130; refine (abs_any _ _).mono ?_; rintro e w' ⟨rfl, rfl⟩))
        go_ret2
        exact ⟨ret_two (by rw [Ht.out, Hv.out]; rfl) (by rw [Ht.out]), rfl⟩
      · go_enter Try.func126, Try.ntmps126
        go_wp2_with (first | (go_at_call 129; refine (kind_any _ _).mono ?_; rintro e w' ⟨rfl, rfl⟩) | (go_at_call 130; refine (abs_any _ _).mono ?_; rintro e w' ⟨rfl, rfl⟩))
        go_ret2
        exact ⟨ret_two (by rw [Ht.out, Hv.out]; rfl) (by rw [Ht.out]), rfl⟩
    · have Hv := Lib.hid (fVal_down (neg := t) (M := M) e0 (Int.not_le.1 hp))
      by_cases hq : -(E - 1023 - 52 + 32) ≤ 63
      · have Hm : Hid ((min (-(E - 1023 - 52 + 32)) 63).toNat = (-(E - 1023 - 52 + 32)).toNat) := Lib.hid (by omega)
        cases t
        · go_enter Try.func126, Try.ntmps126
          go_wp2_with (first | (go_at_call 129; refine (kind_any _ _).mono ?_; rintro e w' ⟨rfl, rfl⟩) | (go_at_call 130; refine (abs_any _ _).mono ?_; rintro e w' ⟨rfl, rfl⟩))
          go_ret2
          exact ⟨ret_two (by rw [Ht.out, Hv.out, Hm.out]; rfl) (by rw [Ht.out]), rfl⟩
        · go_enter Try.func126, Try.ntmps126
          go_wp2_with (first | (go_at_call 129; refine (kind_any _ _).mono ?_; rintro e w' ⟨rfl, rfl⟩) | (go_at_call 130; refine (abs_any _ _).mono ?_; rintro e w' ⟨rfl, rfl⟩))
          go_ret2
          exact ⟨ret_two (by rw [Ht.out, Hv.out, Hm.out]; rfl) (by rw [Ht.out]), rfl⟩
      · have Hm : Hid ((min (-(E - 1023 - 52 + 32)) 63).toNat = 63) := Lib.hid (by omega)
        cases t
        · go_enter Try.func126, Try.ntmps126
          go_wp2_with (first | (go_at_call 129; refine (kind_any _ _).mono ?_; rintro e w' ⟨rfl, rfl⟩) | (go_at_call 130; refine (abs_any _ _).mono ?_; rintro e w' ⟨rfl, rfl⟩))
          go_ret2
          exact ⟨ret_two (by rw [Ht.out, Hv.out, Hm.out]; rfl) (by rw [Ht.out]), rfl⟩
        · go_enter Try.func126, Try.ntmps126
          go_wp2_with (first | (go_at_call 129; refine (kind_any _ _).mono ?_; rintro e w' ⟨rfl, rfl⟩) | (go_at_call 130; refine (abs_any _ _).mono ?_; rintro e w' ⟨rfl, rfl⟩))
          go_ret2
          exact ⟨ret_two (by rw [Ht.out, Hv.out, Hm.out]; rfl) (by rw [Ht.out]), rfl⟩
  · obtain rfl : E = 0 := by omega
    have Hv := Lib.hid (fVal_small (neg := t) (M := M))
    cases t
    · go_enter Try.func126, Try.ntmps126
      go_wp2_with (first | (go_at_call 129; refine (kind_any _ _).mono ?_; rintro e w' ⟨rfl, rfl⟩) | (go_at_call 130; refine (abs_any _ _).mono ?_; rintro e w' ⟨rfl, rfl⟩))
      go_ret2
      exact ⟨ret_two (by rw [Ht.out, Hv.out]; rfl) (by rw [Ht.out]), rfl⟩
    · go_enter Try.func126, Try.ntmps126
      go_wp2_with (first | (go_at_call 129; refine (kind_any _ _).mono ?_; rintro e w' ⟨rfl, rfl⟩) | (go_at_call 130; refine (abs_any _ _).mono ?_; rintro e w' ⟨rfl, rfl⟩))
      go_ret2
      exact ⟨ret_two (by rw [Ht.out, Hv.out]; rfl) (by rw [Ht.out]), rfl⟩

set_option maxHeartbeats 400000 in
theorem of_any (b : Nat) (w : World) (hb : b < 18446744073709551616) :
    Calls Try.prog 126 #[.float .f64 b] w fun e w' => e = .returned (.tuple #[.int .i64 (fOf b).1, .int .i64 (fOf b).2]) ∧ w = w' := by
  have k1 := call_bits b
  by_cases h0 : fKind b = 0
  · have Hf : Hid (fOf b = (0, 30)) := Lib.hid (by simp only [fOf]; rw [if_pos h0])
    have h1 : (fKind b == 0) = true := by simpa using h0
    clear h0
    go_enter Try.func126, Try.ntmps126
    go_wp2_with (first | (go_at_call 129; refine (kind_any _ _).mono ?_; rintro e w' ⟨rfl, rfl⟩) | (go_at_call 130; refine (abs_any _ _).mono ?_; rintro e w' ⟨rfl, rfl⟩))
    go_ret2
    exact ⟨ret_two (by rw [Hf.out]) (by rw [Hf.out]), rfl⟩
  have h1 : (fKind b == 0) = false := by simpa using h0
  by_cases h2 : fKind b ≤ 2
  · have Hf : Hid (fOf b = (0, 31)) := Lib.hid (by simp only [fOf]; rw [if_neg h0, if_pos h2])
    clear h0
    go_enter Try.func126, Try.ntmps126
    go_wp2_with (first | (go_at_call 129; refine (kind_any _ _).mono ?_; rintro e w' ⟨rfl, rfl⟩) | (go_at_call 130; refine (abs_any _ _).mono ?_; rintro e w' ⟨rfl, rfl⟩))
    go_ret2
    exact ⟨ret_two (by rw [Hf.out]) (by rw [Hf.out]), rfl⟩
  by_cases h4 : fKind b ≤ 4
  · have Hf : Hid (fOf b = (0, 0)) := Lib.hid (by simp only [fOf]; rw [if_neg h0, if_neg h2, if_pos h4])
    clear h0
    go_enter Try.func126, Try.ntmps126
    go_wp2_with (first | (go_at_call 129; refine (kind_any _ _).mono ?_; rintro e w' ⟨rfl, rfl⟩) | (go_at_call 130; refine (abs_any _ _).mono ?_; rintro e w' ⟨rfl, rfl⟩))
    go_ret2
    exact ⟨ret_two (by rw [Hf.out]) (by rw [Hf.out]), rfl⟩
  by_cases h5 : (FloatKind.f64.format.order (fAbs b) 4746794007248502784 == some Ordering.gt) = true
  · have Hf : Hid (fOf b = (0, 32)) := Lib.hid (by simp only [fOf]; rw [if_neg h0, if_neg h2, if_neg h4, if_pos (Or.inl h5)])
    clear h0
    go_enter Try.func126, Try.ntmps126
    go_wp2_with (first | (go_at_call 129; refine (kind_any _ _).mono ?_; rintro e w' ⟨rfl, rfl⟩) | (go_at_call 130; refine (abs_any _ _).mono ?_; rintro e w' ⟨rfl, rfl⟩))
    go_ret2
    exact ⟨ret_two (by rw [Hf.out]) (by rw [Hf.out]), rfl⟩
  by_cases h6 : (FloatKind.f64.format.order (fAbs b) 4746794007248502784 == some Ordering.eq) = true
  · have Hf : Hid (fOf b = (0, 32)) := Lib.hid (by simp only [fOf]; rw [if_neg h0, if_neg h2, if_neg h4, if_pos (Or.inr h6)])
    clear h0
    go_enter Try.func126, Try.ntmps126
    go_wp2_with (first | (go_at_call 129; refine (kind_any _ _).mono ?_; rintro e w' ⟨rfl, rfl⟩) | (go_at_call 130; refine (abs_any _ _).mono ?_; rintro e w' ⟨rfl, rfl⟩))
    go_ret2
    exact ⟨ret_two (by rw [Hf.out]) (by rw [Hf.out]), rfl⟩
  exact of_num b w hb h1 (by omega) (by omega) (by simpa using h5) (by simpa using h6)

set_option maxHeartbeats 800000 in
theorem within_any (b lo hi : Nat) (w : World) (hb : b < 18446744073709551616) (hl : lo < 18446744073709551616) (hh : hi < 18446744073709551616) :
    Calls Try.prog 109 #[.float .f64 b, .float .f64 lo, .float .f64 hi] w fun e w' => e = .returned (.tuple #[.int .i64 (fWithin b lo hi).1, .int .i64 (fWithin b lo hi).2]) ∧ Below w.heap.size w w' := by
  by_cases c1 : (fOf b).2 ≠ 0
  · have Hf : Hid (fWithin b lo hi = (0, (fOf b).2)) := Lib.hid (by simp only [fWithin]; rw [if_pos c1])
    have h1 : ((fOf b).2 != 0) = true := by simpa using c1
    clear c1
    go_enter Try.func109, Try.ntmps109
    go_wp2
    refine wp_loop_rounds 1 ?_
    rw [rounds_succ]
    go_wp2_with (go_at_call 126; refine (of_any _ _ (by assumption)).mono ?_; rintro e w' ⟨rfl, rfl⟩)
    go_ret2
    exact ⟨ret_two (by rw [Hf.out]) (by rw [Hf.out]), (Below.refl _ _).alloc (Nat.le_refl _) _⟩
  have h1 : ((fOf b).2 != 0) = false := by simpa using c1
  by_cases c2 : (fOf lo).2 ≠ 0
  · have Hf : Hid (fWithin b lo hi = (0, (fOf lo).2)) := Lib.hid (by simp only [fWithin]; rw [if_neg c1, if_pos c2])
    have h2 : ((fOf lo).2 != 0) = true := by simpa using c2
    clear c1 c2
    go_enter Try.func109, Try.ntmps109
    go_wp2
    refine wp_loop_rounds 2 ?_
    rw [rounds_succ]
    go_wp2_with (go_at_call 126; refine (of_any _ _ (by assumption)).mono ?_; rintro e w' ⟨rfl, rfl⟩)
    rw [rounds_succ]
    go_wp2_with (go_at_call 126; refine (of_any _ _ (by assumption)).mono ?_; rintro e w' ⟨rfl, rfl⟩)
    go_ret2
    exact ⟨ret_two (by rw [Hf.out]) (by rw [Hf.out]), (Below.refl _ _).alloc (Nat.le_refl _) _⟩
  have h2 : ((fOf lo).2 != 0) = false := by simpa using c2
  by_cases c3 : (fOf hi).2 ≠ 0
  · have Hf : Hid (fWithin b lo hi = (0, (fOf hi).2)) := Lib.hid (by simp only [fWithin]; rw [if_neg c1, if_neg c2, if_pos c3])
    have h3 : ((fOf hi).2 != 0) = true := by simpa using c3
    clear c1 c2 c3
    go_enter Try.func109, Try.ntmps109
    go_wp2
    refine wp_loop_rounds 3 ?_
    rw [rounds_succ]
    go_wp2_with (go_at_call 126; refine (of_any _ _ (by assumption)).mono ?_; rintro e w' ⟨rfl, rfl⟩)
    rw [rounds_succ]
    go_wp2_with (go_at_call 126; refine (of_any _ _ (by assumption)).mono ?_; rintro e w' ⟨rfl, rfl⟩)
    rw [rounds_succ]
    go_wp2_with (go_at_call 126; refine (of_any _ _ (by assumption)).mono ?_; rintro e w' ⟨rfl, rfl⟩)
    go_ret2
    exact ⟨ret_two (by rw [Hf.out]) (by rw [Hf.out]), (Below.refl _ _).alloc (Nat.le_refl _) _⟩
  have h3 : ((fOf hi).2 != 0) = false := by simpa using c3
  by_cases c4 : (FloatKind.f64.format.order b lo == some Ordering.lt) = true
  · have Hf : Hid (fWithin b lo hi = (0, 32)) := Lib.hid (by simp only [fWithin]; rw [if_neg c1, if_neg c2, if_neg c3, if_pos (Or.inl c4)])
    clear c1 c2 c3
    go_enter Try.func109, Try.ntmps109
    go_wp2
    refine wp_loop_rounds 4 ?_
    rw [rounds_succ]
    go_wp2_with (go_at_call 126; refine (of_any _ _ (by assumption)).mono ?_; rintro e w' ⟨rfl, rfl⟩)
    rw [rounds_succ]
    go_wp2_with (go_at_call 126; refine (of_any _ _ (by assumption)).mono ?_; rintro e w' ⟨rfl, rfl⟩)
    rw [rounds_succ]
    go_wp2_with (go_at_call 126; refine (of_any _ _ (by assumption)).mono ?_; rintro e w' ⟨rfl, rfl⟩)
    rw [rounds_succ]
    go_wp2_with (go_at_call 126; refine (of_any _ _ (by assumption)).mono ?_; rintro e w' ⟨rfl, rfl⟩)
    go_ret2
    exact ⟨ret_two (by rw [Hf.out]) (by rw [Hf.out]), (Below.refl _ _).alloc (Nat.le_refl _) _⟩
  have h4 : (FloatKind.f64.format.order b lo == some Ordering.lt) = false := by simpa using c4
  by_cases c5 : (FloatKind.f64.format.order hi b == some Ordering.lt) = true
  · have Hf : Hid (fWithin b lo hi = (0, 32)) := Lib.hid (by simp only [fWithin]; rw [if_neg c1, if_neg c2, if_neg c3, if_pos (Or.inr c5)])
    clear c1 c2 c3 c4
    go_enter Try.func109, Try.ntmps109
    go_wp2
    refine wp_loop_rounds 4 ?_
    rw [rounds_succ]
    go_wp2_with (go_at_call 126; refine (of_any _ _ (by assumption)).mono ?_; rintro e w' ⟨rfl, rfl⟩)
    rw [rounds_succ]
    go_wp2_with (go_at_call 126; refine (of_any _ _ (by assumption)).mono ?_; rintro e w' ⟨rfl, rfl⟩)
    rw [rounds_succ]
    go_wp2_with (go_at_call 126; refine (of_any _ _ (by assumption)).mono ?_; rintro e w' ⟨rfl, rfl⟩)
    rw [rounds_succ]
    go_wp2_with (go_at_call 126; refine (of_any _ _ (by assumption)).mono ?_; rintro e w' ⟨rfl, rfl⟩)
    go_ret2
    exact ⟨ret_two (by rw [Hf.out]) (by rw [Hf.out]), (Below.refl _ _).alloc (Nat.le_refl _) _⟩
  have h5 : (FloatKind.f64.format.order hi b == some Ordering.lt) = false := by simpa using c5
  have Hf : Hid (fWithin b lo hi = fOf b) := Lib.hid (by simp only [fWithin]; rw [if_neg c1, if_neg c2, if_neg c3, if_neg (by rw [h4, h5]; decide)])
  clear c1 c2 c3 c4 c5
  go_enter Try.func109, Try.ntmps109
  go_wp2
  refine wp_loop_rounds 4 ?_
  rw [rounds_succ]
  go_wp2_with (go_at_call 126; refine (of_any _ _ (by assumption)).mono ?_; rintro e w' ⟨rfl, rfl⟩)
  rw [rounds_succ]
  go_wp2_with (go_at_call 126; refine (of_any _ _ (by assumption)).mono ?_; rintro e w' ⟨rfl, rfl⟩)
  rw [rounds_succ]
  go_wp2_with (go_at_call 126; refine (of_any _ _ (by assumption)).mono ?_; rintro e w' ⟨rfl, rfl⟩)
  rw [rounds_succ]
  go_wp2_with (go_at_call 126; refine (of_any _ _ (by assumption)).mono ?_; rintro e w' ⟨rfl, rfl⟩)
  go_ret2
  exact ⟨ret_two (by rw [Hf.out]) (by rw [Hf.out]), (Below.refl _ _).alloc (Nat.le_refl _) _⟩
end Go.Proofs.Ytmgfnejiienghaa
/- The walks over package setup: its fields, the standard configuration, the faults of one, what is set. -/
namespace Go.Proofs.Ytmgfnejiienghaa
open Go.RowKit
set_option linter.unusedVariables false
set_option maxRecDepth 100000

/-- a region that draws: its first n operations read, or call quietly; what is left is in one order -/
theorem wp_region_tail {P : Program} {id : Nat} {Q : Exit → Act → World → Prop} {a : Act} {w : World} {l : List Oper} (n : Nat) (hm : P.follows .mixedOrders = true) (hB : Region.lexTailB .any l.toArray n = true)
    (h : wpStill P l.toArray w.drew (fun a' => wpList P l.toArray Q (l.drop n) a' w.drew) (l.take n) a) : (Code.region id l.toArray true).wp P Q a w :=
  wp_region_still_tail n hm hB h
theorem store_float (P : Program) (a : Addr) (k : FloatKind) (n : Nat) (m : Mode) (w : World) : (store a (.float k n) m).run P w = stored P w a (.float k n) m := run_store P w a _ m rfl
theorem Calls.regrown_of_same {P : Program} {f : FuncId} {args : Array Value} {w : World} {d : Nat} {os : Array Obj} {v : Value}
    (h : Calls P f args (Sort.grow (redrawn w d) os) fun e w' => e = .returned v ∧ w' = Sort.grow (redrawn w d) os) : Calls P f args (Sort.grow (redrawn w d) os) fun e w'' => e = .returned v ∧ ∃ p : Regrown, w'' = Sort.grow (redrawn w p.d) p.os :=
  h.mono fun _ _ ⟨he, hb⟩ => ⟨he, ⟨⟨d, os⟩, hb⟩⟩
theorem below_set {B : Nat} {w w' : World} (h : Below B w w') {a : Addr} (ha : a.block < B) (v : Value) : Below B (w.setCell a v) (w'.setCell a v) :=
  ⟨h.os, h.tape, h.output, by simpa [World.setCell] using h.size, fun k hk => by
    simp only [World.setCell, Array.getElem?_modify]
    rw [h.block k hk]⟩
theorem size_setCell (w : World) (a : Addr) (v : Value) : (w.setCell a v).heap.size = w.heap.size := by simp [World.setCell]

set_option maxHeartbeats 400000 in
theorem whole_any (n lo hi : Int) (w : World) :
    Calls Try.prog 110 #[.int .i64 n, .int .i64 lo, .int .i64 hi] w fun e w' => e = .returned (.tuple #[.int .i64 (sWhole n lo hi).1, .int .i64 (sWhole n lo hi).2]) ∧ w = w' := by
  by_cases h1 : n < lo
  · have Hf : Hid (sWhole n lo hi = (0, 100)) := Lib.hid (by simp only [sWhole]; rw [if_pos (Or.inl h1)])
    go_enter Try.func110, Try.ntmps110
    go_wp2
    go_ret2
    exact ⟨ret_two (by rw [Hf.out]) (by rw [Hf.out]), rfl⟩
  · by_cases h2 : n > hi
    · have Hf : Hid (sWhole n lo hi = (0, 100)) := Lib.hid (by simp only [sWhole]; rw [if_pos (Or.inr h2)])
      go_enter Try.func110, Try.ntmps110
      go_wp2
      go_ret2
      exact ⟨ret_two (by rw [Hf.out]) (by rw [Hf.out]), rfl⟩
    · have Hf : Hid (sWhole n lo hi = (n, 0)) := Lib.hid (by simp only [sWhole]; rw [if_neg (by omega)])
      go_enter Try.func110, Try.ntmps110
      go_wp2
      go_ret2
      exact ⟨ret_two (by rw [Hf.out]) (by rw [Hf.out]), rfl⟩

set_option maxHeartbeats 400000 in
theorem set_float (nm : ByteArray) (kat kto : Nat) (lo hi us : Nat) (b o i : Nat) (old : Value) (w : World) (hc : w.cell? ⟨b, o + i, none⟩ = some old) (hf : w.frozen? ⟨b, o + i, none⟩ = false) (hb : b < w.heap.size)
    (hk : ∀ w, (callFunc kat #[.pointer (some ⟨b, o, none⟩)]).run Try.prog w = .ok (.enter kat #[.pointer (some ⟨b, o, none⟩)]) w)
    (hat : ∀ w, Calls Try.prog kat #[.pointer (some ⟨b, o, none⟩)] w fun e w' => e = .returned (.pointer (some ⟨b, o + i, none⟩)) ∧ w' = w) :
    Calls Try.prog 154 #[.agg #[.string nm, .func (.func kat) #[] #[], .float .f64 lo, .float .f64 hi, .float .f64 us, .func (.func kto) #[] #[], .func (.func 109) #[] #[]], .pointer (some ⟨b, o, none⟩)] w
      fun e w' => e = .returned (.tuple #[]) ∧ Below w.heap.size (w.setCell ⟨b, o + i, none⟩ (.float .f64 us)) w' := by
  have Hat := Lib.hid hat
  clear hat
  have sf := store_float Try.prog
  go_enter Try.func154, Try.ntmps154
  go_wp2
  refine wp_region_tail 7 (by kernel_rfl) (by kernel_rfl) ?_
  simp only [List.take_succ_cons, List.take_zero, List.drop_succ_cons, List.drop_zero]
  repeat still_step
  refine wpStill_step (fun K hK => ?_)
  go_simp
  refine ⟨_, Hat.out _, hK _ ?_⟩
  clear hK K
  repeat still_step
  refine wpStill_nil ?_
  go_wp2
  go_end0
  exact ⟨rfl, ((Below.refl _ _).alloc (Nat.le_of_eq (size_setCell _ _ _).symm) _).drew⟩

set_option maxHeartbeats 800000 in
theorem check_float (nm : ByteArray) (kat kto : Nat) (lo hi us x : Nat) (b o i pb po : Nat) (old : Value) (w : World) (hfb : x < 18446744073709551616) (hlo : lo < 18446744073709551616) (hhi : hi < 18446744073709551616) (hc : w.cell? ⟨b, o + i, none⟩ = some (.float .f64 x)) (hb : b < w.heap.size)
    (hp : w.cell? ⟨pb, po + i, none⟩ = some old) (hf : w.frozen? ⟨pb, po + i, none⟩ = false) (hpb : pb < w.heap.size)
    (hk : ∀ w, (callFunc kat #[.pointer (some ⟨b, o, none⟩)]).run Try.prog w = .ok (.enter kat #[.pointer (some ⟨b, o, none⟩)]) w)
    (hat : ∀ w, Calls Try.prog kat #[.pointer (some ⟨b, o, none⟩)] w fun e w' => e = .returned (.pointer (some ⟨b, o + i, none⟩)) ∧ w' = w)
    (hk2 : ∀ w, (callFunc kto #[.pointer (some ⟨pb, po, none⟩)]).run Try.prog w = .ok (.enter kto #[.pointer (some ⟨pb, po, none⟩)]) w)
    (hat2 : ∀ w, Calls Try.prog kto #[.pointer (some ⟨pb, po, none⟩)] w fun e w' => e = .returned (.pointer (some ⟨pb, po + i, none⟩)) ∧ w' = w) :
    Calls Try.prog 153 #[.agg #[.string nm, .func (.func kat) #[] #[], .float .f64 lo, .float .f64 hi, .float .f64 us, .func (.func kto) #[] #[], .func (.func 109) #[] #[]], .pointer (some ⟨b, o, none⟩), .pointer (some ⟨pb, po, none⟩)] w
      fun e w' => e = .returned (.int .i64 (fWithin x lo hi).2) ∧ Below w.heap.size (w.setCell ⟨pb, po + i, none⟩ (.int .i64 (fWithin x lo hi).1)) w' := by
  have Hat := Lib.hid hat
  clear hat
  have Hat2 := Lib.hid hat2
  clear hat2
  go_enter Try.func153, Try.ntmps153
  go_wp2
  obtain ⟨W, HW, q6, q1, q2, q3, qx⟩ : ∃ W, Hid (w.alloc (.cells #[.string nm, .func (.func kat) #[] #[], .float .f64 lo, .float .f64 hi, .float .f64 us, .func (.func kto) #[] #[], .func (.func 109) #[] #[]] 146) = W) ∧
      (∀ d os, (Sort.grow (redrawn W d) os).cell? ⟨w.heap.size, 6, none⟩ = some (.func (.func 109) #[] #[])) ∧ (∀ d os, (Sort.grow (redrawn W d) os).cell? ⟨w.heap.size, 1, none⟩ = some (.func (.func kat) #[] #[])) ∧
      (∀ d os, (Sort.grow (redrawn W d) os).cell? ⟨w.heap.size, 2, none⟩ = some (.float .f64 lo)) ∧ (∀ d os, (Sort.grow (redrawn W d) os).cell? ⟨w.heap.size, 3, none⟩ = some (.float .f64 hi)) ∧ (∀ d os, (Sort.grow (redrawn W d) os).cell? ⟨b, o + i, none⟩ = some (.float .f64 x)) :=
    ⟨_, Lib.hid rfl, fun d os => cell_regrown (by simp) d os, fun d os => cell_regrown (by simp) d os, fun d os => cell_regrown (by simp) d os, fun d os => cell_regrown (by simp) d os, fun d os => cell_regrown (by rw [World.cell?_alloc_lt _ _ _ hb]; exact hc) d os⟩
  have q5 : W.cell? ⟨w.heap.size, 5, none⟩ = some (.func (.func kto) #[] #[]) := by rw [← HW.out]; simp
  have qp : W.cell? ⟨pb, po + i, none⟩ = some old := by rw [← HW.out, World.cell?_alloc_lt _ _ _ hpb]; exact hp
  have qf : W.frozen? ⟨pb, po + i, none⟩ = false := by rw [← HW.out, World.frozen?_alloc_old _ _ _ (Nat.ne_of_lt hpb)]; exact hf
  have qb : Below w.heap.size w W := by rw [← HW.out]; exact (Below.refl _ _).alloc (Nat.le_refl _) _
  have qs : w.heap.size < W.heap.size := by rw [← HW.out]; simp
  rw [HW.out]
  refine wp_region_quiet_below (by kernel_rfl) (by kernel_rfl) ?_
  repeat (quiet_step (first | (with_reducible refine Calls.regrown_of_same (Hat.out _)) | (with_reducible refine Calls.regrown_of (within_any _ _ _ _ hfb hlo hhi))))
  refine wpQuiet_nil ?_
  rintro _ ⟨p, rfl⟩
  have hb2 := below_regrown W p.d p.os
  generalize Sort.grow (redrawn W p.d) p.os = W2 at hb2 ⊢
  have r5 : W2.cell? ⟨w.heap.size, 5, none⟩ = some (.func (.func kto) #[] #[]) := by rw [hb2.cell qs]; exact q5
  have rp : W2.cell? ⟨pb, po + i, none⟩ = some old := by rw [hb2.cell (Nat.lt_trans hpb qs)]; exact qp
  have rf : W2.frozen? ⟨pb, po + i, none⟩ = false := by rw [hb2.frozen (Nat.lt_trans hpb qs)]; exact qf
  clear q6 q1 q2 q3 qx q5 qp qf HW hp hf hc
  go_wp2_with (with_reducible refine (Hat2.out _).mono ?_; rintro e w' ⟨rfl, rfl⟩)
  go_ret
  exact ⟨rfl, below_set (qb.trans (hb2.mono (Nat.le_of_lt qs))) hpb _⟩

set_option maxHeartbeats 400000 in
theorem set_int (nm : ByteArray) (kat kto : Nat) (lo hi us : Int) (b o i : Nat) (old : Value) (w : World) (hc : w.cell? ⟨b, o + i, none⟩ = some old) (hf : w.frozen? ⟨b, o + i, none⟩ = false) (hb : b < w.heap.size)
    (hk : ∀ w, (callFunc kat #[.pointer (some ⟨b, o, none⟩)]).run Try.prog w = .ok (.enter kat #[.pointer (some ⟨b, o, none⟩)]) w)
    (hat : ∀ w, Calls Try.prog kat #[.pointer (some ⟨b, o, none⟩)] w fun e w' => e = .returned (.pointer (some ⟨b, o + i, none⟩)) ∧ w' = w) :
    Calls Try.prog 157 #[.agg #[.string nm, .func (.func kat) #[] #[], .int .i64 lo, .int .i64 hi, .int .i64 us, .func (.func kto) #[] #[], .func (.func 110) #[] #[]], .pointer (some ⟨b, o, none⟩)] w
      fun e w' => e = .returned (.tuple #[]) ∧ Below w.heap.size (w.setCell ⟨b, o + i, none⟩ (.int .i64 us)) w' := by
  have Hat := Lib.hid hat
  clear hat
  go_enter Try.func157, Try.ntmps157
  go_wp2
  refine wp_region_tail 7 (by kernel_rfl) (by kernel_rfl) ?_
  simp only [List.take_succ_cons, List.take_zero, List.drop_succ_cons, List.drop_zero]
  repeat still_step
  refine wpStill_step (fun K hK => ?_)
  go_simp
  refine ⟨_, Hat.out _, hK _ ?_⟩
  clear hK K
  repeat still_step
  refine wpStill_nil ?_
  go_wp2
  go_end0
  exact ⟨rfl, ((Below.refl _ _).alloc (Nat.le_of_eq (size_setCell _ _ _).symm) _).drew⟩

set_option maxHeartbeats 800000 in
theorem check_int (nm : ByteArray) (kat kto : Nat) (lo hi us x : Int) (b o i pb po : Nat) (old : Value) (w : World) (hc : w.cell? ⟨b, o + i, none⟩ = some (.int .i64 x)) (hb : b < w.heap.size)
    (hp : w.cell? ⟨pb, po + i, none⟩ = some old) (hf : w.frozen? ⟨pb, po + i, none⟩ = false) (hpb : pb < w.heap.size)
    (hk : ∀ w, (callFunc kat #[.pointer (some ⟨b, o, none⟩)]).run Try.prog w = .ok (.enter kat #[.pointer (some ⟨b, o, none⟩)]) w)
    (hat : ∀ w, Calls Try.prog kat #[.pointer (some ⟨b, o, none⟩)] w fun e w' => e = .returned (.pointer (some ⟨b, o + i, none⟩)) ∧ w' = w)
    (hk2 : ∀ w, (callFunc kto #[.pointer (some ⟨pb, po, none⟩)]).run Try.prog w = .ok (.enter kto #[.pointer (some ⟨pb, po, none⟩)]) w)
    (hat2 : ∀ w, Calls Try.prog kto #[.pointer (some ⟨pb, po, none⟩)] w fun e w' => e = .returned (.pointer (some ⟨pb, po + i, none⟩)) ∧ w' = w) :
    Calls Try.prog 156 #[.agg #[.string nm, .func (.func kat) #[] #[], .int .i64 lo, .int .i64 hi, .int .i64 us, .func (.func kto) #[] #[], .func (.func 110) #[] #[]], .pointer (some ⟨b, o, none⟩), .pointer (some ⟨pb, po, none⟩)] w
      fun e w' => e = .returned (.int .i64 (sWhole x lo hi).2) ∧ Below w.heap.size (w.setCell ⟨pb, po + i, none⟩ (.int .i64 (sWhole x lo hi).1)) w' := by
  have Hat := Lib.hid hat
  clear hat
  have Hat2 := Lib.hid hat2
  clear hat2
  go_enter Try.func156, Try.ntmps156
  go_wp2
  obtain ⟨W, HW, q6, q1, q2, q3, qx⟩ : ∃ W, Hid (w.alloc (.cells #[.string nm, .func (.func kat) #[] #[], .int .i64 lo, .int .i64 hi, .int .i64 us, .func (.func kto) #[] #[], .func (.func 110) #[] #[]] 149) = W) ∧
      (∀ d os, (Sort.grow (redrawn W d) os).cell? ⟨w.heap.size, 6, none⟩ = some (.func (.func 110) #[] #[])) ∧ (∀ d os, (Sort.grow (redrawn W d) os).cell? ⟨w.heap.size, 1, none⟩ = some (.func (.func kat) #[] #[])) ∧
      (∀ d os, (Sort.grow (redrawn W d) os).cell? ⟨w.heap.size, 2, none⟩ = some (.int .i64 lo)) ∧ (∀ d os, (Sort.grow (redrawn W d) os).cell? ⟨w.heap.size, 3, none⟩ = some (.int .i64 hi)) ∧ (∀ d os, (Sort.grow (redrawn W d) os).cell? ⟨b, o + i, none⟩ = some (.int .i64 x)) :=
    ⟨_, Lib.hid rfl, fun d os => cell_regrown (by simp) d os, fun d os => cell_regrown (by simp) d os, fun d os => cell_regrown (by simp) d os, fun d os => cell_regrown (by simp) d os, fun d os => cell_regrown (by rw [World.cell?_alloc_lt _ _ _ hb]; exact hc) d os⟩
  have q5 : W.cell? ⟨w.heap.size, 5, none⟩ = some (.func (.func kto) #[] #[]) := by rw [← HW.out]; simp
  have qp : W.cell? ⟨pb, po + i, none⟩ = some old := by rw [← HW.out, World.cell?_alloc_lt _ _ _ hpb]; exact hp
  have qf : W.frozen? ⟨pb, po + i, none⟩ = false := by rw [← HW.out, World.frozen?_alloc_old _ _ _ (Nat.ne_of_lt hpb)]; exact hf
  have qb : Below w.heap.size w W := by rw [← HW.out]; exact (Below.refl _ _).alloc (Nat.le_refl _) _
  have qs : w.heap.size < W.heap.size := by rw [← HW.out]; simp
  rw [HW.out]
  refine wp_region_quiet_below (by kernel_rfl) (by kernel_rfl) ?_
  repeat (quiet_step (first | (with_reducible refine Calls.regrown_of_same (Hat.out _)) | (with_reducible refine Calls.regrown_of ((whole_any _ _ _ _).mono fun _ _ h => ⟨h.1, h.2 ▸ Below.refl _ _⟩))))
  refine wpQuiet_nil ?_
  rintro _ ⟨p, rfl⟩
  have hb2 := below_regrown W p.d p.os
  generalize Sort.grow (redrawn W p.d) p.os = W2 at hb2 ⊢
  have r5 : W2.cell? ⟨w.heap.size, 5, none⟩ = some (.func (.func kto) #[] #[]) := by rw [hb2.cell qs]; exact q5
  have rp : W2.cell? ⟨pb, po + i, none⟩ = some old := by rw [hb2.cell (Nat.lt_trans hpb qs)]; exact qp
  have rf : W2.frozen? ⟨pb, po + i, none⟩ = false := by rw [hb2.frozen (Nat.lt_trans hpb qs)]; exact qf
  clear q6 q1 q2 q3 qx q5 qp qf HW hp hf hc
  go_wp2_with (with_reducible refine (Hat2.out _).mono ?_; rintro e w' ⟨rfl, rfl⟩)
  go_ret
  exact ⟨rfl, below_set (qb.trans (hb2.mono (Nat.le_of_lt qs))) hpb _⟩

set_option maxHeartbeats 400000 in
theorem mk_float (nm : ByteArray) (lo hi us : Nat) (fa fb : Nat) (w : World) :
    Calls Try.prog 72 #[.string nm, .float .f64 lo, .float .f64 hi, .float .f64 us, .func (.func fa) #[] #[], .func (.func fb) #[] #[]] w fun e w' => e = .returned (.iface 146 (.agg #[.string nm, .func (.func fa) #[] #[], .float .f64 lo, .float .f64 hi, .float .f64 us, .func (.func fb) #[] #[], .func (.func 109) #[] #[]])) ∧ w' = w := by
  go_enter Try.func72, Try.ntmps72
  go_wp2
  go_ret
  exact ⟨rfl, rfl⟩

set_option maxHeartbeats 400000 in
theorem mk_count (nm : ByteArray) (lo hi us : Int) (fa fb : Nat) (w : World) :
    Calls Try.prog 87 #[.string nm, .int .i64 lo, .int .i64 hi, .int .i64 us, .func (.func fa) #[] #[], .func (.func fb) #[] #[]] w fun e w' => e = .returned (.iface 149 (.agg #[.string nm, .func (.func fa) #[] #[], .int .i64 lo, .int .i64 hi, .int .i64 us, .func (.func fb) #[] #[], .func (.func 110) #[] #[]])) ∧ w' = w := by
  go_enter Try.func87, Try.ntmps87
  go_wp2
  go_ret
  exact ⟨rfl, rfl⟩

def fa1 : Value := .agg #[.string ⟨#[115, 116, 101, 112]⟩, .func (.func 73) #[] #[], .float .f64 4562254508917369340, .float .f64 4621819117588971520, .float .f64 4593671619917905920, .func (.func 74) #[] #[], .func (.func 109) #[] #[]]
def fa2 : Value := .agg #[.string ⟨#[119, 97, 116, 99, 104]⟩, .func (.func 75) #[] #[], .float .f64 4607182418800017408, .float .f64 4660134898793709568, .float .f64 4643985272004935680, .func (.func 76) #[] #[], .func (.func 109) #[] #[]]
def fa3 : Value := .agg #[.string ⟨#[112, 97, 110, 105, 99]⟩, .func (.func 77) #[] #[], .float .f64 4607182418800017408, .float .f64 4681608360884174848, .float .f64 4652007308841189376, .func (.func 78) #[] #[], .func (.func 109) #[] #[]]
def fa4 : Value := .agg #[.string ⟨#[109, 97, 120, 114, 97, 116, 101]⟩, .func (.func 79) #[] #[], .float .f64 4517329193108106637, .float .f64 4591870180066957722, .float .f64 4557750909289998844, .func (.func 80) #[] #[], .func (.func 109) #[] #[]]
def fa5 : Value := .agg #[.string ⟨#[112, 104, 105]⟩, .func (.func 81) #[] #[], .float .f64 0, .float .f64 4576918229304087675, .float .f64 4534972062662729065, .func (.func 82) #[] #[], .func (.func 109) #[] #[]]
def fa6 : Value := .agg #[.string ⟨#[109, 97, 120, 100, 105, 115, 116]⟩, .func (.func 83) #[] #[], .float .f64 4576918229304087675, .float .f64 4625196817309499392, .float .f64 4609434218613702656, .func (.func 84) #[] #[], .func (.func 109) #[] #[]]
def fa7 : Value := .agg #[.string ⟨#[103, 97, 116, 101]⟩, .func (.func 85) #[] #[], .float .f64 4607182418800017408, .float .f64 4636737291354636288, .float .f64 4616189618054758400, .func (.func 86) #[] #[], .func (.func 109) #[] #[]]
def fa8 : Value := .agg #[.string ⟨#[109, 105, 110, 112, 111, 108, 108]⟩, .func (.func 88) #[] #[], .int .i64 4, .int .i64 17, .int .i64 6, .func (.func 89) #[] #[], .func (.func 110) #[] #[]]
def fa9 : Value := .agg #[.string ⟨#[109, 97, 120, 112, 111, 108, 108]⟩, .func (.func 90) #[] #[], .int .i64 4, .int .i64 17, .int .i64 10, .func (.func 91) #[] #[], .func (.func 110) #[] #[]]
def fa10 : Value := .agg #[.string ⟨#[98, 117, 114, 115, 116]⟩, .func (.func 92) #[] #[], .int .i64 0, .int .i64 8, .int .i64 0, .func (.func 93) #[] #[], .func (.func 110) #[] #[]]
def fa11 : Value := .agg #[.string ⟨#[109, 105, 110, 115, 97, 110, 101]⟩, .func (.func 94) #[] #[], .int .i64 1, .int .i64 10, .int .i64 1, .func (.func 95) #[] #[], .func (.func 110) #[] #[]]
def fa12 : Value := .agg #[.string ⟨#[109, 105, 110, 108, 101, 102, 116]⟩, .func (.func 96) #[] #[], .int .i64 1, .int .i64 10, .int .i64 3, .func (.func 97) #[] #[], .func (.func 110) #[] #[]]
def fvs : Array Value := #[.iface 146 fa1, .iface 146 fa2, .iface 146 fa3, .iface 146 fa4, .iface 146 fa5, .iface 146 fa6, .iface 146 fa7, .iface 149 fa8, .iface 149 fa9, .iface 149 fa10, .iface 149 fa11, .iface 149 fa12]

set_option maxHeartbeats 800000 in
theorem fields_any (w : World) : Calls Try.prog 45 #[] w fun e w' => e = .returned (.slice (some ⟨w.heap.size, 0, none⟩) 12 12) ∧ w' = w.alloc (.cells fvs 92) := by
  go_enter Try.func45, Try.ntmps45
  go_wp2_with (first | (with_reducible refine (mk_float _ _ _ _ _ _ _).mono ?_; rintro e w' ⟨rfl, rfl⟩) | (with_reducible refine (mk_count _ _ _ _ _ _ _).mono ?_; rintro e w' ⟨rfl, rfl⟩))
  go_ret
  exact ⟨rfl, rfl⟩
end Go.Proofs.Ytmgfnejiienghaa
/- The walk over setup.Standard. -/
namespace Go.Proofs.Ytmgfnejiienghaa
open Go.RowKit
set_option linter.unusedVariables false
set_option maxRecDepth 100000

def stc0 : Array Value := #[.float .f64 0, .float .f64 0, .float .f64 0, .float .f64 0, .float .f64 0, .float .f64 0, .float .f64 0, .int .i64 0, .int .i64 0, .int .i64 0, .int .i64 0, .int .i64 0]
def stc1 : Array Value := #[.float .f64 4593671619917905920, .float .f64 0, .float .f64 0, .float .f64 0, .float .f64 0, .float .f64 0, .float .f64 0, .int .i64 0, .int .i64 0, .int .i64 0, .int .i64 0, .int .i64 0]
def stc2 : Array Value := #[.float .f64 4593671619917905920, .float .f64 4643985272004935680, .float .f64 0, .float .f64 0, .float .f64 0, .float .f64 0, .float .f64 0, .int .i64 0, .int .i64 0, .int .i64 0, .int .i64 0, .int .i64 0]
def stc3 : Array Value := #[.float .f64 4593671619917905920, .float .f64 4643985272004935680, .float .f64 4652007308841189376, .float .f64 0, .float .f64 0, .float .f64 0, .float .f64 0, .int .i64 0, .int .i64 0, .int .i64 0, .int .i64 0, .int .i64 0]
def stc4 : Array Value := #[.float .f64 4593671619917905920, .float .f64 4643985272004935680, .float .f64 4652007308841189376, .float .f64 4557750909289998844, .float .f64 0, .float .f64 0, .float .f64 0, .int .i64 0, .int .i64 0, .int .i64 0, .int .i64 0, .int .i64 0]
def stc5 : Array Value := #[.float .f64 4593671619917905920, .float .f64 4643985272004935680, .float .f64 4652007308841189376, .float .f64 4557750909289998844, .float .f64 4534972062662729065, .float .f64 0, .float .f64 0, .int .i64 0, .int .i64 0, .int .i64 0, .int .i64 0, .int .i64 0]
def stc6 : Array Value := #[.float .f64 4593671619917905920, .float .f64 4643985272004935680, .float .f64 4652007308841189376, .float .f64 4557750909289998844, .float .f64 4534972062662729065, .float .f64 4609434218613702656, .float .f64 0, .int .i64 0, .int .i64 0, .int .i64 0, .int .i64 0, .int .i64 0]
def stc7 : Array Value := #[.float .f64 4593671619917905920, .float .f64 4643985272004935680, .float .f64 4652007308841189376, .float .f64 4557750909289998844, .float .f64 4534972062662729065, .float .f64 4609434218613702656, .float .f64 4616189618054758400, .int .i64 0, .int .i64 0, .int .i64 0, .int .i64 0, .int .i64 0]
def stc8 : Array Value := #[.float .f64 4593671619917905920, .float .f64 4643985272004935680, .float .f64 4652007308841189376, .float .f64 4557750909289998844, .float .f64 4534972062662729065, .float .f64 4609434218613702656, .float .f64 4616189618054758400, .int .i64 6, .int .i64 0, .int .i64 0, .int .i64 0, .int .i64 0]
def stc9 : Array Value := #[.float .f64 4593671619917905920, .float .f64 4643985272004935680, .float .f64 4652007308841189376, .float .f64 4557750909289998844, .float .f64 4534972062662729065, .float .f64 4609434218613702656, .float .f64 4616189618054758400, .int .i64 6, .int .i64 10, .int .i64 0, .int .i64 0, .int .i64 0]
def stc10 : Array Value := #[.float .f64 4593671619917905920, .float .f64 4643985272004935680, .float .f64 4652007308841189376, .float .f64 4557750909289998844, .float .f64 4534972062662729065, .float .f64 4609434218613702656, .float .f64 4616189618054758400, .int .i64 6, .int .i64 10, .int .i64 0, .int .i64 0, .int .i64 0]
def stc11 : Array Value := #[.float .f64 4593671619917905920, .float .f64 4643985272004935680, .float .f64 4652007308841189376, .float .f64 4557750909289998844, .float .f64 4534972062662729065, .float .f64 4609434218613702656, .float .f64 4616189618054758400, .int .i64 6, .int .i64 10, .int .i64 0, .int .i64 1, .int .i64 0]
def stc12 : Array Value := #[.float .f64 4593671619917905920, .float .f64 4643985272004935680, .float .f64 4652007308841189376, .float .f64 4557750909289998844, .float .f64 4534972062662729065, .float .f64 4609434218613702656, .float .f64 4616189618054758400, .int .i64 6, .int .i64 10, .int .i64 0, .int .i64 1, .int .i64 3]
def stc : Nat → Array Value
  | 0 => stc0
  | 1 => stc1
  | 2 => stc2
  | 3 => stc3
  | 4 => stc4
  | 5 => stc5
  | 6 => stc6
  | 7 => stc7
  | 8 => stc8
  | 9 => stc9
  | 10 => stc10
  | 11 => stc11
  | _ => stc12
/-- what the cells of a block tell -/
theorem cell_of_heap {w : World} {b o : Nat} {c : Array Value} {t : TypeId} {f : Nat × Nat} {v : Value} (h : w.heap[b]? = some (.cells c t f)) (hv : c[o]? = some v) : w.cell? ⟨b, o, none⟩ = some v := by simp [World.cell?, h, hv]
theorem free_of_heap {w : World} {b o : Nat} {c : Array Value} {t : TypeId} (h : w.heap[b]? = some (.cells c t (0, 0))) : w.frozen? ⟨b, o, none⟩ = false := by simp [World.frozen?, h]
theorem heap_setCell {w : World} {b o : Nat} {c : Array Value} {t : TypeId} {f : Nat × Nat} (h : w.heap[b]? = some (.cells c t f)) (v : Value) : (w.setCell ⟨b, o, none⟩ v).heap[b]? = some (.cells (c.setIfInBounds o v) t f) := by
  have hlt : b < w.heap.size := lt_of_block h
  have h' : w.heap[b] = .cells c t f := by simpa [Array.getElem?_eq_getElem hlt] using h
  show (w.heap.modify b _)[b]? = _
  rw [Array.getElem?_eq_getElem (by simpa using hlt), Array.getElem_modify_self, h']
  rfl
theorem heap_setCell_ne {w : World} {b b' o : Nat} {x : Option Obj} (h : w.heap[b]? = x) (hb : b ≠ b') (v : Value) : (w.setCell ⟨b', o, none⟩ v).heap[b]? = x := by
  rw [Below.heap_setCell _ _ _ _ hb]; exact h

set_option maxHeartbeats 400000 in
theorem at1_any (b : Nat) (w : World) : Calls Try.prog 73 #[.pointer (some ⟨b, 0, none⟩)] w fun e w' => e = .returned (.pointer (some ⟨b, 0, none⟩)) ∧ w' = w := by
  go_enter Try.func73, Try.ntmps73
  go_wp2
  go_ret
  exact ⟨rfl, rfl⟩
theorem at1_call (b : Nat) (w : World) : (callFunc 73 #[.pointer (some ⟨b, 0, none⟩)]).run Try.prog w = .ok (.enter 73 #[.pointer (some ⟨b, 0, none⟩)]) w := by kernel_rfl
set_option maxHeartbeats 400000 in
theorem to1_any (b : Nat) (w : World) : Calls Try.prog 74 #[.pointer (some ⟨b, 0, none⟩)] w fun e w' => e = .returned (.pointer (some ⟨b, 0, none⟩)) ∧ w' = w := by
  go_enter Try.func74, Try.ntmps74
  go_wp2
  go_ret
  exact ⟨rfl, rfl⟩
theorem to1_call (b : Nat) (w : World) : (callFunc 74 #[.pointer (some ⟨b, 0, none⟩)]).run Try.prog w = .ok (.enter 74 #[.pointer (some ⟨b, 0, none⟩)]) w := by kernel_rfl
theorem m_set1 (w : World) : (method 287 146 fa1 "analemma/setup.set").run Try.prog w = .ok (154, fa1) w := by kernel_rfl
theorem m_check1 (w : World) : (method 287 146 fa1 "analemma/setup.check").run Try.prog w = .ok (153, fa1) w := by kernel_rfl
theorem m_called1 (w : World) : (method 287 146 fa1 "analemma/setup.called").run Try.prog w = .ok (152, fa1) w := by kernel_rfl
theorem setf1 (b : Nat) (old : Value) (w : World) (hc : w.cell? ⟨b, 0, none⟩ = some old) (hf : w.frozen? ⟨b, 0, none⟩ = false) (hb : b < w.heap.size) :
    Calls Try.prog 154 #[fa1, .pointer (some ⟨b, 0, none⟩)] w fun e w' => e = .returned (.tuple #[]) ∧ Below w.heap.size (w.setCell ⟨b, 0, none⟩ (.float .f64 4593671619917905920)) w' := by
  have hc' : w.cell? ⟨b, 0 + 0, none⟩ = some old := hc
  have hf' : w.frozen? ⟨b, 0 + 0, none⟩ = false := hf
  exact set_float _ _ _ _ _ _ b 0 0 old w hc' hf' hb (at1_call b) (at1_any b)
set_option maxHeartbeats 400000 in
theorem at2_any (b : Nat) (w : World) : Calls Try.prog 75 #[.pointer (some ⟨b, 0, none⟩)] w fun e w' => e = .returned (.pointer (some ⟨b, 1, none⟩)) ∧ w' = w := by
  go_enter Try.func75, Try.ntmps75
  go_wp2
  go_ret
  exact ⟨rfl, rfl⟩
theorem at2_call (b : Nat) (w : World) : (callFunc 75 #[.pointer (some ⟨b, 0, none⟩)]).run Try.prog w = .ok (.enter 75 #[.pointer (some ⟨b, 0, none⟩)]) w := by kernel_rfl
set_option maxHeartbeats 400000 in
theorem to2_any (b : Nat) (w : World) : Calls Try.prog 76 #[.pointer (some ⟨b, 0, none⟩)] w fun e w' => e = .returned (.pointer (some ⟨b, 1, none⟩)) ∧ w' = w := by
  go_enter Try.func76, Try.ntmps76
  go_wp2
  go_ret
  exact ⟨rfl, rfl⟩
theorem to2_call (b : Nat) (w : World) : (callFunc 76 #[.pointer (some ⟨b, 0, none⟩)]).run Try.prog w = .ok (.enter 76 #[.pointer (some ⟨b, 0, none⟩)]) w := by kernel_rfl
theorem m_set2 (w : World) : (method 287 146 fa2 "analemma/setup.set").run Try.prog w = .ok (154, fa2) w := by kernel_rfl
theorem m_check2 (w : World) : (method 287 146 fa2 "analemma/setup.check").run Try.prog w = .ok (153, fa2) w := by kernel_rfl
theorem m_called2 (w : World) : (method 287 146 fa2 "analemma/setup.called").run Try.prog w = .ok (152, fa2) w := by kernel_rfl
theorem setf2 (b : Nat) (old : Value) (w : World) (hc : w.cell? ⟨b, 1, none⟩ = some old) (hf : w.frozen? ⟨b, 1, none⟩ = false) (hb : b < w.heap.size) :
    Calls Try.prog 154 #[fa2, .pointer (some ⟨b, 0, none⟩)] w fun e w' => e = .returned (.tuple #[]) ∧ Below w.heap.size (w.setCell ⟨b, 1, none⟩ (.float .f64 4643985272004935680)) w' := by
  have hc' : w.cell? ⟨b, 0 + 1, none⟩ = some old := hc
  have hf' : w.frozen? ⟨b, 0 + 1, none⟩ = false := hf
  exact set_float _ _ _ _ _ _ b 0 1 old w hc' hf' hb (at2_call b) (at2_any b)
set_option maxHeartbeats 400000 in
theorem at3_any (b : Nat) (w : World) : Calls Try.prog 77 #[.pointer (some ⟨b, 0, none⟩)] w fun e w' => e = .returned (.pointer (some ⟨b, 2, none⟩)) ∧ w' = w := by
  go_enter Try.func77, Try.ntmps77
  go_wp2
  go_ret
  exact ⟨rfl, rfl⟩
theorem at3_call (b : Nat) (w : World) : (callFunc 77 #[.pointer (some ⟨b, 0, none⟩)]).run Try.prog w = .ok (.enter 77 #[.pointer (some ⟨b, 0, none⟩)]) w := by kernel_rfl
set_option maxHeartbeats 400000 in
theorem to3_any (b : Nat) (w : World) : Calls Try.prog 78 #[.pointer (some ⟨b, 0, none⟩)] w fun e w' => e = .returned (.pointer (some ⟨b, 2, none⟩)) ∧ w' = w := by
  go_enter Try.func78, Try.ntmps78
  go_wp2
  go_ret
  exact ⟨rfl, rfl⟩
theorem to3_call (b : Nat) (w : World) : (callFunc 78 #[.pointer (some ⟨b, 0, none⟩)]).run Try.prog w = .ok (.enter 78 #[.pointer (some ⟨b, 0, none⟩)]) w := by kernel_rfl
theorem m_set3 (w : World) : (method 287 146 fa3 "analemma/setup.set").run Try.prog w = .ok (154, fa3) w := by kernel_rfl
theorem m_check3 (w : World) : (method 287 146 fa3 "analemma/setup.check").run Try.prog w = .ok (153, fa3) w := by kernel_rfl
theorem m_called3 (w : World) : (method 287 146 fa3 "analemma/setup.called").run Try.prog w = .ok (152, fa3) w := by kernel_rfl
theorem setf3 (b : Nat) (old : Value) (w : World) (hc : w.cell? ⟨b, 2, none⟩ = some old) (hf : w.frozen? ⟨b, 2, none⟩ = false) (hb : b < w.heap.size) :
    Calls Try.prog 154 #[fa3, .pointer (some ⟨b, 0, none⟩)] w fun e w' => e = .returned (.tuple #[]) ∧ Below w.heap.size (w.setCell ⟨b, 2, none⟩ (.float .f64 4652007308841189376)) w' := by
  have hc' : w.cell? ⟨b, 0 + 2, none⟩ = some old := hc
  have hf' : w.frozen? ⟨b, 0 + 2, none⟩ = false := hf
  exact set_float _ _ _ _ _ _ b 0 2 old w hc' hf' hb (at3_call b) (at3_any b)
set_option maxHeartbeats 400000 in
theorem at4_any (b : Nat) (w : World) : Calls Try.prog 79 #[.pointer (some ⟨b, 0, none⟩)] w fun e w' => e = .returned (.pointer (some ⟨b, 3, none⟩)) ∧ w' = w := by
  go_enter Try.func79, Try.ntmps79
  go_wp2
  go_ret
  exact ⟨rfl, rfl⟩
theorem at4_call (b : Nat) (w : World) : (callFunc 79 #[.pointer (some ⟨b, 0, none⟩)]).run Try.prog w = .ok (.enter 79 #[.pointer (some ⟨b, 0, none⟩)]) w := by kernel_rfl
set_option maxHeartbeats 400000 in
theorem to4_any (b : Nat) (w : World) : Calls Try.prog 80 #[.pointer (some ⟨b, 0, none⟩)] w fun e w' => e = .returned (.pointer (some ⟨b, 3, none⟩)) ∧ w' = w := by
  go_enter Try.func80, Try.ntmps80
  go_wp2
  go_ret
  exact ⟨rfl, rfl⟩
theorem to4_call (b : Nat) (w : World) : (callFunc 80 #[.pointer (some ⟨b, 0, none⟩)]).run Try.prog w = .ok (.enter 80 #[.pointer (some ⟨b, 0, none⟩)]) w := by kernel_rfl
theorem m_set4 (w : World) : (method 287 146 fa4 "analemma/setup.set").run Try.prog w = .ok (154, fa4) w := by kernel_rfl
theorem m_check4 (w : World) : (method 287 146 fa4 "analemma/setup.check").run Try.prog w = .ok (153, fa4) w := by kernel_rfl
theorem m_called4 (w : World) : (method 287 146 fa4 "analemma/setup.called").run Try.prog w = .ok (152, fa4) w := by kernel_rfl
theorem setf4 (b : Nat) (old : Value) (w : World) (hc : w.cell? ⟨b, 3, none⟩ = some old) (hf : w.frozen? ⟨b, 3, none⟩ = false) (hb : b < w.heap.size) :
    Calls Try.prog 154 #[fa4, .pointer (some ⟨b, 0, none⟩)] w fun e w' => e = .returned (.tuple #[]) ∧ Below w.heap.size (w.setCell ⟨b, 3, none⟩ (.float .f64 4557750909289998844)) w' := by
  have hc' : w.cell? ⟨b, 0 + 3, none⟩ = some old := hc
  have hf' : w.frozen? ⟨b, 0 + 3, none⟩ = false := hf
  exact set_float _ _ _ _ _ _ b 0 3 old w hc' hf' hb (at4_call b) (at4_any b)
set_option maxHeartbeats 400000 in
theorem at5_any (b : Nat) (w : World) : Calls Try.prog 81 #[.pointer (some ⟨b, 0, none⟩)] w fun e w' => e = .returned (.pointer (some ⟨b, 4, none⟩)) ∧ w' = w := by
  go_enter Try.func81, Try.ntmps81
  go_wp2
  go_ret
  exact ⟨rfl, rfl⟩
theorem at5_call (b : Nat) (w : World) : (callFunc 81 #[.pointer (some ⟨b, 0, none⟩)]).run Try.prog w = .ok (.enter 81 #[.pointer (some ⟨b, 0, none⟩)]) w := by kernel_rfl
set_option maxHeartbeats 400000 in
theorem to5_any (b : Nat) (w : World) : Calls Try.prog 82 #[.pointer (some ⟨b, 0, none⟩)] w fun e w' => e = .returned (.pointer (some ⟨b, 4, none⟩)) ∧ w' = w := by
  go_enter Try.func82, Try.ntmps82
  go_wp2
  go_ret
  exact ⟨rfl, rfl⟩
theorem to5_call (b : Nat) (w : World) : (callFunc 82 #[.pointer (some ⟨b, 0, none⟩)]).run Try.prog w = .ok (.enter 82 #[.pointer (some ⟨b, 0, none⟩)]) w := by kernel_rfl
theorem m_set5 (w : World) : (method 287 146 fa5 "analemma/setup.set").run Try.prog w = .ok (154, fa5) w := by kernel_rfl
theorem m_check5 (w : World) : (method 287 146 fa5 "analemma/setup.check").run Try.prog w = .ok (153, fa5) w := by kernel_rfl
theorem m_called5 (w : World) : (method 287 146 fa5 "analemma/setup.called").run Try.prog w = .ok (152, fa5) w := by kernel_rfl
theorem setf5 (b : Nat) (old : Value) (w : World) (hc : w.cell? ⟨b, 4, none⟩ = some old) (hf : w.frozen? ⟨b, 4, none⟩ = false) (hb : b < w.heap.size) :
    Calls Try.prog 154 #[fa5, .pointer (some ⟨b, 0, none⟩)] w fun e w' => e = .returned (.tuple #[]) ∧ Below w.heap.size (w.setCell ⟨b, 4, none⟩ (.float .f64 4534972062662729065)) w' := by
  have hc' : w.cell? ⟨b, 0 + 4, none⟩ = some old := hc
  have hf' : w.frozen? ⟨b, 0 + 4, none⟩ = false := hf
  exact set_float _ _ _ _ _ _ b 0 4 old w hc' hf' hb (at5_call b) (at5_any b)
set_option maxHeartbeats 400000 in
theorem at6_any (b : Nat) (w : World) : Calls Try.prog 83 #[.pointer (some ⟨b, 0, none⟩)] w fun e w' => e = .returned (.pointer (some ⟨b, 5, none⟩)) ∧ w' = w := by
  go_enter Try.func83, Try.ntmps83
  go_wp2
  go_ret
  exact ⟨rfl, rfl⟩
theorem at6_call (b : Nat) (w : World) : (callFunc 83 #[.pointer (some ⟨b, 0, none⟩)]).run Try.prog w = .ok (.enter 83 #[.pointer (some ⟨b, 0, none⟩)]) w := by kernel_rfl
set_option maxHeartbeats 400000 in
theorem to6_any (b : Nat) (w : World) : Calls Try.prog 84 #[.pointer (some ⟨b, 0, none⟩)] w fun e w' => e = .returned (.pointer (some ⟨b, 5, none⟩)) ∧ w' = w := by
  go_enter Try.func84, Try.ntmps84
  go_wp2
  go_ret
  exact ⟨rfl, rfl⟩
theorem to6_call (b : Nat) (w : World) : (callFunc 84 #[.pointer (some ⟨b, 0, none⟩)]).run Try.prog w = .ok (.enter 84 #[.pointer (some ⟨b, 0, none⟩)]) w := by kernel_rfl
theorem m_set6 (w : World) : (method 287 146 fa6 "analemma/setup.set").run Try.prog w = .ok (154, fa6) w := by kernel_rfl
theorem m_check6 (w : World) : (method 287 146 fa6 "analemma/setup.check").run Try.prog w = .ok (153, fa6) w := by kernel_rfl
theorem m_called6 (w : World) : (method 287 146 fa6 "analemma/setup.called").run Try.prog w = .ok (152, fa6) w := by kernel_rfl
theorem setf6 (b : Nat) (old : Value) (w : World) (hc : w.cell? ⟨b, 5, none⟩ = some old) (hf : w.frozen? ⟨b, 5, none⟩ = false) (hb : b < w.heap.size) :
    Calls Try.prog 154 #[fa6, .pointer (some ⟨b, 0, none⟩)] w fun e w' => e = .returned (.tuple #[]) ∧ Below w.heap.size (w.setCell ⟨b, 5, none⟩ (.float .f64 4609434218613702656)) w' := by
  have hc' : w.cell? ⟨b, 0 + 5, none⟩ = some old := hc
  have hf' : w.frozen? ⟨b, 0 + 5, none⟩ = false := hf
  exact set_float _ _ _ _ _ _ b 0 5 old w hc' hf' hb (at6_call b) (at6_any b)
set_option maxHeartbeats 400000 in
theorem at7_any (b : Nat) (w : World) : Calls Try.prog 85 #[.pointer (some ⟨b, 0, none⟩)] w fun e w' => e = .returned (.pointer (some ⟨b, 6, none⟩)) ∧ w' = w := by
  go_enter Try.func85, Try.ntmps85
  go_wp2
  go_ret
  exact ⟨rfl, rfl⟩
theorem at7_call (b : Nat) (w : World) : (callFunc 85 #[.pointer (some ⟨b, 0, none⟩)]).run Try.prog w = .ok (.enter 85 #[.pointer (some ⟨b, 0, none⟩)]) w := by kernel_rfl
set_option maxHeartbeats 400000 in
theorem to7_any (b : Nat) (w : World) : Calls Try.prog 86 #[.pointer (some ⟨b, 0, none⟩)] w fun e w' => e = .returned (.pointer (some ⟨b, 6, none⟩)) ∧ w' = w := by
  go_enter Try.func86, Try.ntmps86
  go_wp2
  go_ret
  exact ⟨rfl, rfl⟩
theorem to7_call (b : Nat) (w : World) : (callFunc 86 #[.pointer (some ⟨b, 0, none⟩)]).run Try.prog w = .ok (.enter 86 #[.pointer (some ⟨b, 0, none⟩)]) w := by kernel_rfl
theorem m_set7 (w : World) : (method 287 146 fa7 "analemma/setup.set").run Try.prog w = .ok (154, fa7) w := by kernel_rfl
theorem m_check7 (w : World) : (method 287 146 fa7 "analemma/setup.check").run Try.prog w = .ok (153, fa7) w := by kernel_rfl
theorem m_called7 (w : World) : (method 287 146 fa7 "analemma/setup.called").run Try.prog w = .ok (152, fa7) w := by kernel_rfl
theorem setf7 (b : Nat) (old : Value) (w : World) (hc : w.cell? ⟨b, 6, none⟩ = some old) (hf : w.frozen? ⟨b, 6, none⟩ = false) (hb : b < w.heap.size) :
    Calls Try.prog 154 #[fa7, .pointer (some ⟨b, 0, none⟩)] w fun e w' => e = .returned (.tuple #[]) ∧ Below w.heap.size (w.setCell ⟨b, 6, none⟩ (.float .f64 4616189618054758400)) w' := by
  have hc' : w.cell? ⟨b, 0 + 6, none⟩ = some old := hc
  have hf' : w.frozen? ⟨b, 0 + 6, none⟩ = false := hf
  exact set_float _ _ _ _ _ _ b 0 6 old w hc' hf' hb (at7_call b) (at7_any b)
set_option maxHeartbeats 400000 in
theorem at8_any (b : Nat) (w : World) : Calls Try.prog 88 #[.pointer (some ⟨b, 0, none⟩)] w fun e w' => e = .returned (.pointer (some ⟨b, 7, none⟩)) ∧ w' = w := by
  go_enter Try.func88, Try.ntmps88
  go_wp2
  go_ret
  exact ⟨rfl, rfl⟩
theorem at8_call (b : Nat) (w : World) : (callFunc 88 #[.pointer (some ⟨b, 0, none⟩)]).run Try.prog w = .ok (.enter 88 #[.pointer (some ⟨b, 0, none⟩)]) w := by kernel_rfl
set_option maxHeartbeats 400000 in
theorem to8_any (b : Nat) (w : World) : Calls Try.prog 89 #[.pointer (some ⟨b, 0, none⟩)] w fun e w' => e = .returned (.pointer (some ⟨b, 7, none⟩)) ∧ w' = w := by
  go_enter Try.func89, Try.ntmps89
  go_wp2
  go_ret
  exact ⟨rfl, rfl⟩
theorem to8_call (b : Nat) (w : World) : (callFunc 89 #[.pointer (some ⟨b, 0, none⟩)]).run Try.prog w = .ok (.enter 89 #[.pointer (some ⟨b, 0, none⟩)]) w := by kernel_rfl
theorem m_set8 (w : World) : (method 287 149 fa8 "analemma/setup.set").run Try.prog w = .ok (157, fa8) w := by kernel_rfl
theorem m_check8 (w : World) : (method 287 149 fa8 "analemma/setup.check").run Try.prog w = .ok (156, fa8) w := by kernel_rfl
theorem m_called8 (w : World) : (method 287 149 fa8 "analemma/setup.called").run Try.prog w = .ok (155, fa8) w := by kernel_rfl
theorem setf8 (b : Nat) (old : Value) (w : World) (hc : w.cell? ⟨b, 7, none⟩ = some old) (hf : w.frozen? ⟨b, 7, none⟩ = false) (hb : b < w.heap.size) :
    Calls Try.prog 157 #[fa8, .pointer (some ⟨b, 0, none⟩)] w fun e w' => e = .returned (.tuple #[]) ∧ Below w.heap.size (w.setCell ⟨b, 7, none⟩ (.int .i64 6)) w' := by
  have hc' : w.cell? ⟨b, 0 + 7, none⟩ = some old := hc
  have hf' : w.frozen? ⟨b, 0 + 7, none⟩ = false := hf
  exact set_int _ _ _ _ _ _ b 0 7 old w hc' hf' hb (at8_call b) (at8_any b)
set_option maxHeartbeats 400000 in
theorem at9_any (b : Nat) (w : World) : Calls Try.prog 90 #[.pointer (some ⟨b, 0, none⟩)] w fun e w' => e = .returned (.pointer (some ⟨b, 8, none⟩)) ∧ w' = w := by
  go_enter Try.func90, Try.ntmps90
  go_wp2
  go_ret
  exact ⟨rfl, rfl⟩
theorem at9_call (b : Nat) (w : World) : (callFunc 90 #[.pointer (some ⟨b, 0, none⟩)]).run Try.prog w = .ok (.enter 90 #[.pointer (some ⟨b, 0, none⟩)]) w := by kernel_rfl
set_option maxHeartbeats 400000 in
theorem to9_any (b : Nat) (w : World) : Calls Try.prog 91 #[.pointer (some ⟨b, 0, none⟩)] w fun e w' => e = .returned (.pointer (some ⟨b, 8, none⟩)) ∧ w' = w := by
  go_enter Try.func91, Try.ntmps91
  go_wp2
  go_ret
  exact ⟨rfl, rfl⟩
theorem to9_call (b : Nat) (w : World) : (callFunc 91 #[.pointer (some ⟨b, 0, none⟩)]).run Try.prog w = .ok (.enter 91 #[.pointer (some ⟨b, 0, none⟩)]) w := by kernel_rfl
theorem m_set9 (w : World) : (method 287 149 fa9 "analemma/setup.set").run Try.prog w = .ok (157, fa9) w := by kernel_rfl
theorem m_check9 (w : World) : (method 287 149 fa9 "analemma/setup.check").run Try.prog w = .ok (156, fa9) w := by kernel_rfl
theorem m_called9 (w : World) : (method 287 149 fa9 "analemma/setup.called").run Try.prog w = .ok (155, fa9) w := by kernel_rfl
theorem setf9 (b : Nat) (old : Value) (w : World) (hc : w.cell? ⟨b, 8, none⟩ = some old) (hf : w.frozen? ⟨b, 8, none⟩ = false) (hb : b < w.heap.size) :
    Calls Try.prog 157 #[fa9, .pointer (some ⟨b, 0, none⟩)] w fun e w' => e = .returned (.tuple #[]) ∧ Below w.heap.size (w.setCell ⟨b, 8, none⟩ (.int .i64 10)) w' := by
  have hc' : w.cell? ⟨b, 0 + 8, none⟩ = some old := hc
  have hf' : w.frozen? ⟨b, 0 + 8, none⟩ = false := hf
  exact set_int _ _ _ _ _ _ b 0 8 old w hc' hf' hb (at9_call b) (at9_any b)
set_option maxHeartbeats 400000 in
theorem at10_any (b : Nat) (w : World) : Calls Try.prog 92 #[.pointer (some ⟨b, 0, none⟩)] w fun e w' => e = .returned (.pointer (some ⟨b, 9, none⟩)) ∧ w' = w := by
  go_enter Try.func92, Try.ntmps92
  go_wp2
  go_ret
  exact ⟨rfl, rfl⟩
theorem at10_call (b : Nat) (w : World) : (callFunc 92 #[.pointer (some ⟨b, 0, none⟩)]).run Try.prog w = .ok (.enter 92 #[.pointer (some ⟨b, 0, none⟩)]) w := by kernel_rfl
set_option maxHeartbeats 400000 in
theorem to10_any (b : Nat) (w : World) : Calls Try.prog 93 #[.pointer (some ⟨b, 0, none⟩)] w fun e w' => e = .returned (.pointer (some ⟨b, 9, none⟩)) ∧ w' = w := by
  go_enter Try.func93, Try.ntmps93
  go_wp2
  go_ret
  exact ⟨rfl, rfl⟩
theorem to10_call (b : Nat) (w : World) : (callFunc 93 #[.pointer (some ⟨b, 0, none⟩)]).run Try.prog w = .ok (.enter 93 #[.pointer (some ⟨b, 0, none⟩)]) w := by kernel_rfl
theorem m_set10 (w : World) : (method 287 149 fa10 "analemma/setup.set").run Try.prog w = .ok (157, fa10) w := by kernel_rfl
theorem m_check10 (w : World) : (method 287 149 fa10 "analemma/setup.check").run Try.prog w = .ok (156, fa10) w := by kernel_rfl
theorem m_called10 (w : World) : (method 287 149 fa10 "analemma/setup.called").run Try.prog w = .ok (155, fa10) w := by kernel_rfl
theorem setf10 (b : Nat) (old : Value) (w : World) (hc : w.cell? ⟨b, 9, none⟩ = some old) (hf : w.frozen? ⟨b, 9, none⟩ = false) (hb : b < w.heap.size) :
    Calls Try.prog 157 #[fa10, .pointer (some ⟨b, 0, none⟩)] w fun e w' => e = .returned (.tuple #[]) ∧ Below w.heap.size (w.setCell ⟨b, 9, none⟩ (.int .i64 0)) w' := by
  have hc' : w.cell? ⟨b, 0 + 9, none⟩ = some old := hc
  have hf' : w.frozen? ⟨b, 0 + 9, none⟩ = false := hf
  exact set_int _ _ _ _ _ _ b 0 9 old w hc' hf' hb (at10_call b) (at10_any b)
set_option maxHeartbeats 400000 in
theorem at11_any (b : Nat) (w : World) : Calls Try.prog 94 #[.pointer (some ⟨b, 0, none⟩)] w fun e w' => e = .returned (.pointer (some ⟨b, 10, none⟩)) ∧ w' = w := by
  go_enter Try.func94, Try.ntmps94
  go_wp2
  go_ret
  exact ⟨rfl, rfl⟩
theorem at11_call (b : Nat) (w : World) : (callFunc 94 #[.pointer (some ⟨b, 0, none⟩)]).run Try.prog w = .ok (.enter 94 #[.pointer (some ⟨b, 0, none⟩)]) w := by kernel_rfl
set_option maxHeartbeats 400000 in
theorem to11_any (b : Nat) (w : World) : Calls Try.prog 95 #[.pointer (some ⟨b, 0, none⟩)] w fun e w' => e = .returned (.pointer (some ⟨b, 10, none⟩)) ∧ w' = w := by
  go_enter Try.func95, Try.ntmps95
  go_wp2
  go_ret
  exact ⟨rfl, rfl⟩
theorem to11_call (b : Nat) (w : World) : (callFunc 95 #[.pointer (some ⟨b, 0, none⟩)]).run Try.prog w = .ok (.enter 95 #[.pointer (some ⟨b, 0, none⟩)]) w := by kernel_rfl
theorem m_set11 (w : World) : (method 287 149 fa11 "analemma/setup.set").run Try.prog w = .ok (157, fa11) w := by kernel_rfl
theorem m_check11 (w : World) : (method 287 149 fa11 "analemma/setup.check").run Try.prog w = .ok (156, fa11) w := by kernel_rfl
theorem m_called11 (w : World) : (method 287 149 fa11 "analemma/setup.called").run Try.prog w = .ok (155, fa11) w := by kernel_rfl
theorem setf11 (b : Nat) (old : Value) (w : World) (hc : w.cell? ⟨b, 10, none⟩ = some old) (hf : w.frozen? ⟨b, 10, none⟩ = false) (hb : b < w.heap.size) :
    Calls Try.prog 157 #[fa11, .pointer (some ⟨b, 0, none⟩)] w fun e w' => e = .returned (.tuple #[]) ∧ Below w.heap.size (w.setCell ⟨b, 10, none⟩ (.int .i64 1)) w' := by
  have hc' : w.cell? ⟨b, 0 + 10, none⟩ = some old := hc
  have hf' : w.frozen? ⟨b, 0 + 10, none⟩ = false := hf
  exact set_int _ _ _ _ _ _ b 0 10 old w hc' hf' hb (at11_call b) (at11_any b)
set_option maxHeartbeats 400000 in
theorem at12_any (b : Nat) (w : World) : Calls Try.prog 96 #[.pointer (some ⟨b, 0, none⟩)] w fun e w' => e = .returned (.pointer (some ⟨b, 11, none⟩)) ∧ w' = w := by
  go_enter Try.func96, Try.ntmps96
  go_wp2
  go_ret
  exact ⟨rfl, rfl⟩
theorem at12_call (b : Nat) (w : World) : (callFunc 96 #[.pointer (some ⟨b, 0, none⟩)]).run Try.prog w = .ok (.enter 96 #[.pointer (some ⟨b, 0, none⟩)]) w := by kernel_rfl
set_option maxHeartbeats 400000 in
theorem to12_any (b : Nat) (w : World) : Calls Try.prog 97 #[.pointer (some ⟨b, 0, none⟩)] w fun e w' => e = .returned (.pointer (some ⟨b, 11, none⟩)) ∧ w' = w := by
  go_enter Try.func97, Try.ntmps97
  go_wp2
  go_ret
  exact ⟨rfl, rfl⟩
theorem to12_call (b : Nat) (w : World) : (callFunc 97 #[.pointer (some ⟨b, 0, none⟩)]).run Try.prog w = .ok (.enter 97 #[.pointer (some ⟨b, 0, none⟩)]) w := by kernel_rfl
theorem m_set12 (w : World) : (method 287 149 fa12 "analemma/setup.set").run Try.prog w = .ok (157, fa12) w := by kernel_rfl
theorem m_check12 (w : World) : (method 287 149 fa12 "analemma/setup.check").run Try.prog w = .ok (156, fa12) w := by kernel_rfl
theorem m_called12 (w : World) : (method 287 149 fa12 "analemma/setup.called").run Try.prog w = .ok (155, fa12) w := by kernel_rfl
theorem setf12 (b : Nat) (old : Value) (w : World) (hc : w.cell? ⟨b, 11, none⟩ = some old) (hf : w.frozen? ⟨b, 11, none⟩ = false) (hb : b < w.heap.size) :
    Calls Try.prog 157 #[fa12, .pointer (some ⟨b, 0, none⟩)] w fun e w' => e = .returned (.tuple #[]) ∧ Below w.heap.size (w.setCell ⟨b, 11, none⟩ (.int .i64 3)) w' := by
  have hc' : w.cell? ⟨b, 0 + 11, none⟩ = some old := hc
  have hf' : w.frozen? ⟨b, 0 + 11, none⟩ = false := hf
  exact set_int _ _ _ _ _ _ b 0 11 old w hc' hf' hb (at12_call b) (at12_any b)

theorem heap_new3 (w : World) (a b c : Obj) : (((w.alloc a).alloc b).alloc c).heap[w.heap.size + 2]? = some c := by
  have h := heap_alloc_new ((w.alloc a).alloc b) c
  have e : ((w.alloc a).alloc b).heap.size = w.heap.size + 2 := by simp
  rwa [e] at h
theorem below_setRow {B : Nat} {a w : World} (h : Below B a w) {g : Nat} (hg : B ≤ g) (cs : Array Value) : Below B a (w.setRow g cs) :=
  h.trans ⟨rfl, rfl, rfl, by simp, fun k hk => by
    simp only [World.setRow, Array.getElem?_modify]
    rw [if_neg (by omega)]⟩
theorem std_round {w wr w' : World} {k : Nat} {v : Value} (h0 : wr.heap[w.heap.size]? = some (.cells stc0 24 (0, 0))) (h1 : wr.heap[w.heap.size + 1]? = some (.cells (stc k) 24 (0, 0)))
    (h2 : wr.heap[w.heap.size + 2]? = some (.cells fvs 92 (0, 0))) (hz : w.heap.size + 2 < wr.heap.size) (hb : Below w.heap.size w wr) (hb1 : Below wr.heap.size (wr.setCell ⟨w.heap.size + 1, k, none⟩ v) w') (hs : (stc k).setIfInBounds k v = stc (k + 1)) :
    w'.heap[w.heap.size]? = some (.cells stc0 24 (0, 0)) ∧ w'.heap[w.heap.size + 1]? = some (.cells (stc (k + 1)) 24 (0, 0)) ∧ w'.heap[w.heap.size + 2]? = some (.cells fvs 92 (0, 0)) ∧ w.heap.size + 2 < w'.heap.size ∧ Below w.heap.size w w' := by
  have hsz := hb1.size
  rw [size_setCell] at hsz
  refine ⟨?_, ?_, ?_, by omega, (hb.setCell (p := ⟨w.heap.size + 1, k, none⟩) (by simp) v).trans (hb1.mono hb.size)⟩
  · rw [hb1.block _ (by omega)]; exact heap_setCell_ne h0 (by omega) v
  · rw [hb1.block _ (by omega), ← hs]; exact heap_setCell h1 v
  · rw [hb1.block _ (by omega)]; exact heap_setCell_ne h2 (by omega) v

set_option maxHeartbeats 4000000 in
theorem standard_any (w : World) : Calls Try.prog 26 #[] w fun e w' => e = .returned (.agg stc12) ∧ Below w.heap.size w w' := by
  go_enter Try.func26, Try.ntmps26
  go_wp2_with (with_reducible refine (fields_any _).mono ?_; rintro e w' ⟨rfl, rfl⟩)
  go_loopw [3, 6] (fun x i wr => ∃ k : Nat, k ≤ 12 ∧ i = .int .i64 k ∧ wr.heap[w.heap.size]? = some (.cells stc0 24 (0, 0)) ∧ wr.heap[w.heap.size + 1]? = some (.cells (stc k) 24 (0, 0)) ∧
      wr.heap[w.heap.size + 2]? = some (.cells fvs 92 (0, 0)) ∧ w.heap.size + 2 < wr.heap.size ∧ Below w.heap.size w wr) (fun _ i _ => 12 - (intOf i).toNat)
  case atStart =>
    refine ⟨0, by omega, rfl, ?_, ?_, ?_, by simp, (((Below.refl _ _).alloc (Nat.le_refl _) _).alloc (by simp) _).alloc (by simp; omega) _⟩
    · rw [Below.heap_alloc _ _ _ (by simp; omega), Below.heap_alloc _ _ _ (by simp)]; exact heap_alloc_new _ _
    · rw [Below.heap_alloc _ _ _ (by simp)]; exact heap_alloc2_new _ _ _
    · exact heap_new3 _ _ _ _
  case round =>
    obtain ⟨k, hk, rfl, h0, h1, h2, hz, hb⟩ := hrel
    by_cases e0 : k = 0
    · subst e0
      have c2 := cell_of_heap (o := 0) (v := .iface 146 fa1) h2 rfl
      have C1 := Lib.hid h1
      have C0 := Lib.hid h0
      have C2 := Lib.hid h2
      clear h0 h1 h2
      have hm := m_set1
      go_wp2_with fail
      refine (setf1 _ (.float .f64 0) _ (cell_of_heap C1.out rfl) (free_of_heap C1.out) (by omega)).mono ?_
      rintro e w' ⟨rfl, hb1⟩
      go_wp2_with fail
      exact ⟨⟨1, by omega, rfl, std_round C0.out C1.out C2.out hz hb hb1 rfl⟩, by simp [intOf]⟩
    by_cases e1 : k = 1
    · subst e1
      have c2 := cell_of_heap (o := 1) (v := .iface 146 fa2) h2 rfl
      have C1 := Lib.hid h1
      have C0 := Lib.hid h0
      have C2 := Lib.hid h2
      clear h0 h1 h2
      have hm := m_set2
      go_wp2_with fail
      refine (setf2 _ (.float .f64 0) _ (cell_of_heap C1.out rfl) (free_of_heap C1.out) (by omega)).mono ?_
      rintro e w' ⟨rfl, hb1⟩
      go_wp2_with fail
      exact ⟨⟨2, by omega, rfl, std_round C0.out C1.out C2.out hz hb hb1 rfl⟩, by simp [intOf]⟩
    by_cases e2 : k = 2
    · subst e2
      have c2 := cell_of_heap (o := 2) (v := .iface 146 fa3) h2 rfl
      have C1 := Lib.hid h1
      have C0 := Lib.hid h0
      have C2 := Lib.hid h2
      clear h0 h1 h2
      have hm := m_set3
      go_wp2_with fail
      refine (setf3 _ (.float .f64 0) _ (cell_of_heap C1.out rfl) (free_of_heap C1.out) (by omega)).mono ?_
      rintro e w' ⟨rfl, hb1⟩
      go_wp2_with fail
      exact ⟨⟨3, by omega, rfl, std_round C0.out C1.out C2.out hz hb hb1 rfl⟩, by simp [intOf]⟩
    by_cases e3 : k = 3
    · subst e3
      have c2 := cell_of_heap (o := 3) (v := .iface 146 fa4) h2 rfl
      have C1 := Lib.hid h1
      have C0 := Lib.hid h0
      have C2 := Lib.hid h2
      clear h0 h1 h2
      have hm := m_set4
      go_wp2_with fail
      refine (setf4 _ (.float .f64 0) _ (cell_of_heap C1.out rfl) (free_of_heap C1.out) (by omega)).mono ?_
      rintro e w' ⟨rfl, hb1⟩
      go_wp2_with fail
      exact ⟨⟨4, by omega, rfl, std_round C0.out C1.out C2.out hz hb hb1 rfl⟩, by simp [intOf]⟩
    by_cases e4 : k = 4
    · subst e4
      have c2 := cell_of_heap (o := 4) (v := .iface 146 fa5) h2 rfl
      have C1 := Lib.hid h1
      have C0 := Lib.hid h0
      have C2 := Lib.hid h2
      clear h0 h1 h2
      have hm := m_set5
      go_wp2_with fail
      refine (setf5 _ (.float .f64 0) _ (cell_of_heap C1.out rfl) (free_of_heap C1.out) (by omega)).mono ?_
      rintro e w' ⟨rfl, hb1⟩
      go_wp2_with fail
      exact ⟨⟨5, by omega, rfl, std_round C0.out C1.out C2.out hz hb hb1 rfl⟩, by simp [intOf]⟩
    by_cases e5 : k = 5
    · subst e5
      have c2 := cell_of_heap (o := 5) (v := .iface 146 fa6) h2 rfl
      have C1 := Lib.hid h1
      have C0 := Lib.hid h0
      have C2 := Lib.hid h2
      clear h0 h1 h2
      have hm := m_set6
      go_wp2_with fail
      refine (setf6 _ (.float .f64 0) _ (cell_of_heap C1.out rfl) (free_of_heap C1.out) (by omega)).mono ?_
      rintro e w' ⟨rfl, hb1⟩
      go_wp2_with fail
      exact ⟨⟨6, by omega, rfl, std_round C0.out C1.out C2.out hz hb hb1 rfl⟩, by simp [intOf]⟩
    by_cases e6 : k = 6
    · subst e6
      have c2 := cell_of_heap (o := 6) (v := .iface 146 fa7) h2 rfl
      have C1 := Lib.hid h1
      have C0 := Lib.hid h0
      have C2 := Lib.hid h2
      clear h0 h1 h2
      have hm := m_set7
      go_wp2_with fail
      refine (setf7 _ (.float .f64 0) _ (cell_of_heap C1.out rfl) (free_of_heap C1.out) (by omega)).mono ?_
      rintro e w' ⟨rfl, hb1⟩
      go_wp2_with fail
      exact ⟨⟨7, by omega, rfl, std_round C0.out C1.out C2.out hz hb hb1 rfl⟩, by simp [intOf]⟩
    by_cases e7 : k = 7
    · subst e7
      have c2 := cell_of_heap (o := 7) (v := .iface 149 fa8) h2 rfl
      have C1 := Lib.hid h1
      have C0 := Lib.hid h0
      have C2 := Lib.hid h2
      clear h0 h1 h2
      have hm := m_set8
      go_wp2_with fail
      refine (setf8 _ (.int .i64 0) _ (cell_of_heap C1.out rfl) (free_of_heap C1.out) (by omega)).mono ?_
      rintro e w' ⟨rfl, hb1⟩
      go_wp2_with fail
      exact ⟨⟨8, by omega, rfl, std_round C0.out C1.out C2.out hz hb hb1 rfl⟩, by simp [intOf]⟩
    by_cases e8 : k = 8
    · subst e8
      have c2 := cell_of_heap (o := 8) (v := .iface 149 fa9) h2 rfl
      have C1 := Lib.hid h1
      have C0 := Lib.hid h0
      have C2 := Lib.hid h2
      clear h0 h1 h2
      have hm := m_set9
      go_wp2_with fail
      refine (setf9 _ (.int .i64 0) _ (cell_of_heap C1.out rfl) (free_of_heap C1.out) (by omega)).mono ?_
      rintro e w' ⟨rfl, hb1⟩
      go_wp2_with fail
      exact ⟨⟨9, by omega, rfl, std_round C0.out C1.out C2.out hz hb hb1 rfl⟩, by simp [intOf]⟩
    by_cases e9 : k = 9
    · subst e9
      have c2 := cell_of_heap (o := 9) (v := .iface 149 fa10) h2 rfl
      have C1 := Lib.hid h1
      have C0 := Lib.hid h0
      have C2 := Lib.hid h2
      clear h0 h1 h2
      have hm := m_set10
      go_wp2_with fail
      refine (setf10 _ (.int .i64 0) _ (cell_of_heap C1.out rfl) (free_of_heap C1.out) (by omega)).mono ?_
      rintro e w' ⟨rfl, hb1⟩
      go_wp2_with fail
      exact ⟨⟨10, by omega, rfl, std_round C0.out C1.out C2.out hz hb hb1 rfl⟩, by simp [intOf]⟩
    by_cases e10 : k = 10
    · subst e10
      have c2 := cell_of_heap (o := 10) (v := .iface 149 fa11) h2 rfl
      have C1 := Lib.hid h1
      have C0 := Lib.hid h0
      have C2 := Lib.hid h2
      clear h0 h1 h2
      have hm := m_set11
      go_wp2_with fail
      refine (setf11 _ (.int .i64 0) _ (cell_of_heap C1.out rfl) (free_of_heap C1.out) (by omega)).mono ?_
      rintro e w' ⟨rfl, hb1⟩
      go_wp2_with fail
      exact ⟨⟨11, by omega, rfl, std_round C0.out C1.out C2.out hz hb hb1 rfl⟩, by simp [intOf]⟩
    by_cases e11 : k = 11
    · subst e11
      have c2 := cell_of_heap (o := 11) (v := .iface 149 fa12) h2 rfl
      have C1 := Lib.hid h1
      have C0 := Lib.hid h0
      have C2 := Lib.hid h2
      clear h0 h1 h2
      have hm := m_set12
      go_wp2_with fail
      refine (setf12 _ (.int .i64 0) _ (cell_of_heap C1.out rfl) (free_of_heap C1.out) (by omega)).mono ?_
      rintro e w' ⟨rfl, hb1⟩
      go_wp2_with fail
      exact ⟨⟨12, by omega, rfl, std_round C0.out C1.out C2.out hz hb hb1 rfl⟩, by simp [intOf]⟩
    · obtain rfl : k = 12 := by omega
      go_wp2_with (first | (refine wpList_load_row rfl 24 _ rfl _ rfl _ _ _ _ h1 Try.underlying24 rfl (by kernel_rfl) ?_) | (refine wpList_store_row rfl 24 _ _ rfl _ stc12 rfl rfl _ _ h0 (by kernel_rfl) rfl (by kernel_rfl) ?_))
      exact bodyPost_ret (v := .agg stc12) (results_cell_row rfl _ _ w.heap.size _ _ _ _ rfl (setRow_heap _ _ _ _ _ _ h0) Try.underlying24 rfl (by kernel_rfl)) rfl ⟨rfl, below_setRow hb (Nat.le_refl _) _⟩
end Go.Proofs.Ytmgfnejiienghaa
/- Plain definitions for package setup: a configuration, what each field tells, the faults, what is set. -/
namespace Go.Proofs.Ytmgfnejiienghaa
open Go.RowKit

/-- a configuration: floats by their bits -/
structure Cfg where
  step : Nat
  watch : Nat
  panic : Nat
  maxRate : Nat
  phi : Nat
  maxDist : Nat
  gate : Nat
  minPoll : Int
  maxPoll : Int
  burst : Int
  minSane : Int
  minLeft : Int
structure Cfg.ok (c : Cfg) : Prop where
  step : c.step < 18446744073709551616
  watch : c.watch < 18446744073709551616
  panic : c.panic < 18446744073709551616
  maxRate : c.maxRate < 18446744073709551616
  phi : c.phi < 18446744073709551616
  maxDist : c.maxDist < 18446744073709551616
  gate : c.gate < 18446744073709551616
/-- the value of a configuration -/
def Cfg.cells (c : Cfg) : Array Value := #[.float .f64 c.step, .float .f64 c.watch, .float .f64 c.panic, .float .f64 c.maxRate, .float .f64 c.phi, .float .f64 c.maxDist, .float .f64 c.gate, .int .i64 c.minPoll, .int .i64 c.maxPoll, .int .i64 c.burst, .int .i64 c.minSane, .int .i64 c.minLeft]
/-- what a field tells by itself: what is set, and the error -/
def Cfg.fld (c : Cfg) : Nat → Int × Int
  | 0 => fWithin c.step 4562254508917369340 4621819117588971520
  | 1 => fWithin c.watch 4607182418800017408 4660134898793709568
  | 2 => fWithin c.panic 4607182418800017408 4681608360884174848
  | 3 => fWithin c.maxRate 4517329193108106637 4591870180066957722
  | 4 => fWithin c.phi 0 4576918229304087675
  | 5 => fWithin c.maxDist 4576918229304087675 4625196817309499392
  | 6 => fWithin c.gate 4607182418800017408 4636737291354636288
  | 7 => sWhole c.minPoll 4 17
  | 8 => sWhole c.maxPoll 4 17
  | 9 => sWhole c.burst 0 8
  | 10 => sWhole c.minSane 1 10
  | 11 => sWhole c.minLeft 1 10
  | _ => (0, 0)
/-- the cells of what is set, and of the errors, behind k fields -/
def Cfg.pcs (c : Cfg) (k : Nat) : Array Value := #[.int .i64 (if 0 < k then (c.fld 0).1 else 0), .int .i64 (if 1 < k then (c.fld 1).1 else 0), .int .i64 (if 2 < k then (c.fld 2).1 else 0), .int .i64 (if 3 < k then (c.fld 3).1 else 0), .int .i64 (if 4 < k then (c.fld 4).1 else 0), .int .i64 (if 5 < k then (c.fld 5).1 else 0), .int .i64 (if 6 < k then (c.fld 6).1 else 0), .int .i64 (if 7 < k then (c.fld 7).1 else 0), .int .i64 (if 8 < k then (c.fld 8).1 else 0), .int .i64 (if 9 < k then (c.fld 9).1 else 0), .int .i64 (if 10 < k then (c.fld 10).1 else 0), .int .i64 (if 11 < k then (c.fld 11).1 else 0)]
def Cfg.ecs (c : Cfg) (k : Nat) : Array Value := #[.int .i64 0, .int .i64 (if 0 < k then (c.fld 0).2 else 0), .int .i64 (if 1 < k then (c.fld 1).2 else 0), .int .i64 (if 2 < k then (c.fld 2).2 else 0), .int .i64 (if 3 < k then (c.fld 3).2 else 0), .int .i64 (if 4 < k then (c.fld 4).2 else 0), .int .i64 (if 5 < k then (c.fld 5).2 else 0), .int .i64 (if 6 < k then (c.fld 6).2 else 0), .int .i64 (if 7 < k then (c.fld 7).2 else 0), .int .i64 (if 8 < k then (c.fld 8).2 else 0), .int .i64 (if 9 < k then (c.fld 9).2 else 0), .int .i64 (if 10 < k then (c.fld 10).2 else 0), .int .i64 (if 11 < k then (c.fld 11).2 else 0)]
/-- a float is not above another one -/
def fLe (a b : Nat) : Bool := FloatKind.f64.format.order a b == some Ordering.lt || FloatKind.f64.format.order a b == some Ordering.eq
def Cfg.e3 (c : Cfg) : Int := if ((c.fld 0).2 == 0 && (c.fld 2).2 == 0 && fLe c.panic c.step) = true then 100 else (c.fld 2).2
def Cfg.e9 (c : Cfg) : Int := if ((c.fld 7).2 == 0 && (c.fld 8).2 == 0 && decide (c.maxPoll < c.minPoll)) = true then 100 else (c.fld 8).2
/-- the errors, by the fields' numbers -/
def Cfg.err (c : Cfg) : Nat → Int
  | 1 => (c.fld 0).2
  | 2 => (c.fld 1).2
  | 3 => c.e3
  | 4 => (c.fld 3).2
  | 5 => (c.fld 4).2
  | 6 => (c.fld 5).2
  | 7 => (c.fld 6).2
  | 8 => (c.fld 7).2
  | 9 => c.e9
  | 10 => (c.fld 9).2
  | 11 => (c.fld 10).2
  | 12 => (c.fld 11).2
  | _ => 0
def Cfg.errs (c : Cfg) : Array Value := #[.int .i64 (c.err 0), .int .i64 (c.err 1), .int .i64 (c.err 2), .int .i64 (c.err 3), .int .i64 (c.err 4), .int .i64 (c.err 5), .int .i64 (c.err 6), .int .i64 (c.err 7), .int .i64 (c.err 8), .int .i64 (c.err 9), .int .i64 (c.err 10), .int .i64 (c.err 11), .int .i64 (c.err 12)]
def Cfg.set (c : Cfg) : Array Value := #[.int .i64 (c.fld 0).1, .int .i64 (c.fld 1).1, .int .i64 (c.fld 2).1, .int .i64 (c.fld 3).1, .int .i64 (c.fld 4).1, .int .i64 (c.fld 5).1, .int .i64 (c.fld 6).1, .int .i64 (c.fld 7).1, .int .i64 (c.fld 8).1, .int .i64 (c.fld 9).1, .int .i64 (c.fld 10).1, .int .i64 (c.fld 11).1]
end Go.Proofs.Ytmgfnejiienghaa
/- Steps of a region that draws its order: whole rows of cells loaded and stored. -/
namespace Go.Proofs.Ytmgfnejiienghaa
open Go.RowKit

theorem step_load_row {P : Program} {ops : Array Oper} {o : Oper} {a : Act} {w : World} {K : Act → World → Prop} {Q : Exit → Act → World → Prop} {E : Prop} (hgd : o.guard = none) (ty : TypeId) (x : Operand) (ho : o.op = .load ty x)
    (g : Nat) (hx : a.eval x = .pointer (some ⟨g, 0, none⟩)) (t : TypeId) (cs : Array Value) (fr : Nat × Nat) (d : TypeDesc) (hg : w.heap[g]? = some (.cells cs t fr))
    (hu : P.underlying ty = some d) (hd : (match d with | .struct _ | .array _ _ => true | _ => false) = true) (hi : (P.info? ty).map (·.size) = some cs.size)
    (h : K (a.put o.dst (.agg cs)) w) : if Region.wanted o (yielded ops a.tmps) = true then o.wp P a w K Q else E := by
  have hw : Region.wanted o (yielded ops a.tmps) = true := by simp [Region.wanted, hgd]
  rw [if_pos hw]
  exact wp_load_row ty x ho g hx t cs fr d hg hu hd hi h
theorem step_store_row {P : Program} {ops : Array Oper} {o : Oper} {a : Act} {w : World} {K : Act → World → Prop} {Q : Exit → Act → World → Prop} {E : Prop} (hgd : o.guard = none) (ty : TypeId) (x y : Operand) (ho : o.op = .store ty x y)
    (g : Nat) (cells : Array Value) (hx : a.eval x = .pointer (some ⟨g, 0, none⟩)) (hy : a.eval y = .agg cells)
    (t : TypeId) (old : Array Value) (hg : w.heap[g]? = some (.cells old t (0, 0))) (hi : (P.info? ty).map (·.size) = some cells.size)
    (hold : old.size = cells.size) (h1 : cells.all (·.oneCell') = true)
    (h : K (a.put o.dst undef) (w.setRow g cells)) : if Region.wanted o (yielded ops a.tmps) = true then o.wp P a w K Q else E := by
  have hw : Region.wanted o (yielded ops a.tmps) = true := by simp [Region.wanted, hgd]
  rw [if_pos hw]
  exact wp_store_row ty x y ho g cells hx hy t old hg hi hold h1 h
/-- two results, each a row of cells -/
theorem results_two_rows {P : Program} {fn : Func} {p q : Tmp} {ty tz : TypeId} (h : fn.results = #[.cell p ty, .cell q tz]) (tmps : Array Value) (w : World) (g g' : Nat) (t t' : TypeId) (cs cs' : Array Value) (fr fr' : Nat × Nat) (d d' : TypeDesc)
    (hp : tmps.getD p undef = .pointer (some ⟨g, 0, none⟩)) (hg : w.heap[g]? = some (.cells cs t fr)) (hu : P.underlying ty = some d) (hd : (match d with | .struct _ | .array _ _ => true | _ => false) = true) (hi : (P.info? ty).map (·.size) = some cs.size)
    (hq : tmps.getD q undef = .pointer (some ⟨g', 0, none⟩)) (hg' : w.heap[g']? = some (.cells cs' t' fr')) (hu' : P.underlying tz = some d') (hd' : (match d' with | .struct _ | .array _ _ => true | _ => false) = true) (hi' : (P.info? tz).map (·.size) = some cs'.size) :
    (results fn tmps).run P w = .ok (.tuple #[.agg cs, .agg cs']) w := by
  have hp' : tmps[p]?.getD undef = .pointer (some ⟨g, 0, none⟩) := by simpa using hp
  have hq' : tmps[q]?.getD undef = .pointer (some ⟨g', 0, none⟩) := by simpa using hq
  simp [results, h, hp', hq', asAddr, run_loadVar_row w g t ty cs fr d hg hu hd hi, run_loadVar_row w g' t' tz cs' fr' d' hg' hu' hd' hi']
end Go.Proofs.Ytmgfnejiienghaa
