/- The walks over package fix: size, cut, Abs. -/
import Derived.Test.YtmgfnejiienghaaM1
import Derived.Test.YtmgfnejiienghaaProg
import Derived.Test.YtmgfnejiienghaaM2
namespace Go.Proofs.Ytmgfnejiienghaa
open Go.RowKit Go.IntWalk
set_option linter.unusedVariables false
set_option maxRecDepth 100000

/-- a number's size -/
def fSize (a : Int) : Int := if a < 0 then -a else a
/-- a size cut, on one side of 0; r: some rest of it -/
def fCut (n r : Int) (s : Bool) : Int := if s then (if 0 < r ∧ n < 9223372036854775807 then -(n + 1) else -(min n 9223372036854775807)) else min n 9223372036854775807
def fAbs64 (a : Int) : Int := fCut (fSize a) 0 false
theorem fSize_in {a : Int} (h0 : -9223372036854775808 ≤ a) (h1 : a ≤ 9223372036854775807) : 0 ≤ fSize a ∧ fSize a ≤ 9223372036854775808 := by unfold fSize; split <;> omega
theorem fCut_in {n : Int} (r : Int) (s : Bool) (h0 : 0 ≤ n) : -9223372036854775807 ≤ fCut n r s ∧ fCut n r s ≤ 9223372036854775807 := by
  unfold fCut; split
  · split <;> omega
  · omega
theorem u64_neg (a : Int) (h0 : -9223372036854775808 ≤ a) (h1 : a < 0) : IntKind.u64.wrap a = a + 18446744073709551616 := by
  simp [IntKind.wrap, IntKind.bits, IntKind.signed]; omega
theorem u64_negneg (a : Int) (h0 : -9223372036854775808 ≤ a) (h1 : a < 0) : IntKind.u64.wrap (-(a + 18446744073709551616)) = -a := by
  simp [IntKind.wrap, IntKind.bits, IntKind.signed]; omega
set_option maxHeartbeats 400000 in
theorem size_any (a : Int) (h0 : -9223372036854775808 ≤ a) (h1 : a ≤ 9223372036854775807) (w : World) :
    Calls Try.prog 101 #[.int .i64 a] w fun e w' => e = .returned (.tuple #[.int .u64 (fSize a), .bool (decide (a < 0))]) ∧ w = w' := by
  by_cases h : a < 0
  · have e1 := u64_neg a h0 h
    have e2 := u64_negneg a h0 h
    have HS : Hid (fSize a = -a) := Lib.hid (if_pos h)
    have HD : Hid (decide (a < 0) = true) := Lib.hid (decide_eq_true h)
    go_enter Try.func101, Try.ntmps101
    go_wp2_with fail
    go_ret2
    exact ⟨by rw [HS.out, HD.out]; rfl, rfl⟩
  · have e1 := u64_in a (by omega)
    have HS : Hid (fSize a = a) := Lib.hid (if_neg h)
    have HD : Hid (decide (a < 0) = false) := Lib.hid (decide_eq_false h)
    go_enter Try.func101, Try.ntmps101
    go_wp2_with fail
    go_ret2
    exact ⟨by rw [HS.out, HD.out]; rfl, rfl⟩
set_option maxHeartbeats 400000 in
theorem cut_any (n r : Int) (s : Bool) (h0 : 0 ≤ n) (h1 : n ≤ 18446744073709551615) (r0 : 0 ≤ r) (r1 : r ≤ 18446744073709551615) (w : World) :
    Calls Try.prog 103 #[.int .u64 n, .int .u64 r, .bool s] w fun e w' => e = .returned (.int .i64 (fCut n r s)) ∧ w = w' := by
  cases s with
  | false =>
    by_cases hn : n ≤ 9223372036854775807
    · have HC : Hid (fCut n r false = n) := Lib.hid (by simp [fCut]; omega)
      go_enter Try.func103, Try.ntmps103
      go_wp2_with fail
      go_ret
      exact ⟨ret_int HC.out.symm, rfl⟩
    · have HC : Hid (fCut n r false = 9223372036854775807) := Lib.hid (by simp [fCut]; omega)
      go_enter Try.func103, Try.ntmps103
      go_wp2_with fail
      go_ret
      exact ⟨ret_int HC.out.symm, rfl⟩
  | true =>
    by_cases hr : 0 < r
    · by_cases hn : n < 9223372036854775807
      · have HC : Hid (fCut n r true = -(n + 1)) := Lib.hid (by simp [fCut, hr, hn])
        have hm : n + 1 ≤ 9223372036854775807 := by omega
        go_enter Try.func103, Try.ntmps103
        go_wp2_with fail
        go_ret
        exact ⟨ret_int HC.out.symm, rfl⟩
      · have HC : Hid (fCut n r true = -9223372036854775807) := Lib.hid (by simp [fCut, hn]; omega)
        go_enter Try.func103, Try.ntmps103
        go_wp2_with fail
        all_goals go_ret
        all_goals exact ⟨ret_int (by rw [HC.out] <;> omega), rfl⟩
    · obtain rfl : r = 0 := by omega
      by_cases hn : n ≤ 9223372036854775807
      · have HC : Hid (fCut n 0 true = -n) := Lib.hid (by simp [fCut]; omega)
        go_enter Try.func103, Try.ntmps103
        go_wp2_with fail
        go_ret
        exact ⟨ret_int HC.out.symm, rfl⟩
      · have HC : Hid (fCut n 0 true = -9223372036854775807) := Lib.hid (by simp [fCut]; omega)
        go_enter Try.func103, Try.ntmps103
        go_wp2_with fail
        go_ret
        exact ⟨ret_int HC.out.symm, rfl⟩
set_option maxHeartbeats 400000 in
theorem fixabs_any (a : Int) (h0 : -9223372036854775808 ≤ a) (h1 : a ≤ 9223372036854775807) (w : World) :
    Calls Try.prog 51 #[.int .i64 a] w fun e w' => e = .returned (.int .i64 (fAbs64 a)) ∧ w = w' := by
  have ks := fSize_in h0 h1
  have HS := Lib.hid (size_any a h0 h1)
  have HC := Lib.hid (cut_any (fSize a) 0 false ks.1 (by omega) (by decide) (by decide))
  go_enter Try.func51, Try.ntmps51
  go_wp2_with (first | (with_reducible refine (HS.out _).mono ?_; rintro e w1 ⟨rfl, rfl⟩) | (with_reducible refine (HC.out _).mono ?_; rintro e w2 ⟨rfl, rfl⟩))
  go_ret
  exact ⟨rfl, rfl⟩
end Go.Proofs.Ytmgfnejiienghaa
