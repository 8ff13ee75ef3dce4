/- The walks over the package floaty and what it calls of the package math. -/
import Derived.Test.YthhipnhnpjhaaaaProg
import Derived.Test.YthhipnhnpjhaaaaFlP
import Derived.WalkKit
import Derived.WalkSpells
import Derived.WalkLawsBesides
import Derived.Lib.Hide
namespace Go.Proofs.Ythhipnhnpjhaaaa
open Go.RowKit
set_option maxRecDepth 100000

theorem call_bits (b : Nat) (w : World) : (callFunc 108 #[.float .f64 b]).run Try.prog w = .ok (.value (.int .u64 b)) w := by kernel_rfl
theorem call_frombits (b : Int) (w : World) : (callFunc 113 #[.int .u64 b]).run Try.prog w = .ok (.value (.float .f64 b.toNat)) w := by kernel_rfl

set_option maxHeartbeats 400000 in
theorem kind_any (b : Nat) (w : World) :
    Calls Try.prog 106 #[.float .f64 b] w fun e w' => e = .returned (.int .i64 (fKind b)) ∧ w = w' := by
  have k1 := call_bits b
  have k2 := call_frombits
  obtain ⟨s, Hs⟩ : ∃ s : Int, Hid ((if wrap64 (b : Int) < 0 then 1 else 0) = s) := ⟨_, Lib.hid rfl⟩
  by_cases hs : wrap64 (b : Int) < 0
  · have e := Hs.out
    rw [if_pos hs] at e
    subst e
    go_enter Try.func106, Try.ntmps106
    go_wp2
    all_goals go_ret
    all_goals clear k1 k2
    all_goals exact ⟨ret_int (by simp only [fKind, fAbs, Hs.out]; simp [*]), rfl⟩
  · have e := Hs.out
    rw [if_neg hs] at e
    subst e
    go_enter Try.func106, Try.ntmps106
    go_wp2
    all_goals go_ret
    all_goals clear k1 k2
    all_goals exact ⟨ret_int (by simp only [fKind, fAbs, Hs.out]; simp [*]), rfl⟩

set_option maxHeartbeats 400000 in
theorem abs_any (b : Nat) (w : World) :
    Calls Try.prog 107 #[.float .f64 b] w fun e w' => e = .returned (.float .f64 (fAbs b)) ∧ w = w' := by
  have k1 := call_bits b
  have k2 := call_frombits
  go_enter Try.func107, Try.ntmps107
  go_wp2
  go_ret
  exact ⟨rfl, rfl⟩

set_option maxHeartbeats 400000 in
theorem of_num (b : Nat) (w : World) (hb : b < 18446744073709551616) (h1 : (fKind b == 0) = false) (h2 : 2 < fKind b) (h4 : 4 < fKind b) (h5 : (FloatKind.f64.format.order (fAbs b) 4746794007248502784 == some Ordering.gt) = false) (h6 : (FloatKind.f64.format.order (fAbs b) 4746794007248502784 == some Ordering.eq) = false) :
    Calls Try.prog 103 #[.float .f64 b] w fun e w' => e = .returned (.tuple #[.int .i64 (fOf b).1, .int .i64 (fOf b).2]) ∧ w = w' := by
  have k1 := call_bits b
  have Hf := Lib.hid (fOf_num h1 h2 h4 h5 h6)
  obtain ⟨E, hE, hE0, hE1, HE⟩ : ∃ E : Int, bits BinOp.and IntKind.u64 (↑b / 4503599627370496) 2047 = E ∧ 0 ≤ E ∧ E ≤ 2047 ∧ Hid ((b : Int) / 4503599627370496 % 2048 = E) :=
    ⟨_, u64_and2047 ((b : Int) / 4503599627370496) (by omega) (by omega), by omega, by omega, Lib.hid rfl⟩
  obtain ⟨M, hM, hM0, hM1, HM⟩ : ∃ M : Int, bits BinOp.and IntKind.u64 (↑b) 4503599627370495 = M ∧ 0 ≤ M ∧ M ≤ 4503599627370495 ∧ Hid ((b : Int) % 4503599627370496 = M) :=
    ⟨_, u64_and52 (b : Int) (by omega) (by omega), by omega, by omega, Lib.hid rfl⟩
  have hor : bits BinOp.or IntKind.i64 M 4503599627370496 = M + 4503599627370496 := i64_or52 M hM0 hM1
  have HB : Hid (∀ t, (FloatKind.f64.format.order b 0 == some Ordering.lt) = t → fOf b = (fVal t E M, 0)) := Lib.hid (fun t ht => by rw [Hf.out, HE.out, HM.out, ht])
  obtain ⟨t, ht, Ht⟩ : ∃ t, (FloatKind.f64.format.order b 0 == some Ordering.lt) = t ∧ Hid (fOf b = (fVal t E M, 0)) := ⟨_, rfl, Lib.hid (HB.out _ rfl)⟩
  clear HB Hf
  by_cases e0 : 0 < E
  · by_cases hp : 0 ≤ E - 1023 - 52 + 32
    · have Hv := Lib.hid (fVal_up (neg := t) (M := M) e0 hp)
      cases t
      · go_enter Try.func103, Try.ntmps103
        go_wp2_with (first | (go_at_call 106; refine (kind_any _ _).mono ?_; rintro e w' ⟨rfl, rfl⟩) | (go_at_call 107; refine (abs_any _ _).mono ?_; rintro e w' ⟨rfl, rfl⟩))
        go_ret2
        exact ⟨ret_two (by rw [Ht.out, Hv.out]; rfl) (by rw [Ht.out]), rfl⟩
      · go_enter Try.func103, Try.ntmps103
        go_wp2_with (first | (go_at_call 106; refine (kind_any _ _).mono ?_; rintro e w' ⟨rfl, rfl⟩) | (go_at_call 107; refine (abs_any _ _).mono ?_; rintro e w' ⟨rfl, rfl⟩))
        go_ret2
        exact ⟨ret_two (by rw [Ht.out, Hv.out]; rfl) (by rw [Ht.out]), rfl⟩
    · have Hv := Lib.hid (fVal_down (neg := t) (M := M) e0 (Int.not_le.1 hp))
      by_cases hq : -(E - 1023 - 52 + 32) ≤ 63
      · have Hm : Hid ((min (-(E - 1023 - 52 + 32)) 63).toNat = (-(E - 1023 - 52 + 32)).toNat) := Lib.hid (by omega)
        cases t
        · go_enter Try.func103, Try.ntmps103
          go_wp2_with (first | (go_at_call 106; refine (kind_any _ _).mono ?_; rintro e w' ⟨rfl, rfl⟩) | (go_at_call 107; refine (abs_any _ _).mono ?_; rintro e w' ⟨rfl, rfl⟩))
          go_ret2
          exact ⟨ret_two (by rw [Ht.out, Hv.out, Hm.out]; rfl) (by rw [Ht.out]), rfl⟩
        · go_enter Try.func103, Try.ntmps103
          go_wp2_with (first | (go_at_call 106; refine (kind_any _ _).mono ?_; rintro e w' ⟨rfl, rfl⟩) | (go_at_call 107; refine (abs_any _ _).mono ?_; rintro e w' ⟨rfl, rfl⟩))
          go_ret2
          exact ⟨ret_two (by rw [Ht.out, Hv.out, Hm.out]; rfl) (by rw [Ht.out]), rfl⟩
      · have Hm : Hid ((min (-(E - 1023 - 52 + 32)) 63).toNat = 63) := Lib.hid (by omega)
        cases t
        · go_enter Try.func103, Try.ntmps103
          go_wp2_with (first | (go_at_call 106; refine (kind_any _ _).mono ?_; rintro e w' ⟨rfl, rfl⟩) | (go_at_call 107; refine (abs_any _ _).mono ?_; rintro e w' ⟨rfl, rfl⟩))
          go_ret2
          exact ⟨ret_two (by rw [Ht.out, Hv.out, Hm.out]; rfl) (by rw [Ht.out]), rfl⟩
        · go_enter Try.func103, Try.ntmps103
          go_wp2_with (first | (go_at_call 106; refine (kind_any _ _).mono ?_; rintro e w' ⟨rfl, rfl⟩) | (go_at_call 107; refine (abs_any _ _).mono ?_; rintro e w' ⟨rfl, rfl⟩))
          go_ret2
          exact ⟨ret_two (by rw [Ht.out, Hv.out, Hm.out]; rfl) (by rw [Ht.out]), rfl⟩
  · obtain rfl : E = 0 := by omega
    have Hv := Lib.hid (fVal_small (neg := t) (M := M))
    cases t
    · go_enter Try.func103, Try.ntmps103
      go_wp2_with (first | (go_at_call 106; refine (kind_any _ _).mono ?_; rintro e w' ⟨rfl, rfl⟩) | (go_at_call 107; refine (abs_any _ _).mono ?_; rintro e w' ⟨rfl, rfl⟩))
      go_ret2
      exact ⟨ret_two (by rw [Ht.out, Hv.out]; rfl) (by rw [Ht.out]), rfl⟩
    · go_enter Try.func103, Try.ntmps103
      go_wp2_with (first | (go_at_call 106; refine (kind_any _ _).mono ?_; rintro e w' ⟨rfl, rfl⟩) | (go_at_call 107; refine (abs_any _ _).mono ?_; rintro e w' ⟨rfl, rfl⟩))
      go_ret2
      exact ⟨ret_two (by rw [Ht.out, Hv.out]; rfl) (by rw [Ht.out]), rfl⟩

set_option maxHeartbeats 400000 in
theorem of_any (b : Nat) (w : World) (hb : b < 18446744073709551616) :
    Calls Try.prog 103 #[.float .f64 b] w fun e w' => e = .returned (.tuple #[.int .i64 (fOf b).1, .int .i64 (fOf b).2]) ∧ w = w' := by
  have k1 := call_bits b
  by_cases h0 : fKind b = 0
  · have Hf : Hid (fOf b = (0, 30)) := Lib.hid (by simp only [fOf]; rw [if_pos h0])
    have h1 : (fKind b == 0) = true := by simpa using h0
    clear h0
    go_enter Try.func103, Try.ntmps103
    go_wp2_with (first | (go_at_call 106; refine (kind_any _ _).mono ?_; rintro e w' ⟨rfl, rfl⟩) | (go_at_call 107; refine (abs_any _ _).mono ?_; rintro e w' ⟨rfl, rfl⟩))
    go_ret2
    exact ⟨ret_two (by rw [Hf.out]) (by rw [Hf.out]), rfl⟩
  have h1 : (fKind b == 0) = false := by simpa using h0
  by_cases h2 : fKind b ≤ 2
  · have Hf : Hid (fOf b = (0, 31)) := Lib.hid (by simp only [fOf]; rw [if_neg h0, if_pos h2])
    clear h0
    go_enter Try.func103, Try.ntmps103
    go_wp2_with (first | (go_at_call 106; refine (kind_any _ _).mono ?_; rintro e w' ⟨rfl, rfl⟩) | (go_at_call 107; refine (abs_any _ _).mono ?_; rintro e w' ⟨rfl, rfl⟩))
    go_ret2
    exact ⟨ret_two (by rw [Hf.out]) (by rw [Hf.out]), rfl⟩
  by_cases h4 : fKind b ≤ 4
  · have Hf : Hid (fOf b = (0, 0)) := Lib.hid (by simp only [fOf]; rw [if_neg h0, if_neg h2, if_pos h4])
    clear h0
    go_enter Try.func103, Try.ntmps103
    go_wp2_with (first | (go_at_call 106; refine (kind_any _ _).mono ?_; rintro e w' ⟨rfl, rfl⟩) | (go_at_call 107; refine (abs_any _ _).mono ?_; rintro e w' ⟨rfl, rfl⟩))
    go_ret2
    exact ⟨ret_two (by rw [Hf.out]) (by rw [Hf.out]), rfl⟩
  by_cases h5 : (FloatKind.f64.format.order (fAbs b) 4746794007248502784 == some Ordering.gt) = true
  · have Hf : Hid (fOf b = (0, 32)) := Lib.hid (by simp only [fOf]; rw [if_neg h0, if_neg h2, if_neg h4, if_pos (Or.inl h5)])
    clear h0
    go_enter Try.func103, Try.ntmps103
    go_wp2_with (first | (go_at_call 106; refine (kind_any _ _).mono ?_; rintro e w' ⟨rfl, rfl⟩) | (go_at_call 107; refine (abs_any _ _).mono ?_; rintro e w' ⟨rfl, rfl⟩))
    go_ret2
    exact ⟨ret_two (by rw [Hf.out]) (by rw [Hf.out]), rfl⟩
  by_cases h6 : (FloatKind.f64.format.order (fAbs b) 4746794007248502784 == some Ordering.eq) = true
  · have Hf : Hid (fOf b = (0, 32)) := Lib.hid (by simp only [fOf]; rw [if_neg h0, if_neg h2, if_neg h4, if_pos (Or.inr h6)])
    clear h0
    go_enter Try.func103, Try.ntmps103
    go_wp2_with (first | (go_at_call 106; refine (kind_any _ _).mono ?_; rintro e w' ⟨rfl, rfl⟩) | (go_at_call 107; refine (abs_any _ _).mono ?_; rintro e w' ⟨rfl, rfl⟩))
    go_ret2
    exact ⟨ret_two (by rw [Hf.out]) (by rw [Hf.out]), rfl⟩
  exact of_num b w hb h1 (by omega) (by omega) (by simpa using h5) (by simpa using h6)

set_option maxHeartbeats 800000 in
theorem within_any (b lo hi : Nat) (w : World) (hb : b < 18446744073709551616) (hl : lo < 18446744073709551616) (hh : hi < 18446744073709551616) :
    Calls Try.prog 99 #[.float .f64 b, .float .f64 lo, .float .f64 hi] w fun e w' => e = .returned (.tuple #[.int .i64 (fWithin b lo hi).1, .int .i64 (fWithin b lo hi).2]) ∧ Below w.heap.size w w' := by
  by_cases c1 : (fOf b).2 ≠ 0
  · have Hf : Hid (fWithin b lo hi = (0, (fOf b).2)) := Lib.hid (by simp only [fWithin]; rw [if_pos c1])
    have h1 : ((fOf b).2 != 0) = true := by simpa using c1
    clear c1
    go_enter Try.func99, Try.ntmps99
    go_wp2
    refine wp_loop_rounds 1 ?_
    rw [rounds_succ]
    go_wp2_with (go_at_call 103; refine (of_any _ _ (by assumption)).mono ?_; rintro e w' ⟨rfl, rfl⟩)
    go_ret2
    exact ⟨ret_two (by rw [Hf.out]) (by rw [Hf.out]), (Below.refl _ _).alloc (Nat.le_refl _) _⟩
  have h1 : ((fOf b).2 != 0) = false := by simpa using c1
  by_cases c2 : (fOf lo).2 ≠ 0
  · have Hf : Hid (fWithin b lo hi = (0, (fOf lo).2)) := Lib.hid (by simp only [fWithin]; rw [if_neg c1, if_pos c2])
    have h2 : ((fOf lo).2 != 0) = true := by simpa using c2
    clear c1 c2
    go_enter Try.func99, Try.ntmps99
    go_wp2
    refine wp_loop_rounds 2 ?_
    rw [rounds_succ]
    go_wp2_with (go_at_call 103; refine (of_any _ _ (by assumption)).mono ?_; rintro e w' ⟨rfl, rfl⟩)
    rw [rounds_succ]
    go_wp2_with (go_at_call 103; refine (of_any _ _ (by assumption)).mono ?_; rintro e w' ⟨rfl, rfl⟩)
    go_ret2
    exact ⟨ret_two (by rw [Hf.out]) (by rw [Hf.out]), (Below.refl _ _).alloc (Nat.le_refl _) _⟩
  have h2 : ((fOf lo).2 != 0) = false := by simpa using c2
  by_cases c3 : (fOf hi).2 ≠ 0
  · have Hf : Hid (fWithin b lo hi = (0, (fOf hi).2)) := Lib.hid (by simp only [fWithin]; rw [if_neg c1, if_neg c2, if_pos c3])
    have h3 : ((fOf hi).2 != 0) = true := by simpa using c3
    clear c1 c2 c3
    go_enter Try.func99, Try.ntmps99
    go_wp2
    refine wp_loop_rounds 3 ?_
    rw [rounds_succ]
    go_wp2_with (go_at_call 103; refine (of_any _ _ (by assumption)).mono ?_; rintro e w' ⟨rfl, rfl⟩)
    rw [rounds_succ]
    go_wp2_with (go_at_call 103; refine (of_any _ _ (by assumption)).mono ?_; rintro e w' ⟨rfl, rfl⟩)
    rw [rounds_succ]
    go_wp2_with (go_at_call 103; refine (of_any _ _ (by assumption)).mono ?_; rintro e w' ⟨rfl, rfl⟩)
    go_ret2
    exact ⟨ret_two (by rw [Hf.out]) (by rw [Hf.out]), (Below.refl _ _).alloc (Nat.le_refl _) _⟩
  have h3 : ((fOf hi).2 != 0) = false := by simpa using c3
  by_cases c4 : (FloatKind.f64.format.order b lo == some Ordering.lt) = true
  · have Hf : Hid (fWithin b lo hi = (0, 32)) := Lib.hid (by simp only [fWithin]; rw [if_neg c1, if_neg c2, if_neg c3, if_pos (Or.inl c4)])
    clear c1 c2 c3
    go_enter Try.func99, Try.ntmps99
    go_wp2
    refine wp_loop_rounds 4 ?_
    rw [rounds_succ]
    go_wp2_with (go_at_call 103; refine (of_any _ _ (by assumption)).mono ?_; rintro e w' ⟨rfl, rfl⟩)
    rw [rounds_succ]
    go_wp2_with (go_at_call 103; refine (of_any _ _ (by assumption)).mono ?_; rintro e w' ⟨rfl, rfl⟩)
    rw [rounds_succ]
    go_wp2_with (go_at_call 103; refine (of_any _ _ (by assumption)).mono ?_; rintro e w' ⟨rfl, rfl⟩)
    rw [rounds_succ]
    go_wp2_with (go_at_call 103; refine (of_any _ _ (by assumption)).mono ?_; rintro e w' ⟨rfl, rfl⟩)
    go_ret2
    exact ⟨ret_two (by rw [Hf.out]) (by rw [Hf.out]), (Below.refl _ _).alloc (Nat.le_refl _) _⟩
  have h4 : (FloatKind.f64.format.order b lo == some Ordering.lt) = false := by simpa using c4
  by_cases c5 : (FloatKind.f64.format.order hi b == some Ordering.lt) = true
  · have Hf : Hid (fWithin b lo hi = (0, 32)) := Lib.hid (by simp only [fWithin]; rw [if_neg c1, if_neg c2, if_neg c3, if_pos (Or.inr c5)])
    clear c1 c2 c3 c4
    go_enter Try.func99, Try.ntmps99
    go_wp2
    refine wp_loop_rounds 4 ?_
    rw [rounds_succ]
    go_wp2_with (go_at_call 103; refine (of_any _ _ (by assumption)).mono ?_; rintro e w' ⟨rfl, rfl⟩)
    rw [rounds_succ]
    go_wp2_with (go_at_call 103; refine (of_any _ _ (by assumption)).mono ?_; rintro e w' ⟨rfl, rfl⟩)
    rw [rounds_succ]
    go_wp2_with (go_at_call 103; refine (of_any _ _ (by assumption)).mono ?_; rintro e w' ⟨rfl, rfl⟩)
    rw [rounds_succ]
    go_wp2_with (go_at_call 103; refine (of_any _ _ (by assumption)).mono ?_; rintro e w' ⟨rfl, rfl⟩)
    go_ret2
    exact ⟨ret_two (by rw [Hf.out]) (by rw [Hf.out]), (Below.refl _ _).alloc (Nat.le_refl _) _⟩
  have h5 : (FloatKind.f64.format.order hi b == some Ordering.lt) = false := by simpa using c5
  have Hf : Hid (fWithin b lo hi = fOf b) := Lib.hid (by simp only [fWithin]; rw [if_neg c1, if_neg c2, if_neg c3, if_neg (by rw [h4, h5]; decide)])
  clear c1 c2 c3 c4 c5
  go_enter Try.func99, Try.ntmps99
  go_wp2
  refine wp_loop_rounds 4 ?_
  rw [rounds_succ]
  go_wp2_with (go_at_call 103; refine (of_any _ _ (by assumption)).mono ?_; rintro e w' ⟨rfl, rfl⟩)
  rw [rounds_succ]
  go_wp2_with (go_at_call 103; refine (of_any _ _ (by assumption)).mono ?_; rintro e w' ⟨rfl, rfl⟩)
  rw [rounds_succ]
  go_wp2_with (go_at_call 103; refine (of_any _ _ (by assumption)).mono ?_; rintro e w' ⟨rfl, rfl⟩)
  rw [rounds_succ]
  go_wp2_with (go_at_call 103; refine (of_any _ _ (by assumption)).mono ?_; rintro e w' ⟨rfl, rfl⟩)
  go_ret2
  exact ⟨ret_two (by rw [Hf.out]) (by rw [Hf.out]), (Below.refl _ _).alloc (Nat.le_refl _) _⟩
end Go.Proofs.Ythhipnhnpjhaaaa
