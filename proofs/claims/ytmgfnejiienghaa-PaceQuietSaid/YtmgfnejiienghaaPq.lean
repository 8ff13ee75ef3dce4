/- The walk over the law PaceQuiet, whole. -/
import Derived.Test.YtmgfnejiienghaaPq1
namespace Go.Proofs.Ytmgfnejiienghaa
open Go.RowKit Go.IntWalk
set_option linter.unusedVariables false
set_option maxRecDepth 100000

theorem paceq_core (o a b f m n : Int) (hab : (a < b ∧ f = a ∧ m = b) ∨ (b < a ∧ f = b ∧ m = a) ∨ (b = a ∧ f = a ∧ m = a)) (hn : (o < -9223372036854775807 ∧ n = 9223372036854775807) ∨ (-9223372036854775807 ≤ o ∧ n = -o)) (o0 : -9223372036854775808 ≤ o) (o1 : o ≤ 9223372036854775807) (a0 : 0 ≤ a) (a1 : a ≤ 4294967295) (b0 : 0 ≤ b) (b1 : b ≤ 4294967295) (w : World) :
    Calls Try.prog 10 #[.int .i64 o, .int .u32 a, .int .u32 b] w fun e w' => e = .returned (.bool true) ∧ Below w.heap.size w w' := by
  have f0 : 0 ≤ f ∧ f ≤ 4294967295 := by omega
  have m0 : f ≤ m ∧ m ≤ 4294967295 := by omega
  have n0 : -9223372036854775808 ≤ n ∧ n ≤ 9223372036854775807 := by omega
  have H0 := quiet_any 0 f (by decide) (by decide) (by omega) (by omega)
  have H1 := quiet_any o f o0 o1 (by omega) (by omega)
  have H2 := quiet_any o m o0 o1 (by omega) (by omega)
  have H3 := quiet_any o 0 o0 o1 (by decide) (by decide)
  have H4 := quiet_any n f n0.1 n0.2 (by omega) (by omega)
  rw [pQuiet_nought f0.1 f0.2] at H0
  rw [pQuiet_still] at H3
  have e4 : pQuiet n f = pQuiet o f := by
    rcases hn with ⟨h, rfl⟩ | ⟨h, rfl⟩
    · obtain rfl : o = -9223372036854775808 := by omega
      exact pQuiet_low f0.1 f0.2
    · exact pQuiet_neg f0.1 f0.2 o1 (by omega)
  rw [e4] at H4
  have e2 : pQuiet o f = true → pQuiet o m = true := pQuiet_more f0.1 m0.1 m0.2
  generalize pQuiet o f = q at H1 H4 e2
  generalize pQuiet o m = r at H2 e2
  have hq : (q = true ∧ r = true) ∨ q = false := by cases q <;> simp_all
  have hn' : (o < -9223372036854775807 ∧ n = 9223372036854775807) ∨ (IntKind.i64.wrap (-if o < -9223372036854775807 then -9223372036854775807 else o) = -o ∧ n = -o) := by
    rcases hn with h | ⟨h, e⟩
    · exact Or.inl h
    · exact Or.inr ⟨by rw [if_neg (by omega)]; exact i64_in _ (by omega), e⟩
  clear e4 n0 m0 e2 f0 hn
  rcases hab with ⟨h, rfl, rfl⟩ | ⟨h, rfl, rfl⟩ | ⟨rfl, rfl, rfl⟩ <;> rcases hn' with ⟨hn, rfl⟩ | ⟨hn, rfl⟩ <;> rcases hq with ⟨rfl, rfl⟩ | rfl
  · exact paceq_000 o _ _ true h hn (Lib.hid H0) (Lib.hid H1) (Lib.hid H2) (Lib.hid H3) (Lib.hid H4) o0 o1 a0 a1 b0 b1 w
  · exact paceq_001 o _ _ _ h hn (Lib.hid H0) (Lib.hid H1) (Lib.hid H2) (Lib.hid H3) (Lib.hid H4) o0 o1 a0 a1 b0 b1 w
  · exact paceq_010 o _ _ true h hn (Lib.hid H0) (Lib.hid H1) (Lib.hid H2) (Lib.hid H3) (Lib.hid H4) o0 o1 a0 a1 b0 b1 w
  · exact paceq_011 o _ _ _ h hn (Lib.hid H0) (Lib.hid H1) (Lib.hid H2) (Lib.hid H3) (Lib.hid H4) o0 o1 a0 a1 b0 b1 w
  · exact paceq_100 o _ _ true h hn (Lib.hid H0) (Lib.hid H1) (Lib.hid H2) (Lib.hid H3) (Lib.hid H4) o0 o1 a0 a1 b0 b1 w
  · exact paceq_101 o _ _ _ h hn (Lib.hid H0) (Lib.hid H1) (Lib.hid H2) (Lib.hid H3) (Lib.hid H4) o0 o1 a0 a1 b0 b1 w
  · exact paceq_110 o _ _ true h hn (Lib.hid H0) (Lib.hid H1) (Lib.hid H2) (Lib.hid H3) (Lib.hid H4) o0 o1 a0 a1 b0 b1 w
  · exact paceq_111 o _ _ _ h hn (Lib.hid H0) (Lib.hid H1) (Lib.hid H2) (Lib.hid H3) (Lib.hid H4) o0 o1 a0 a1 b0 b1 w
  · exact paceq_200 o _ _ true  hn (Lib.hid H0) (Lib.hid H1) (Lib.hid H2) (Lib.hid H3) (Lib.hid H4) o0 o1 a0 a1 b0 b1 w
  · exact paceq_201 o _ _ _  hn (Lib.hid H0) (Lib.hid H1) (Lib.hid H2) (Lib.hid H3) (Lib.hid H4) o0 o1 a0 a1 b0 b1 w
  · exact paceq_210 o _ _ true  hn (Lib.hid H0) (Lib.hid H1) (Lib.hid H2) (Lib.hid H3) (Lib.hid H4) o0 o1 a0 a1 b0 b1 w
  · exact paceq_211 o _ _ _  hn (Lib.hid H0) (Lib.hid H1) (Lib.hid H2) (Lib.hid H3) (Lib.hid H4) o0 o1 a0 a1 b0 b1 w
theorem paceq_walk (o a b : Int) (ho : -9223372036854775808 ≤ o ∧ o ≤ 9223372036854775807) (ha : 0 ≤ a ∧ a ≤ 4294967295) (hb : 0 ≤ b ∧ b ≤ 4294967295) (w : World) :
    Calls Try.prog 10 #[.int .i64 o, .int .u32 a, .int .u32 b] w fun e w' => e = .returned (.bool true) ∧ Below w.heap.size w w' := by
  have hn : ∃ n : Int, (o < -9223372036854775807 ∧ n = 9223372036854775807) ∨ (-9223372036854775807 ≤ o ∧ n = -o) := by
    by_cases h : o < -9223372036854775807
    · exact ⟨_, Or.inl ⟨h, rfl⟩⟩
    · exact ⟨_, Or.inr ⟨by omega, rfl⟩⟩
  obtain ⟨n, hn⟩ := hn
  have hab : ∃ f m : Int, (a < b ∧ f = a ∧ m = b) ∨ (b < a ∧ f = b ∧ m = a) ∨ (b = a ∧ f = a ∧ m = a) := by
    by_cases h : a < b
    · exact ⟨a, b, Or.inl ⟨h, rfl, rfl⟩⟩
    · by_cases h' : b < a
      · exact ⟨b, a, Or.inr (Or.inl ⟨h', rfl, rfl⟩)⟩
      · exact ⟨a, a, Or.inr (Or.inr ⟨by omega, rfl, rfl⟩)⟩
  obtain ⟨f, m, hab⟩ := hab
  exact paceq_core o a b f m n hab hn ho.1 ho.2 ha.1 ha.2 hb.1 hb.2 w
end Go.Proofs.Ytmgfnejiienghaa
