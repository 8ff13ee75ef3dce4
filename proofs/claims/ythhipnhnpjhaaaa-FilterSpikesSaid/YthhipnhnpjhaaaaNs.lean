/- Contracts of wide: the root. -/
import Derived.Test.YthhipnhnpjhaaaaNw
namespace Go.Proofs.Ythhipnhnpjhaaaa
open Go Go.RowKit Ev
set_option linter.unusedVariables false
set_option linter.unusedSimpArgs false
set_option maxRecDepth 100000

abbrev U0 : SV := .raw (.tuple #[])
def sqL : LoopSum := ⟨[(.int .u64 (.var 0)), (.int .u64 (.var 1)), U0, U0, (.int .u64 (.lit 0)), (.int .u64 (.lit 0)), (.int .u64 (.lit 0)), (.int .u64 (.lit 0)), U0, U0, U0, (.int .i64 (.lit 0)), U0, U0, U0, U0, U0, U0, U0, U0, U0, U0, U0, U0, U0, U0, U0, U0, U0, U0, U0, U0, U0, U0, U0, U0, U0, U0, U0, U0, U0, U0, U0, U0, U0, U0, U0, U0, U0, U0, U0, U0, U0, U0, U0, U0], [],
  (.exit 0), [.any, .any, U0, U0, (.int .u64 (.lit 0)), (.int .u64 (.var 2)), .any, .any, .any, .any, .any, .any, .any, .any, .any, .any, .any, .any, .any, .any, .any, .any, .any, .any, .any, .any, .any, .any, .any, .any, .any, .any, .any, .any, .any, .any, .any, .any, .any, .any, .any, .any, .any, .any, .any, .any, .any, .any, .any, .any, .any, .any, .any, .any, .any, U0], []⟩
def sqH : St := ⟨Tm.ofL [(.int .u64 (.var 3)), (.int .u64 (.var 4)), U0, U0, (.int .u64 (.lit 0)), (.int .u64 (.var 7)), (.int .u64 (.var 8)), (.int .u64 (.var 5)), .any, .any, .any, (.int .i64 (.var 6)), .any, .any, .any, .any, .any, .any, .any, .any, .any, .any, .any, .any, .any, .any, .any, .any, .any, .any, .any, .any, .any, .any, .any, .any, .any, .any, .any, .any, .any, .any, .any, .any, .any, .any, .any, .any, .any, .any, .any, .any, .any, .any, .any, U0], []⟩
def sqE : List IE := [(.var 0), (.var 1), (.var 2), (.var 0), (.var 1), (.lit 0), (.lit 0), (.lit 0), (.lit 0)]
def sqB : List BE := []
def sqT : RT :=
(.node (.cmp .lss (.var 6) (.lit 64))
 (.node (.cmp .eql (.ar .or .u64 (.ar .shl .u64 (.var 8) (.lit 2)) (.ar .shr .u64 (.var 5) (.lit 62))) (.ar .shr .u64 (.var 7) (.lit 62)))
 (.node (.cmp .lss (.ar .or .u64 (.ar .shl .u64 (.var 5) (.lit 2)) (.ar .shr .u64 (.var 3) (.lit 62))) (.ar .or .u64 (.ar .shl .u64 (.var 7) (.lit 2)) (.lit 1)))
 (.go [(.var 0), (.var 1), (.var 2), (.ar .or .u64 (.ar .shl .u64 (.var 3) (.lit 2)) (.ar .shr .u64 (.var 4) (.lit 62))), (.ar .shl .u64 (.var 4) (.lit 2)), (.ar .or .u64 (.ar .shl .u64 (.var 5) (.lit 2)) (.ar .shr .u64 (.var 3) (.lit 62))), (.pl .add (.var 6) (.lit 1)), (.ar .shl .u64 (.var 7) (.lit 1)), (.ar .or .u64 (.ar .shl .u64 (.var 8) (.lit 2)) (.ar .shr .u64 (.var 5) (.lit 62)))] [])
 (.go [(.var 0), (.var 1), (.var 2), (.ar .or .u64 (.ar .shl .u64 (.var 3) (.lit 2)) (.ar .shr .u64 (.var 4) (.lit 62))), (.ar .shl .u64 (.var 4) (.lit 2)), (.ar .sub .u64 (.ar .or .u64 (.ar .shl .u64 (.var 5) (.lit 2)) (.ar .shr .u64 (.var 3) (.lit 62))) (.ar .or .u64 (.ar .shl .u64 (.var 7) (.lit 2)) (.lit 1))), (.pl .add (.var 6) (.lit 1)), (.ar .or .u64 (.ar .shl .u64 (.var 7) (.lit 1)) (.lit 1)), (.ar .sub .u64 (.ar .or .u64 (.ar .shl .u64 (.var 8) (.lit 2)) (.ar .shr .u64 (.var 5) (.lit 62))) (.ar .shr .u64 (.var 7) (.lit 62)))] []))
 (.node (.cmp .lss (.ar .or .u64 (.ar .shl .u64 (.var 8) (.lit 2)) (.ar .shr .u64 (.var 5) (.lit 62))) (.ar .shr .u64 (.var 7) (.lit 62)))
 (.go [(.var 0), (.var 1), (.var 2), (.ar .or .u64 (.ar .shl .u64 (.var 3) (.lit 2)) (.ar .shr .u64 (.var 4) (.lit 62))), (.ar .shl .u64 (.var 4) (.lit 2)), (.ar .or .u64 (.ar .shl .u64 (.var 5) (.lit 2)) (.ar .shr .u64 (.var 3) (.lit 62))), (.pl .add (.var 6) (.lit 1)), (.ar .shl .u64 (.var 7) (.lit 1)), (.ar .or .u64 (.ar .shl .u64 (.var 8) (.lit 2)) (.ar .shr .u64 (.var 5) (.lit 62)))] [])
 (.node (.cmp .lss (.ar .or .u64 (.ar .shl .u64 (.var 5) (.lit 2)) (.ar .shr .u64 (.var 3) (.lit 62))) (.ar .or .u64 (.ar .shl .u64 (.var 7) (.lit 2)) (.lit 1)))
 (.go [(.var 0), (.var 1), (.var 2), (.ar .or .u64 (.ar .shl .u64 (.var 3) (.lit 2)) (.ar .shr .u64 (.var 4) (.lit 62))), (.ar .shl .u64 (.var 4) (.lit 2)), (.ar .sub .u64 (.ar .or .u64 (.ar .shl .u64 (.var 5) (.lit 2)) (.ar .shr .u64 (.var 3) (.lit 62))) (.ar .or .u64 (.ar .shl .u64 (.var 7) (.lit 2)) (.lit 1))), (.pl .add (.var 6) (.lit 1)), (.ar .or .u64 (.ar .shl .u64 (.var 7) (.lit 1)) (.lit 1)), (.ar .sub .u64 (.ar .sub .u64 (.ar .or .u64 (.ar .shl .u64 (.var 8) (.lit 2)) (.ar .shr .u64 (.var 5) (.lit 62))) (.ar .shr .u64 (.var 7) (.lit 62))) (.lit 1))] [])
 (.go [(.var 0), (.var 1), (.var 2), (.ar .or .u64 (.ar .shl .u64 (.var 3) (.lit 2)) (.ar .shr .u64 (.var 4) (.lit 62))), (.ar .shl .u64 (.var 4) (.lit 2)), (.ar .sub .u64 (.ar .or .u64 (.ar .shl .u64 (.var 5) (.lit 2)) (.ar .shr .u64 (.var 3) (.lit 62))) (.ar .or .u64 (.ar .shl .u64 (.var 7) (.lit 2)) (.lit 1))), (.pl .add (.var 6) (.lit 1)), (.ar .or .u64 (.ar .shl .u64 (.var 7) (.lit 1)) (.lit 1)), (.ar .sub .u64 (.ar .or .u64 (.ar .shl .u64 (.var 8) (.lit 2)) (.ar .shr .u64 (.var 5) (.lit 62))) (.ar .shr .u64 (.var 7) (.lit 62)))] []))))
 (.stop [(.var 0), (.var 1), (.var 7)] []))

abbrev sqXr : Ctx := { pc := [], rg := [u64R, u64R, u64R, u64R, u64R, u64R, (0, 64), u64R, u64R] }
theorem sq_lpB : lpB Try.prog sqXr 600 63 [0, 1, 0, 1, 1, 1] 1 sqL sqH sqT sqE sqB = true := by kernel_rfl
/-- what holds at the head -/
def SqJ (hi lo rt : Int) (V m : Nat) (is : List Int) (bs : List Bool) : Prop :=
  ∃ k n L X : Nat, SqI V k n L X ∧ m = 64 - k ∧ bs = [] ∧ is = [hi, lo, rt, (X : Int) / 18446744073709551616, (X : Int) % 18446744073709551616, (L : Int) % 18446744073709551616, (k : Int), (n : Int), (L : Int) / 18446744073709551616]
theorem SqI.lt {V k n L X : Nat} (h : SqI V k n L X) : X < 340282366920938463463374607431768211456 ∧ n < 18446744073709551616 ∧ L ≤ 2 * n := by
  obtain ⟨hk, ⟨Y, hY, rfl, _⟩, hl, hn⟩ := h
  refine ⟨?_, ?_, hl⟩
  · have h1 : Y * 4 ^ k < 4 ^ (64 - k) * 4 ^ k := Nat.mul_lt_mul_of_pos_right hY (Nat.pow_pos (by decide))
    rw [← Nat.pow_add, show 64 - k + k = 64 by omega] at h1
    have e : (4 : Nat) ^ 64 = 340282366920938463463374607431768211456 := by decide
    omega
  · have h1 := Nat.pow_le_pow_right (n := 2) (by decide) hk
    have e : (2 : Nat) ^ 64 = 18446744073709551616 := by decide
    omega
theorem sq_next {hi lo rt : Int} {V k n L X : Nat} (h : SqI V k n L X) (hk : k < 64) {ρ : Env} :
    ∃ is', sqT.next (ρ.on [hi, lo, rt, (X : Int) / 18446744073709551616, (X : Int) % 18446744073709551616, (L : Int) % 18446744073709551616, (k : Int), (n : Int), (L : Int) / 18446744073709551616] []) = some (is', []) ∧ SqJ hi lo rt V (64 - (k + 1)) is' [] := by
  have hs := h.step hk
  obtain ⟨hX, hn, hl⟩ := h.lt
  have e63 : (4 : Nat) ^ 63 = 85070591730234615865843651857942052864 := by decide
  have e64 : (4 : Nat) ^ 64 = 340282366920938463463374607431768211456 := by decide
  rw [e63, e64] at hs
  have o1 : ∀ x y : Nat, arI .or .u64 ((x : Int) / 18446744073709551616 * 4 % 18446744073709551616) ((x : Int) % 18446744073709551616 / 4611686018427387904) = ((x : Int) / 18446744073709551616) * 4 % 18446744073709551616 + ((x : Int) % 18446744073709551616) / 4611686018427387904 := fun x y => by
    rw [or2 (by omega) (by omega) (by omega)]
  have o2 : arI .or .u64 ((L : Int) % 18446744073709551616 * 4 % 18446744073709551616) ((X : Int) / 18446744073709551616 / 4611686018427387904) = ((L : Int) % 18446744073709551616) * 4 % 18446744073709551616 + ((X : Int) / 18446744073709551616) / 4611686018427387904 := by
    rw [or2 (by omega) (by omega) (by omega)]
  have o3 : arI .or .u64 ((n : Int) * 4 % 18446744073709551616) 1 = (n : Int) * 4 % 18446744073709551616 + 1 := by
    rw [or1 (by omega) (by omega) (by omega)]
  have o4 : arI .or .u64 ((n : Int) * 2 % 18446744073709551616) 1 = (n : Int) * 2 % 18446744073709551616 + 1 := by
    rw [or1 (by omega) (by omega) (by omega)]
  have hk' : ((k : Int) < 64) := by omega
  simp only [sqT, RT.next, BE.den, cmpI, IE.den, Env.on, List.getD_cons_zero, List.getD_cons_succ, dens, bdens, List.map_cons, List.map_nil, plI, o1 X 0, o1 L 0, o2, o3, o4, shl1, shl2, shr62, subW, decide_eq_true hk', cond_true]
  have hn2 : n < 2 ^ 63 ∨ k = 63 := by
    have := h.n
    by_cases hk3 : k = 63
    · exact .inr hk3
    · have h1 := Nat.pow_le_pow_right (n := 2) (by decide) (show k ≤ 63 by omega)
      left; omega
  have hn3 : n < 9223372036854775808 := by
    have := h.n
    have h1 := Nat.pow_le_pow_right (n := 2) (by decide) (show k ≤ 63 by omega)
    have e : (2 : Nat) ^ 63 = 9223372036854775808 := by decide
    omega
  generalize hT : X / 85070591730234615865843651857942052864 = two at hs
  have ht : two < 4 := by omega
  clear hn2 h e63 e64 o1 o2 o3 o4
  by_cases c : 4 * L + two < 4 * n + 1
  · rw [if_pos c, if_pos c] at hs
    have key : ∀ a b d e f g : Int, a = (4 * X % 340282366920938463463374607431768211456 : Nat) / 18446744073709551616 → b = (4 * X % 340282366920938463463374607431768211456 : Nat) % 18446744073709551616 → d = ((4 * L + two : Nat) : Int) % 18446744073709551616 → e = ((k + 1 : Nat) : Int) → f = ((2 * n : Nat) : Int) → g = ((4 * L + two : Nat) : Int) / 18446744073709551616 → SqJ hi lo rt V (64 - (k + 1)) [hi, lo, rt, a, b, d, e, f, g] [] :=
      fun a b d e f g h1 h2 h3 h4 h5 h6 => ⟨_, _, _, _, hs, rfl, rfl, by rw [h1, h2, h3, h4, h5, h6]⟩
    by_cases c1 : (L : Int) / 18446744073709551616 * 4 % 18446744073709551616 + (L : Int) % 18446744073709551616 / 4611686018427387904 = (n : Int) / 4611686018427387904
    · rw [beq_iff_eq.2 c1, cond_true, decide_eq_true (by omega), cond_true]
      exact ⟨_, rfl, key _ _ _ _ _ _ (by omega) (by omega) (by omega) (by omega) (by omega) (by omega)⟩
    · rw [beq_eq_false_iff_ne.2 c1, cond_false, decide_eq_true (by omega), cond_true]
      exact ⟨_, rfl, key _ _ _ _ _ _ (by omega) (by omega) (by omega) (by omega) (by omega) (by omega)⟩
  · rw [if_neg c, if_neg c] at hs
    have key : ∀ a b d e f g : Int, a = (4 * X % 340282366920938463463374607431768211456 : Nat) / 18446744073709551616 → b = (4 * X % 340282366920938463463374607431768211456 : Nat) % 18446744073709551616 → d = ((4 * L + two - (4 * n + 1) : Nat) : Int) % 18446744073709551616 → e = ((k + 1 : Nat) : Int) → f = ((2 * n + 1 : Nat) : Int) → g = ((4 * L + two - (4 * n + 1) : Nat) : Int) / 18446744073709551616 → SqJ hi lo rt V (64 - (k + 1)) [hi, lo, rt, a, b, d, e, f, g] [] :=
      fun a b d e f g h1 h2 h3 h4 h5 h6 => ⟨_, _, _, _, hs, rfl, rfl, by rw [h1, h2, h3, h4, h5, h6]⟩
    by_cases c1 : (L : Int) / 18446744073709551616 * 4 % 18446744073709551616 + (L : Int) % 18446744073709551616 / 4611686018427387904 = (n : Int) / 4611686018427387904
    · rw [beq_iff_eq.2 c1, cond_true, decide_eq_false (by omega), cond_false]
      exact ⟨_, rfl, key _ _ _ _ _ _ (by omega) (by omega) (by omega) (by omega) (by omega) (by omega)⟩
    · rw [beq_eq_false_iff_ne.2 c1, cond_false, decide_eq_false (by omega), cond_false]
      by_cases c2 : (L : Int) % 18446744073709551616 * 4 % 18446744073709551616 + (X : Int) / 18446744073709551616 / 4611686018427387904 < (n : Int) * 4 % 18446744073709551616 + 1
      · rw [decide_eq_true c2, cond_true]
        exact ⟨_, rfl, key _ _ _ _ _ _ (by omega) (by omega) (by omega) (by omega) (by omega) (by omega)⟩
      · rw [decide_eq_false c2, cond_false]
        exact ⟨_, rfl, key _ _ _ _ _ _ (by omega) (by omega) (by omega) (by omega) (by omega) (by omega)⟩
abbrev sqXl : Ctx := { pc := [], rg := [u64R, u64R, u64R], lp := fun f p _ => if Nat.beq f 63 && decide (p = [0, 1, 0, 1, 1, 1]) then some sqL else none }
theorem wsqrt_any (hi lo : Int) (h : InU hi) (l : InU lo) (w : World) :
    Calls Try.prog 63 #[.int .u64 hi, .int .u64 lo] w fun e w' => e = .returned (.int .u64 (apN 7 hi lo 0)) ∧ Below w.heap.size w w' := by
  obtain ⟨V, hV⟩ : ∃ V : Nat, hi * 18446744073709551616 + lo = V := ⟨(hi * 18446744073709551616 + lo).toNat, by omega⟩
  have hV1 : V < 4 ^ 64 := by
    have e : (4 : Nat) ^ 64 = 340282366920938463463374607431768211456 := by decide
    rw [e]; omega
  have hr := isq_spec hV1
  have hlt : isq V < 18446744073709551616 := isq_lt hV1 (by have e : (4 : Nat) ^ 64 = 18446744073709551616 * 18446744073709551616 := by decide
                                                            rw [← e]; exact hV1)
  have hap : apN 7 hi lo 0 = (isq V : Nat) := by
    simp only [apN, hV, Int.toNat_natCast]
    generalize isq V = r at hlt
    omega
  rw [hap]
  refine tree_sound (P := Try.prog) mixed (ρ := envOf [hi, lo, (isq V : Nat)]) (n := 600) (f := 63) (args := [.int .u64 (.var 0), .int .u64 (.var 1)]) (.leaf (.int .u64 (.var 2))) (X := sqXl)
    (knows_env rfl ⟨h, l, ⟨Int.natCast_nonneg _, by show ((isq V : Nat) : Int) ≤ 18446744073709551615; omega⟩, trivial⟩ (fun f v h => by cases h)) ⟨fun c hc => (by cases hc), fun pc _ f vs v h => (by cases h), fun f p u L hL c hc hids => ?_⟩ ⟨(by change runFn _ _ _ _ _ = _; kernel_rfl), rfl⟩ rfl w
  simp only [sqXl] at hL
  split at hL
  · rename_i hfp
    simp only [Bool.and_eq_true, Nat.beq_eq, decide_eq_true_eq] at hfp
    obtain ⟨rfl, rfl⟩ := hfp
    cases hL
    refine rt_lp mixed sq_lpB hc (SqJ hi lo (isq V : Nat) V) ?_ ?_ ⟨64, 0, 0, 0, V, SqI.start hV1, rfl, rfl, ?_⟩ ?_
    · rintro m is bs ⟨k, n, L, X, hs, _, _, rfl⟩
      obtain ⟨a1, a2, a3⟩ := hs.lt
      have a4 := hs.le
      refine knows_env rfl ⟨h, l, ⟨Int.natCast_nonneg _, ?_⟩, ?_⟩ (fun f v h => by cases h)
      · show ((isq V : Nat) : Int) ≤ 18446744073709551615; omega
      · simp only [AllIn, Env.on, List.getD_cons_zero, List.getD_cons_succ]
        refine ⟨?_, ?_, ?_, ?_, ?_, ?_, trivial⟩ <;> constructor <;> omega
    · rintro m is bs _ E
      exact knowsC_none rfl rfl rfl
    · show [hi, lo, ((isq V : Nat) : Int), hi, lo, (0 : Int), 0, 0, 0] = _
      rw [show ((V : Nat) : Int) / 18446744073709551616 = hi by omega, show ((V : Nat) : Int) % 18446744073709551616 = lo by omega]
      rfl
    · rintro m is bs ⟨k, n, L, X, hs, rfl, rfl, rfl⟩
      by_cases hk : k < 64
      · obtain ⟨is', h1, h2⟩ := sq_next (hi := hi) (lo := lo) (rt := ((isq V : Nat) : Int)) hs hk (ρ := envOf [hi, lo, (isq V : Nat)])
        exact .inl ⟨is', [], _, h1, by omega, h2⟩
      · obtain rfl : k = 64 := by have := hs.le; omega
        refine .inr ⟨[hi, lo, (n : Int)], [], rfl, has_of (fun i x hx => ?_) rfl⟩
        have := isq_of hV1 hs.ends
        rcases i with _ | _ | _ | i <;> simp at hx <;> subst hx
        · rfl
        · rfl
        · show ((isq V : Nat) : Int) = n; rw [this]
  · cases hL
end Go.Proofs.Ythhipnhnpjhaaaa
