/- The document's quotient, bit by bit. -/
import Derived.Test.YtopgidgkpafeeaaM29
namespace Go.Proofs.Ytopgidgkpafeeaa
open Go Go.RowKit Ev
set_option linter.unusedVariables false
set_option linter.unusedSimpArgs false
set_option maxRecDepth 100000
set_option maxHeartbeats 0
def rdL : LoopSum := ⟨[(.int .u64 (.var 0)), (.int .u64 (.var 1)), (.int .u64 (.var 2)), (.raw (.tuple #[])), (.raw (.tuple #[])), (.raw (.tuple #[])), (.int .u64 (.lit 0)), (.int .u64 (.lit 0)), (.bool (.lit false)), (.int .u64 (.lit 0)), (.int .u64 (.var 0)), (.int .i64 (.lit 63)), (.raw (.tuple #[])), (.int .u64 (.var 0)), (.int .u64 (.var 2)), (.bool (.cmp .geq (.var 0) (.var 2))), (.int .u64 (.var 0)), (.raw (.tuple #[])), (.raw (.tuple #[])), (.raw (.tuple #[])), (.raw (.tuple #[])), (.raw (.tuple #[])), (.raw (.tuple #[])), (.raw (.tuple #[])), (.raw (.tuple #[])), (.raw (.tuple #[])), (.raw (.tuple #[])), (.raw (.tuple #[])), (.raw (.tuple #[])), (.raw (.tuple #[])), (.raw (.tuple #[])), (.raw (.tuple #[])), (.raw (.tuple #[])), (.raw (.tuple #[])), (.raw (.tuple #[])), (.raw (.tuple #[])), (.raw (.tuple #[])), (.raw (.tuple #[])), (.raw (.tuple #[])), (.raw (.tuple #[])), (.raw (.tuple #[])), (.raw (.tuple #[])), (.raw (.tuple #[])), (.raw (.tuple #[])), (.raw (.tuple #[]))], [],
  (.exit 0), [(.int .u64 (.var 0)), (.int .u64 (.var 1)), (.int .u64 (.var 2)), (.raw (.tuple #[])), (.raw (.tuple #[])), (.raw (.tuple #[])), (.int .u64 (.lit 0)), (.int .u64 (.lit 0)), (.bool (.lit false)), (.int .u64 (.var 3)), (.int .u64 (.var 4)), .any, .any, (.int .u64 (.var 0)), (.int .u64 (.var 2)), (.bool (.cmp .geq (.var 0) (.var 2))), (.int .u64 (.var 0)), .any, .any, .any, .any, .any, .any, .any, .any, .any, .any, .any, .any, .any, .any, .any, .any, .any, .any, .any, .any, .any, .any, .any, .any, .any, .any, (.raw (.tuple #[])), (.raw (.tuple #[]))], []⟩
def rdH : St := ⟨Tm.ofL [(.int .u64 (.var 0)), (.int .u64 (.var 1)), (.int .u64 (.var 2)), (.raw (.tuple #[])), (.raw (.tuple #[])), (.raw (.tuple #[])), (.int .u64 (.lit 0)), (.int .u64 (.lit 0)), (.bool (.lit false)), (.int .u64 (.var 5)), (.int .u64 (.var 6)), (.int .i64 (.var 7)), .any, (.int .u64 (.var 0)), (.int .u64 (.var 2)), (.bool (.cmp .geq (.var 0) (.var 2))), (.int .u64 (.var 0)), .any, .any, .any, .any, .any, .any, .any, .any, .any, .any, .any, .any, .any, .any, .any, .any, .any, .any, .any, .any, .any, .any, .any, .any, .any, .any, (.raw (.tuple #[])), (.raw (.tuple #[]))], []⟩
def rdE : List IE := [(.var 0), (.var 1), (.var 2), (.var 3), (.var 4), (.lit 0), (.var 0), (.lit 63)]
def rdB : List BE := []
def rdT : RT :=
(.node (.cmp .lss (.var 7) (.lit 0))
 (.stop [(.var 0), (.var 1), (.var 2), (.var 5), (.var 6)] [])
 (.node (.cmp .eql (.ar .and .u64 (.ar .shr .u64 (.var 6) (.lit 63)) (.lit 1)) (.lit 1))
 (.go [(.var 0), (.var 1), (.var 2), (.var 3), (.var 4), (.ar .or .u64 (.ar .shl .u64 (.var 5) (.lit 1)) (.lit 1)), (.ar .sub .u64 (.ar .or .u64 (.ar .shl .u64 (.var 6) (.lit 1)) (.ar .and .u64 (.ar .shr .u64 (.var 1) (.var 7)) (.lit 1))) (.var 2)), (.pl .sub (.var 7) (.lit 1))] [])
 (.node (.cmp .lss (.ar .or .u64 (.ar .shl .u64 (.var 6) (.lit 1)) (.ar .and .u64 (.ar .shr .u64 (.var 1) (.var 7)) (.lit 1))) (.var 2))
 (.go [(.var 0), (.var 1), (.var 2), (.var 3), (.var 4), (.ar .shl .u64 (.var 5) (.lit 1)), (.ar .or .u64 (.ar .shl .u64 (.var 6) (.lit 1)) (.ar .and .u64 (.ar .shr .u64 (.var 1) (.var 7)) (.lit 1))), (.pl .sub (.var 7) (.lit 1))] [])
 (.go [(.var 0), (.var 1), (.var 2), (.var 3), (.var 4), (.ar .or .u64 (.ar .shl .u64 (.var 5) (.lit 1)) (.lit 1)), (.ar .sub .u64 (.ar .or .u64 (.ar .shl .u64 (.var 6) (.lit 1)) (.ar .and .u64 (.ar .shr .u64 (.var 1) (.var 7)) (.lit 1))) (.var 2)), (.pl .sub (.var 7) (.lit 1))] []))))
abbrev rdP : List Nat := [0, 1, 0, 1, 1, 1, 1]
abbrev rdR : List (Int × Int) := [u64Q, u64Q, (1, 18446744073709551615), u64Q, u64Q]
abbrev rdRx : List (Int × Int) := rdR ++ [u64Q, u64Q, (-1, 63)]
def rdX : Ctx := { pc := [], rg := rdRx }
theorem rd_B : lpB Try.prog rdX 400 101 rdP 3 rdL rdH rdT rdE rdB = true := by kernel_rfl
theorem dv_lt {V d b : Nat} (hd : 0 < d) (h : 2 * (V % d) + b < d) : (2 * V + b) / d = 2 * (V / d) ∧ (2 * V + b) % d = 2 * (V % d) + b := by
  refine (Nat.div_mod_unique hd).2 ⟨?_, h⟩
  have e := Nat.div_add_mod V d
  rw [Nat.mul_left_comm]
  generalize d * (V / d) = P at e ⊢
  omega
theorem dv_ge {V d b : Nat} (hd : 0 < d) (hb : b ≤ 1) (h : d ≤ 2 * (V % d) + b) : (2 * V + b) / d = 2 * (V / d) + 1 ∧ (2 * V + b) % d = 2 * (V % d) + b - d := by
  have hm := Nat.mod_lt V hd
  refine (Nat.div_mod_unique hd).2 ⟨?_, by omega⟩
  have e := Nat.div_add_mod V d
  rw [Nat.mul_add, Nat.mul_one, Nat.mul_left_comm]
  generalize d * (V / d) = P at e ⊢
  omega
theorem rd_bit {hi lo t : Nat} (ht : t ≤ 63) : (hi * 18446744073709551616 + lo) / 2 ^ t % 2 = lo / 2 ^ t % 2 := by
  have e64 : (18446744073709551616 : Nat) = 2 ^ t * (2 * 2 ^ (63 - t)) := by
    rw [← Nat.pow_succ', ← Nat.pow_add, show t + (63 - t + 1) = 64 by omega]
  rw [e64, show hi * (2 ^ t * (2 * 2 ^ (63 - t))) = 2 ^ t * (2 * (hi * 2 ^ (63 - t))) by
    rw [Nat.mul_left_comm, Nat.mul_left_comm hi 2], Nat.add_comm, Nat.add_mul_div_left _ _ (Nat.pow_pos (by decide))]
  omega
/-- so many bits are to come -/
def rdV (hi lo t : Nat) : Nat := (hi * 18446744073709551616 + lo) / 2 ^ t
theorem rdV_step {hi lo t : Nat} (ht : t ≤ 63) : rdV hi lo t = 2 * rdV hi lo (t + 1) + lo / 2 ^ t % 2 := by
  rw [← rd_bit (hi := hi) ht]
  unfold rdV
  rw [Nat.pow_succ, ← Nat.div_div_eq_div_mul]
  omega
theorem rdV_top {hi lo : Nat} (hl : lo ≤ 18446744073709551615) : rdV hi lo 64 = hi := by
  have e64 : (2 : Nat) ^ 64 = 18446744073709551616 := by decide
  unfold rdV
  rw [e64]
  omega
theorem rdQ_lt {hi lo d t : Nat} (hh : hi < d) (hl : lo ≤ 18446744073709551615) : rdV hi lo t / d < 18446744073709551616 := by
  refine Nat.div_lt_of_lt_mul ?_
  have h1 : rdV hi lo t ≤ hi * 18446744073709551616 + lo := Nat.div_le_self _ _
  have h2 : (hi + 1) * 18446744073709551616 ≤ d * 18446744073709551616 := Nat.mul_le_mul_right _ hh
  omega
abbrev rdSt (hi lo d t : Nat) : List Int := [(hi : Int), lo, d, (rdV hi lo 0 / d : Nat), (rdV hi lo 0 % d : Nat), (rdV hi lo t / d : Nat), (rdV hi lo t % d : Nat), (t : Int) - 1]
theorem rd_in {hi lo d t : Nat} (hh : hi < d) (hd : d ≤ 18446744073709551615) (hl : lo ≤ 18446744073709551615) (ht : t ≤ 64) {ρ : Env} {bs : List Bool} : AllIn (ρ.on (rdSt hi lo d t) bs).i rdRx 0 := by
  have q0 := rdQ_lt (t := 0) hh hl
  have q1 := rdQ_lt (t := t) hh hl
  have r0 := Nat.mod_lt (rdV hi lo 0) (show 0 < d by omega)
  have r1 := Nat.mod_lt (rdV hi lo t) (show 0 < d by omega)
  show ((0 : Int) ≤ (hi : Int) ∧ (hi : Int) ≤ 18446744073709551615) ∧ ((0 : Int) ≤ (lo : Int) ∧ (lo : Int) ≤ 18446744073709551615) ∧ ((1 : Int) ≤ (d : Int) ∧ (d : Int) ≤ 18446744073709551615) ∧ ((0 : Int) ≤ ((rdV hi lo 0 / d : Nat) : Int) ∧ ((rdV hi lo 0 / d : Nat) : Int) ≤ 18446744073709551615) ∧ ((0 : Int) ≤ ((rdV hi lo 0 % d : Nat) : Int) ∧ ((rdV hi lo 0 % d : Nat) : Int) ≤ 18446744073709551615) ∧ ((0 : Int) ≤ ((rdV hi lo t / d : Nat) : Int) ∧ ((rdV hi lo t / d : Nat) : Int) ≤ 18446744073709551615) ∧ ((0 : Int) ≤ ((rdV hi lo t % d : Nat) : Int) ∧ ((rdV hi lo t % d : Nat) : Int) ≤ 18446744073709551615) ∧ ((-1 : Int) ≤ (t : Int) - 1 ∧ (t : Int) - 1 ≤ 63) ∧ True
  generalize rdV hi lo 0 / d = x1 at *
  generalize rdV hi lo 0 % d = x2 at *
  generalize rdV hi lo t / d = x3 at *
  generalize rdV hi lo t % d = x4 at *
  exact ⟨by omega, by omega, by omega, by omega, by omega, by omega, by omega, by omega, trivial⟩
theorem or_one {q : Nat} (h : 2 * q + 1 < 18446744073709551616) : arI .or .u64 (arI .shl .u64 (q : Int) 1) 1 = ((2 * q + 1 : Nat) : Int) := by
  rw [shl1, or1 (by omega) (by omega) (by omega)]; omega
theorem rd_next {hi lo d t : Nat} (hh : hi < d) (hd : d ≤ 18446744073709551615) (hl : lo ≤ 18446744073709551615) (ht : t < 64) {ρ : Env} : rdT.next (ρ.on (rdSt hi lo d (t + 1)) []) = some (rdSt hi lo d t, []) := by
  have hs := rdV_step (hi := hi) (lo := lo) (t := t) (by omega)
  have hb : lo / 2 ^ t % 2 ≤ 1 := by omega
  have hQ := rdQ_lt (t := t) hh hl
  have hr := Nat.mod_lt (rdV hi lo (t + 1)) (show 0 < d by omega)
  have f0 : ¬ (((t + 1 : Nat) : Int) - 1 < 0) := by omega
  have esh : arI .shr .u64 (lo : Int) (((t + 1 : Nat) : Int) - 1) = ((lo / 2 ^ t : Nat) : Int) := by
    rw [show (((t + 1 : Nat) : Int) - 1) = ((t : Nat) : Int) by omega, shrW _ t (by omega)]
    rw [show ((2 : Int) ^ t) = ((2 ^ t : Nat) : Int) from (Int.natCast_pow 2 t).symm]
    exact (Int.natCast_ediv lo (2 ^ t)).symm
  have hq : lo / 2 ^ t ≤ lo := Nat.div_le_self _ _
  have eand : arI .and .u64 ((lo / 2 ^ t : Nat) : Int) 1 = ((lo / 2 ^ t % 2 : Nat) : Int) := and1N (Nat.le_trans hq hl)
  have e63 : arI .and .u64 (arI .shr .u64 ((rdV hi lo (t + 1) % d : Nat) : Int) 63) 1 = ((rdV hi lo (t + 1) % d / 9223372036854775808 : Nat) : Int) := by
    have h63 : arI .shr .u64 ((rdV hi lo (t + 1) % d : Nat) : Int) 63 = ((rdV hi lo (t + 1) % d / 9223372036854775808 : Nat) : Int) := by
      have := shrW ((rdV hi lo (t + 1) % d : Nat) : Int) 63 (by decide)
      rw [show (((63 : Nat) : Int)) = 63 from rfl] at this
      rw [this, show ((2 : Int) ^ 63) = ((9223372036854775808 : Nat) : Int) by decide]
      exact (Int.natCast_ediv _ _).symm
    rw [h63, and1N (by omega)]
    congr 1; omega
  have er : arI .or .u64 (arI .shl .u64 ((rdV hi lo (t + 1) % d : Nat) : Int) 1) ((lo / 2 ^ t % 2 : Nat) : Int) = ((2 * (rdV hi lo (t + 1) % d) % 18446744073709551616 + lo / 2 ^ t % 2 : Nat) : Int) := by
    rw [shl1, or1 (by omega) (by omega) (by omega)]; omega
  have e : rdT.next (ρ.on (rdSt hi lo d (t + 1)) []) = cond (decide (((t + 1 : Nat) : Int) - 1 < 0)) none (cond (arI .and .u64 (arI .shr .u64 ((rdV hi lo (t + 1) % d : Nat) : Int) 63) 1 == 1)
      (some ([(hi : Int), lo, d, (rdV hi lo 0 / d : Nat), (rdV hi lo 0 % d : Nat), arI .or .u64 (arI .shl .u64 ((rdV hi lo (t + 1) / d : Nat) : Int) 1) 1, arI .sub .u64 (arI .or .u64 (arI .shl .u64 ((rdV hi lo (t + 1) % d : Nat) : Int) 1) (arI .and .u64 (arI .shr .u64 (lo : Int) (((t + 1 : Nat) : Int) - 1)) 1)) (d : Int), ((t + 1 : Nat) : Int) - 1 - 1], []))
      (cond (decide (arI .or .u64 (arI .shl .u64 ((rdV hi lo (t + 1) % d : Nat) : Int) 1) (arI .and .u64 (arI .shr .u64 (lo : Int) (((t + 1 : Nat) : Int) - 1)) 1) < (d : Int)))
        (some ([(hi : Int), lo, d, (rdV hi lo 0 / d : Nat), (rdV hi lo 0 % d : Nat), arI .shl .u64 ((rdV hi lo (t + 1) / d : Nat) : Int) 1, arI .or .u64 (arI .shl .u64 ((rdV hi lo (t + 1) % d : Nat) : Int) 1) (arI .and .u64 (arI .shr .u64 (lo : Int) (((t + 1 : Nat) : Int) - 1)) 1), ((t + 1 : Nat) : Int) - 1 - 1], []))
        (some ([(hi : Int), lo, d, (rdV hi lo 0 / d : Nat), (rdV hi lo 0 % d : Nat), arI .or .u64 (arI .shl .u64 ((rdV hi lo (t + 1) / d : Nat) : Int) 1) 1, arI .sub .u64 (arI .or .u64 (arI .shl .u64 ((rdV hi lo (t + 1) % d : Nat) : Int) 1) (arI .and .u64 (arI .shr .u64 (lo : Int) (((t + 1 : Nat) : Int) - 1)) 1)) (d : Int), ((t + 1 : Nat) : Int) - 1 - 1], [])))) := rfl
  rw [e, esh, eand, e63, er, decide_eq_false f0, cond_false, show ((t + 1 : Nat) : Int) - 1 - 1 = (t : Int) - 1 by omega]
  generalize hbb : lo / 2 ^ t % 2 = b at *
  generalize hV : rdV hi lo (t + 1) = V at *
  by_cases hbig : 9223372036854775808 ≤ V % d
  · obtain ⟨g1, g2⟩ := dv_ge (V := V) (d := d) (b := b) (by omega) hb (by omega)
    rw [← hs] at g1 g2
    rw [show (((V % d / 9223372036854775808 : Nat) : Int) == 1) = true from beq_iff_eq.2 (by omega), cond_true, or_one (by omega), subW]
    unfold rdSt
    have hx : (((2 * (V % d) % 18446744073709551616 + b : Nat) : Int) - (d : Int)) % 18446744073709551616 = ((2 * (V % d) + b - d : Nat) : Int) := by
      clear er e63 e esh eand
      omega
    rw [g1, g2, hx]
  · rw [show (((V % d / 9223372036854775808 : Nat) : Int) == 1) = false from beq_false_of_ne (by omega), cond_false]
    by_cases hlt : 2 * (V % d) + b < d
    · obtain ⟨g1, g2⟩ := dv_lt (V := V) (d := d) (b := b) (by omega) hlt
      rw [← hs] at g1 g2
      rw [decide_eq_true (by omega), cond_true, shl1]
      unfold rdSt
      rw [g1, g2]
      rw [show ((V / d : Nat) : Int) * 2 % 18446744073709551616 = ((2 * (V / d) : Nat) : Int) by omega, show ((2 * (V % d) % 18446744073709551616 + b : Nat) : Int) = ((2 * (V % d) + b : Nat) : Int) by omega]
    · obtain ⟨g1, g2⟩ := dv_ge (V := V) (d := d) (b := b) (by omega) hb (by omega)
      rw [← hs] at g1 g2
      rw [decide_eq_false (by omega), cond_false, or_one (by omega), subW]
      unfold rdSt
      have hx : (((2 * (V % d) % 18446744073709551616 + b : Nat) : Int) - (d : Int)) % 18446744073709551616 = ((2 * (V % d) + b - d : Nat) : Int) := by
        clear er e63 e esh eand
        omega
      rw [g1, g2, hx]
theorem rd_loop {hi lo d : Nat} (hh : hi < d) (hd : d ≤ 18446744073709551615) (hl : lo ≤ 18446744073709551615) {E : List (Nat × Nat)} {cd : Code} (hc : codeAt Try.prog 101 rdP = .loop cd) : LoopGoes Try.prog (envOf [(hi : Int), lo, d, (rdV hi lo 0 / d : Nat), (rdV hi lo 0 % d : Nat)] (ap := apN)) E rdL cd := by
  refine rt_lpg mixed rd_B hc (fun n is bs => ∃ t : Nat, n = t ∧ t ≤ 64 ∧ is = rdSt hi lo d t ∧ bs = []) ?_ ?_ ?_ ?_
  · rintro n is bs ⟨t, rfl, ht, rfl, rfl⟩
    exact knows_env rfl (rd_in hh hd hl ht) (fun f v h => by cases h)
  · rintro n is bs ⟨t, rfl, ht, rfl, rfl⟩ E
    exact knowsC_none rfl rfl rfl
  · refine ⟨64, _, _, ⟨64, rfl, Nat.le_refl _, rfl, rfl⟩, ?_, List.prefix_rfl⟩
    refine ⟨[], ?_⟩
    rw [List.append_nil]
    show [(hi : Int), lo, d, (rdV hi lo 0 / d : Nat), (rdV hi lo 0 % d : Nat), 0, (hi : Int), 63] = rdSt hi lo d 64
    unfold rdSt
    rw [rdV_top hl, Nat.div_eq_of_lt hh, Nat.mod_eq_of_lt hh]
    rfl
  · rintro n is bs ⟨t, rfl, ht, rfl, rfl⟩
    cases n with
    | zero =>
      right
      refine ⟨[(hi : Int), lo, d, (rdV hi lo 0 / d : Nat), (rdV hi lo 0 % d : Nat)], [], rfl, ?_⟩
      exact envOf_has_pre List.prefix_rfl List.prefix_rfl
    | succ t =>
      left
      exact ⟨_, _, t, _, _, rd_next hh hd hl (by omega), by omega, ⟨t, rfl, by omega, rfl, rfl⟩, List.prefix_rfl, List.prefix_rfl⟩
def rdLp (f : FuncId) (p : List Nat) (_ : Nat) : Option LoopSum := if Nat.beq f 101 && decide (p = rdP) then some rdL else none
theorem rdiv_any (hi lo d : Int) (h0 : InU hi) (h1 : InU lo) (h2 : InU d) (w : World) :
    Calls Try.prog 101 #[.int .u64 hi, .int .u64 lo, .int .u64 d] w fun e w' => e = .returned (.tuple #[.int .u64 (apN 5 hi lo d), .int .u64 (apN 6 hi lo d), .bool (decide (hi < d))]) ∧ Below w.heap.size w w' := by
  by_cases hh : hi < d
  · obtain ⟨a, rfl⟩ := Int.eq_ofNat_of_zero_le h0.1
    obtain ⟨b, rfl⟩ := Int.eq_ofNat_of_zero_le h1.1
    obtain ⟨c, rfl⟩ := Int.eq_ofNat_of_zero_le h2.1
    have hac : a < c := by omega
    have hc' : c ≤ 18446744073709551615 := by have := h2.2; omega
    have hb' : b ≤ 18446744073709551615 := by have := h1.2; omega
    have q0 := rdQ_lt (t := 0) hac hb'
    have r0 := Nat.mod_lt (rdV a b 0) (show 0 < c by omega)
    have h := tree_sound (P := Try.prog) mixed (ρ := envOf [(a : Int), b, c, (rdV a b 0 / c : Nat), (rdV a b 0 % c : Nat)] (ap := apN)) (n := 400) (f := 101) (args := [.int .u64 (.var 0), .int .u64 (.var 1), .int .u64 (.var 2)]) (.node (.cmp .lss (.var 0) (.var 2)) (.leaf (.tuple [.int .u64 (.var 3), .int .u64 (.var 4), .bool (.lit true)])) .dead) (X := { pc := [], rg := rdR, lp := rdLp })
      (knows_env rfl ⟨by show (0 : Int) ≤ (a : Int) ∧ (a : Int) ≤ 18446744073709551615; omega, by show (0 : Int) ≤ (b : Int) ∧ (b : Int) ≤ 18446744073709551615; omega, by show (1 : Int) ≤ (c : Int) ∧ (c : Int) ≤ 18446744073709551615; omega, by show (0 : Int) ≤ ((rdV a b 0 / c : Nat) : Int) ∧ ((rdV a b 0 / c : Nat) : Int) ≤ 18446744073709551615; exact ⟨Int.natCast_nonneg _, by omega⟩, by show (0 : Int) ≤ ((rdV a b 0 % c : Nat) : Int) ∧ ((rdV a b 0 % c : Nat) : Int) ≤ 18446744073709551615; exact ⟨Int.natCast_nonneg _, by omega⟩, trivial⟩ (fun f v h => by cases h))
      ⟨fun q hq => (by cases hq), fun pc _ f vs v h => (by cases h), fun f p u L h cc hcc _ => (by
        replace h : rdLp f p u = some L := h
        unfold rdLp at h
        split at h
        · rename_i hx
          simp only [Bool.and_eq_true, Nat.beq_eq, decide_eq_true_eq] at hx
          obtain ⟨rfl, rfl⟩ := hx
          cases h
          exact rd_loop hac hc' hb' hcc
        · cases h)⟩ (Tree.ok_of_check (by kernel_rfl)) (by show cond (decide ((a : Int) < (c : Int))) true false = true; rw [decide_eq_true hh]; rfl) w
    have e : (Tree.node (.cmp .lss (.var 0) (.var 2)) (.leaf (.tuple [.int .u64 (.var 3), .int .u64 (.var 4), .bool (.lit true)])) .dead).val (envOf [(a : Int), b, c, (rdV a b 0 / c : Nat), (rdV a b 0 % c : Nat)] (ap := apN)) = .tuple #[.int .u64 (apN 5 a b c), .int .u64 (apN 6 a b c), .bool (decide ((a : Int) < (c : Int)))] := by
      show cond (decide ((a : Int) < (c : Int))) (Value.tuple #[.int .u64 ((rdV a b 0 / c : Nat) : Int), .int .u64 ((rdV a b 0 % c : Nat) : Int), .bool true]) undef = _
      have d5 : apN 5 a b c = ((rdV a b 0 / c : Nat) : Int) := by
        show (if (a : Int) < (c : Int) then max 0 (min (((a : Int) * 18446744073709551616 + b) / c) 18446744073709551615) else 0) = _
        rw [if_pos hh]
        have : ((a : Int) * 18446744073709551616 + b) / c = ((rdV a b 0 / c : Nat) : Int) := by
          unfold rdV
          rw [Nat.pow_zero, Nat.div_one, Int.natCast_ediv, Int.natCast_add, Int.natCast_mul]
          rfl
        rw [this]
        clear this
        generalize rdV a b 0 / c = z at q0 ⊢
        omega
      have d6 : apN 6 a b c = ((rdV a b 0 % c : Nat) : Int) := by
        show (if (a : Int) < (c : Int) then max 0 (min (((a : Int) * 18446744073709551616 + b) % c) 18446744073709551615) else 0) = _
        rw [if_pos hh]
        have : ((a : Int) * 18446744073709551616 + b) % c = ((rdV a b 0 % c : Nat) : Int) := by
          unfold rdV
          rw [Nat.pow_zero, Nat.div_one, Int.natCast_emod, Int.natCast_add, Int.natCast_mul]
          rfl
        rw [this]
        clear this
        generalize rdV a b 0 % c = z at r0 ⊢
        omega
      rw [d5, d6, decide_eq_true hh]
      rfl
    rw [e] at h
    exact h
  · have h := tree_sound (P := Try.prog) mixed (ρ := envOf [hi, lo, d]) (n := 400) (f := 101) (args := [.int .u64 (.var 0), .int .u64 (.var 1), .int .u64 (.var 2)]) (.node (.cmp .lss (.var 0) (.var 2)) .dead (.leaf (.tuple [.int .u64 (.lit 0), .int .u64 (.lit 0), .bool (.lit false)]))) (X := { pc := [], rg := [u64Q, u64Q, u64Q] })
      (knows_env rfl ⟨h0, h1, h2, trivial⟩ (fun f v h => by cases h)) (knowsC_none rfl rfl rfl) (Tree.ok_of_check (by kernel_rfl)) (by show cond (decide (hi < d)) false true = true; rw [decide_eq_false hh]; rfl) w
    have e : (Tree.node (.cmp .lss (.var 0) (.var 2)) .dead (.leaf (.tuple [.int .u64 (.lit 0), .int .u64 (.lit 0), .bool (.lit false)]))).val (envOf [hi, lo, d]) = .tuple #[.int .u64 (apN 5 hi lo d), .int .u64 (apN 6 hi lo d), .bool (decide (hi < d))] := by
      show cond (decide (hi < d)) undef (Value.tuple #[.int .u64 0, .int .u64 0, .bool false]) = _
      have d5 : apN 5 hi lo d = 0 := if_neg hh
      have d6 : apN 6 hi lo d = 0 := if_neg hh
      rw [d5, d6, decide_eq_false hh]
      rfl
    rw [e] at h
    exact h
noncomputable def rdivCon : Con := ⟨101, [.u64, .u64, .u64], fun es => match es with | [a, b, c] => .tuple [.int .u64 (mkAp 5 a b c), .int .u64 (mkAp 6 a b c), .bool (mkCmp .lss a c)] | _ => .any⟩
theorem rdivCon_ok {ρ : Env} (ha : NumA ρ) : rdivCon.holds Try.prog ρ := by
  intro es hi φ w
  match es, hi with
  | [e, d, g], hi =>
    obtain ⟨h0, h1, h2, _⟩ := hi
    refine (rdiv_any (e.den ρ) (d.den ρ) (g.den ρ) h0 h1 h2 w).mono ?_
    rintro e' w' ⟨rfl, hb⟩
    refine ⟨?_, hb⟩
    simp only [rdivCon, SV.den, SV.denL, mkAp_den ha (show 5 < 20 by decide), mkAp_den ha (show 6 < 20 by decide), mkCmp_den]
    rfl
end Go.Proofs.Ytopgidgkpafeeaa
