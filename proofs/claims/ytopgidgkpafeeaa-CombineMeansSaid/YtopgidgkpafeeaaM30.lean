/- The document's root, bit by bit. -/
import Derived.Test.YtopgidgkpafeeaaM29
namespace Go.Proofs.Ytopgidgkpafeeaa
open Go Go.RowKit Ev
set_option linter.unusedVariables false
set_option linter.unusedSimpArgs false
set_option maxRecDepth 100000
set_option maxHeartbeats 0
def rqL : LoopSum := ⟨[(.int .u64 (.var 0)), (.int .u64 (.var 1)), (.raw (.tuple #[])), (.raw (.tuple #[])), (.int .u64 (.lit 0)), (.int .u64 (.lit 0)), (.int .i64 (.lit 63)), (.raw (.tuple #[])), (.raw (.tuple #[])), (.raw (.tuple #[])), (.raw (.tuple #[])), (.raw (.tuple #[])), (.raw (.tuple #[])), (.raw (.tuple #[])), (.raw (.tuple #[])), (.raw (.tuple #[])), (.raw (.tuple #[])), (.raw (.tuple #[])), (.raw (.tuple #[])), (.raw (.tuple #[])), (.raw (.tuple #[])), (.raw (.tuple #[])), (.raw (.tuple #[])), (.raw (.tuple #[])), (.raw (.tuple #[])), (.raw (.tuple #[])), (.raw (.tuple #[])), (.raw (.tuple #[])), (.raw (.tuple #[])), (.raw (.tuple #[])), (.raw (.tuple #[])), (.raw (.tuple #[]))], [],
  (.exit 0), [(.int .u64 (.var 0)), (.int .u64 (.var 1)), (.raw (.tuple #[])), (.raw (.tuple #[])), (.int .u64 (.lit 0)), (.int .u64 (.var 2)), .any, .any, .any, .any, .any, .any, .any, .any, .any, .any, .any, .any, .any, .any, .any, .any, .any, .any, .any, .any, .any, .any, .any, .any, .any, (.raw (.tuple #[]))], []⟩
def rqH : St := ⟨Tm.ofL [(.int .u64 (.var 0)), (.int .u64 (.var 1)), (.raw (.tuple #[])), (.raw (.tuple #[])), (.int .u64 (.lit 0)), (.int .u64 (.var 3)), (.int .i64 (.var 4)), .any, .any, .any, .any, .any, .any, .any, .any, .any, .any, .any, .any, .any, .any, .any, .any, .any, .any, .any, .any, .any, .any, .any, .any, (.raw (.tuple #[]))], []⟩
def rqE : List IE := [(.var 0), (.var 1), (.var 2), (.lit 0), (.lit 63)]
def rqB : List BE := []
def rqT : RT :=
(.node (.cmp .lss (.var 4) (.lit 0))
 (.stop [(.var 0), (.var 1), (.var 3)] [])
 (.node (.cmp .lss (.var 0) (.var 6))
 (.go [(.var 0), (.var 1), (.var 2), (.var 3), (.pl .sub (.var 4) (.lit 1))] [])
 (.node (.cmp .eql (.var 0) (.var 6))
 (.node (.cmp .lss (.var 1) (.var 7))
 (.go [(.var 0), (.var 1), (.var 2), (.var 3), (.pl .sub (.var 4) (.lit 1))] [])
 (.go [(.var 0), (.var 1), (.var 2), (.var 5), (.pl .sub (.var 4) (.lit 1))] []))
 (.go [(.var 0), (.var 1), (.var 2), (.var 5), (.pl .sub (.var 4) (.lit 1))] []))))
abbrev rqP : List Nat := [0, 1, 0, 1, 1]
abbrev rqR : List (Int × Int) := [u64Q, u64Q, u64Q]
abbrev rqRx : List (Int × Int) := rqR ++ [u64Q, (-1, 63), u64Q, u64Q, u64Q]
abbrev rqK : List (FuncId × List SV × SV) := [(93, [.int .u64 (.var 5), .int .u64 (.var 5)], .tuple [.int .u64 (.var 6), .int .u64 (.var 7)])]
def rqX : Ctx := { pc := [], cr := rqK, rg := rqRx, nm := [(.ar .or .u64 (.var 3) (.ar .shl .u64 (.lit 1) (.var 4)), .var 5)] }
theorem rq_B : lpB Try.prog rqX 400 103 rqP 3 rqL rqH rqT rqE rqB = true := by kernel_rfl
/-- what is tried -/
def rqM (n t : Nat) : Int := arI .or .u64 (n : Int) (arI .shl .u64 1 ((t : Int) - 1))
theorem rqM_in {n t : Nat} : 0 ≤ rqM n t ∧ rqM n t ≤ 18446744073709551615 := by
  have := wrap_bounds .u64 ((BitVec.ofInt 64 (n : Int) ||| BitVec.ofInt 64 (arI .shl .u64 1 ((t : Int) - 1))).toNat : Int)
  exact this
theorem rqM_eq {n t : Nat} (ht : t ≤ 63) (hn : n < 18446744073709551616) (hd : n % 2 ^ (t + 1) = 0) : rqM n (t + 1) = ((n + 2 ^ t : Nat) : Int) := by
  unfold rqM
  have e64 : (2 : Nat) ^ 64 = 18446744073709551616 := by decide
  have hp : (2 : Nat) ^ t < 18446744073709551616 := by
    rw [← e64]; exact Nat.pow_lt_pow_right (by decide) (by omega)
  have es : arI .shl .u64 1 (((t + 1 : Nat) : Int) - 1) = ((2 ^ t : Nat) : Int) := by
    rw [show (((t + 1 : Nat) : Int) - 1) = ((t : Nat) : Int) by omega, shlW 1 t (by omega), show ((2 : Int) ^ t) = ((2 ^ t : Nat) : Int) from (Int.natCast_pow 2 t).symm]
    omega
  have e2 : ((2 : Int) ^ (t + 1)) = ((2 ^ (t + 1) : Nat) : Int) := (Int.natCast_pow 2 (t + 1)).symm
  have h2 : (2 : Nat) ^ (t + 1) = 2 * 2 ^ t := Nat.pow_succ'
  have hpp : 0 < (2 : Nat) ^ t := Nat.pow_pos (by decide)
  rw [es, orW (t + 1) (by omega) (by omega) (by rw [e2]; omega) (by rw [e2]; omega)]
  omega
/-- so far it is the root: its bits from the t-th on -/
structure RQ (V n t : Nat) : Prop where
  le : n * n ≤ V
  lt : V < (n + 2 ^ t) * (n + 2 ^ t)
  dv : n % 2 ^ t = 0
theorem RQ.small {V n t : Nat} (h : RQ V n t) (hV : V < 340282366920938463463374607431768211456) : n < 18446744073709551616 := by
  refine Nat.lt_of_not_le fun hh => ?_
  have := Nat.mul_le_mul hh hh
  have := h.le
  omega
theorem RQ.keep {V n t : Nat} (h : RQ V n (t + 1)) (hl : V < (n + 2 ^ t) * (n + 2 ^ t)) : RQ V n t := by
  refine ⟨h.le, hl, ?_⟩
  have := h.dv
  have h2 : (2 : Nat) ^ (t + 1) = 2 ^ t * 2 := Nat.pow_succ _ _
  rw [h2] at this
  exact Nat.mod_eq_zero_of_dvd (Nat.dvd_trans (Nat.dvd_mul_right _ _) (Nat.dvd_of_mod_eq_zero this))
theorem RQ.take {V n t : Nat} (h : RQ V n (t + 1)) (hl : ¬ V < (n + 2 ^ t) * (n + 2 ^ t)) : RQ V (n + 2 ^ t) t := by
  have h2 : (2 : Nat) ^ (t + 1) = 2 ^ t + 2 ^ t := by rw [Nat.pow_succ]; omega
  have hlt := h.lt
  rw [h2, ← Nat.add_assoc] at hlt
  refine ⟨by omega, hlt, ?_⟩
  have := h.dv
  rw [show (2 : Nat) ^ (t + 1) = 2 ^ t * 2 from Nat.pow_succ _ _] at this
  rw [Nat.add_mod_right]
  exact Nat.mod_eq_zero_of_dvd (Nat.dvd_trans (Nat.dvd_mul_right _ _) (Nat.dvd_of_mod_eq_zero this))
noncomputable abbrev rqSt (hi lo n t : Nat) : List Int := [(hi : Int), lo, (isq (hi * 18446744073709551616 + lo) : Nat), (n : Int), (t : Int) - 1, rqM n t, rqM n t * rqM n t / 18446744073709551616, rqM n t * rqM n t % 18446744073709551616]
theorem isq_u64 {V : Nat} (hV : V < 340282366920938463463374607431768211456) : isq V < 18446744073709551616 := by
  have h := isq_spec (V := V) (by rw [show (4 : Nat) ^ 64 = 340282366920938463463374607431768211456 by decide]; exact hV)
  refine Nat.lt_of_not_le fun hh => ?_
  have := Nat.mul_le_mul hh hh
  omega
theorem rqV_lt {hi lo : Nat} (hh : hi ≤ 18446744073709551615) (hl : lo ≤ 18446744073709551615) : hi * 18446744073709551616 + lo < 340282366920938463463374607431768211456 := by omega
theorem rq_in {hi lo n t : Nat} (hh : hi ≤ 18446744073709551615) (hl : lo ≤ 18446744073709551615) (ht : t ≤ 64) (hn : n < 18446744073709551616) {ρ : Env} {bs : List Bool} : AllIn (ρ.on (rqSt hi lo n t) bs).i rqRx 0 := by
  have hq := isq_u64 (rqV_lt hh hl)
  have hm := rqM_in (n := n) (t := t)
  have hmm : 0 ≤ rqM n t * rqM n t ∧ rqM n t * rqM n t ≤ 18446744073709551615 * 18446744073709551615 := ⟨Int.mul_nonneg hm.1 hm.1, Int.mul_le_mul hm.2 hm.2 hm.1 (by decide)⟩
  show ((0 : Int) ≤ (hi : Int) ∧ (hi : Int) ≤ 18446744073709551615) ∧ ((0 : Int) ≤ (lo : Int) ∧ (lo : Int) ≤ 18446744073709551615) ∧ ((0 : Int) ≤ ((isq (hi * 18446744073709551616 + lo) : Nat) : Int) ∧ ((isq (hi * 18446744073709551616 + lo) : Nat) : Int) ≤ 18446744073709551615) ∧ ((0 : Int) ≤ (n : Int) ∧ (n : Int) ≤ 18446744073709551615) ∧ ((-1 : Int) ≤ (t : Int) - 1 ∧ (t : Int) - 1 ≤ 63) ∧ (0 ≤ rqM n t ∧ rqM n t ≤ 18446744073709551615) ∧ (0 ≤ rqM n t * rqM n t / 18446744073709551616 ∧ rqM n t * rqM n t / 18446744073709551616 ≤ 18446744073709551615) ∧ (0 ≤ rqM n t * rqM n t % 18446744073709551616 ∧ rqM n t * rqM n t % 18446744073709551616 ≤ 18446744073709551615) ∧ True
  generalize isq (hi * 18446744073709551616 + lo) = q at *
  generalize rqM n t * rqM n t = p at *
  exact ⟨by omega, by omega, by omega, by omega, by omega, by omega, by omega, by omega, trivial⟩
theorem rq_next {hi lo n t : Nat} (hh : hi ≤ 18446744073709551615) (hl : lo ≤ 18446744073709551615) (ht : t < 64) (h : RQ (hi * 18446744073709551616 + lo) n (t + 1)) {ρ : Env} : ∃ n', RQ (hi * 18446744073709551616 + lo) n' t ∧ rqT.next (ρ.on (rqSt hi lo n (t + 1)) []) = some ([(hi : Int), lo, (isq (hi * 18446744073709551616 + lo) : Nat), (n' : Int), (t : Int) - 1], []) := by
  have hn := h.small (rqV_lt hh hl)
  have em := rqM_eq (n := n) (t := t) (by omega) hn h.dv
  have f0 : ¬ (((t + 1 : Nat) : Int) - 1 < 0) := by omega
  have e : rqT.next (ρ.on (rqSt hi lo n (t + 1)) []) = cond (decide (((t + 1 : Nat) : Int) - 1 < 0)) none
      (cond (decide ((hi : Int) < rqM n (t + 1) * rqM n (t + 1) / 18446744073709551616)) (some ([(hi : Int), lo, (isq (hi * 18446744073709551616 + lo) : Nat), (n : Int), ((t + 1 : Nat) : Int) - 1 - 1], []))
        (cond ((hi : Int) == rqM n (t + 1) * rqM n (t + 1) / 18446744073709551616)
          (cond (decide ((lo : Int) < rqM n (t + 1) * rqM n (t + 1) % 18446744073709551616)) (some ([(hi : Int), lo, (isq (hi * 18446744073709551616 + lo) : Nat), (n : Int), ((t + 1 : Nat) : Int) - 1 - 1], []))
            (some ([(hi : Int), lo, (isq (hi * 18446744073709551616 + lo) : Nat), rqM n (t + 1), ((t + 1 : Nat) : Int) - 1 - 1], [])))
          (some ([(hi : Int), lo, (isq (hi * 18446744073709551616 + lo) : Nat), rqM n (t + 1), ((t + 1 : Nat) : Int) - 1 - 1], [])))) := rfl
  rw [e, em, decide_eq_false f0, cond_false, show ((t + 1 : Nat) : Int) - 1 - 1 = (t : Int) - 1 by omega]
  have hsq : ((n + 2 ^ t : Nat) : Int) * ((n + 2 ^ t : Nat) : Int) = (((n + 2 ^ t) * (n + 2 ^ t) : Nat) : Int) := (Int.natCast_mul _ _).symm
  rw [hsq]
  have keep := h.keep
  have take := h.take
  generalize (n + 2 ^ t) * (n + 2 ^ t) = S at keep take
  generalize n + 2 ^ t = m at take
  generalize isq (hi * 18446744073709551616 + lo) = q
  by_cases h1 : (hi : Int) < (S : Int) / 18446744073709551616
  · rw [decide_eq_true h1, cond_true]
    exact ⟨n, keep (by omega), rfl⟩
  · rw [decide_eq_false h1, cond_false]
    by_cases h2 : (hi : Int) = (S : Int) / 18446744073709551616
    · rw [beq_iff_eq.2 h2, cond_true]
      by_cases h3 : (lo : Int) < (S : Int) % 18446744073709551616
      · rw [decide_eq_true h3, cond_true]
        exact ⟨n, keep (by omega), rfl⟩
      · rw [decide_eq_false h3, cond_false]
        exact ⟨m, take (by omega), rfl⟩
    · rw [beq_false_of_ne h2, cond_false]
      exact ⟨m, take (by omega), rfl⟩
theorem rq_loop {hi lo : Nat} (hh : hi ≤ 18446744073709551615) (hl : lo ≤ 18446744073709551615) {E : List (Nat × Nat)} {cd : Code} (hc : codeAt Try.prog 103 rqP = .loop cd) : LoopGoes Try.prog (envOf [(hi : Int), lo, (isq (hi * 18446744073709551616 + lo) : Nat)] (ap := apN)) E rqL cd := by
  have hV := rqV_lt hh hl
  have e64 : (2 : Nat) ^ 64 = 18446744073709551616 := by decide
  refine rt_lpg mixed rq_B hc (fun k is bs => ∃ t n : Nat, k = t ∧ t ≤ 64 ∧ RQ (hi * 18446744073709551616 + lo) n t ∧ is = rqSt hi lo n t ∧ bs = []) ?_ ?_ ?_ ?_
  · rintro k is bs ⟨t, n, rfl, ht, hR, rfl, rfl⟩
    refine knows_env rfl (rq_in hh hl ht (hR.small hV)) (fun f v h => by cases h) (hnm := fun p hp => ?_)
    obtain rfl := List.mem_singleton.1 hp
    rfl
  · rintro k is bs ⟨t, n, rfl, ht, hR, rfl, rfl⟩ E
    refine ⟨fun q hq φ w _ => ?_, fun pc _ f vs v h => (by cases h), fun f p u L h => (by cases h)⟩
    obtain rfl := List.mem_singleton.1 hq
    have hm := rqM_in (n := n) (t := k)
    exact rmul_any (rqM n k) (rqM n k) hm hm w
  · refine ⟨64, _, _, ⟨64, 0, rfl, Nat.le_refl _, ⟨Nat.zero_le _, by rw [Nat.zero_add, e64]; omega, by rw [Nat.zero_mod]⟩, rfl, rfl⟩, ?_, List.prefix_rfl⟩
    exact ⟨[_, _, _], rfl⟩
  · rintro k is bs ⟨t, n, rfl, ht, hR, rfl, rfl⟩
    cases k with
    | zero =>
      right
      have hroot : isq (hi * 18446744073709551616 + lo) = n := by
        refine isq_of (by rw [show (4 : Nat) ^ 64 = 340282366920938463463374607431768211456 by decide]; exact hV) ⟨hR.le, ?_⟩
        have := hR.lt
        rwa [Nat.pow_zero] at this
      refine ⟨[(hi : Int), lo, (n : Int)], [], rfl, ?_⟩
      rw [← hroot]
      exact envOf_has_pre List.prefix_rfl List.prefix_rfl
    | succ t =>
      left
      obtain ⟨n', h1, h2⟩ := rq_next hh hl (by omega) hR (ρ := envOf [(hi : Int), lo, (isq (hi * 18446744073709551616 + lo) : Nat)] (ap := apN))
      exact ⟨_, _, t, _, _, h2, by omega, ⟨t, n', rfl, by omega, h1, rfl, rfl⟩, ⟨[_, _, _], rfl⟩, List.prefix_rfl⟩
def rqLp (f : FuncId) (p : List Nat) (_ : Nat) : Option LoopSum := if Nat.beq f 103 && decide (p = rqP) then some rqL else none
theorem rsqrt_any (hi lo : Int) (h0 : InU hi) (h1 : InU lo) (w : World) :
    Calls Try.prog 103 #[.int .u64 hi, .int .u64 lo] w fun e w' => e = .returned (.int .u64 (apN 7 hi lo 0)) ∧ Below w.heap.size w w' := by
  obtain ⟨a, rfl⟩ := Int.eq_ofNat_of_zero_le h0.1
  obtain ⟨b, rfl⟩ := Int.eq_ofNat_of_zero_le h1.1
  have ha : a ≤ 18446744073709551615 := by have := h0.2; omega
  have hb : b ≤ 18446744073709551615 := by have := h1.2; omega
  have hq := isq_u64 (rqV_lt ha hb)
  have h := tree_sound (P := Try.prog) mixed (ρ := envOf [(a : Int), b, (isq (a * 18446744073709551616 + b) : Nat)] (ap := apN)) (n := 400) (f := 103) (args := [.int .u64 (.var 0), .int .u64 (.var 1)]) (.leaf (.int .u64 (.var 2))) (X := { pc := [], rg := rqR, lp := rqLp })
    (knows_env rfl ⟨h0, h1, ⟨Int.natCast_nonneg _, by show ((isq (a * 18446744073709551616 + b) : Nat) : Int) ≤ 18446744073709551615; omega⟩, trivial⟩ (fun f v h => by cases h))
    ⟨fun q hq => (by cases hq), fun pc _ f vs v h => (by cases h), fun f p u L h cc hcc _ => (by
      replace h : rqLp f p u = some L := h
      unfold rqLp at h
      split at h
      · rename_i hx
        simp only [Bool.and_eq_true, Nat.beq_eq, decide_eq_true_eq] at hx
        obtain ⟨rfl, rfl⟩ := hx
        cases h
        exact rq_loop ha hb hcc
      · cases h)⟩ (Tree.ok_of_check (by kernel_rfl)) rfl w
  have d7 : apN 7 a b 0 = ((isq (a * 18446744073709551616 + b) : Nat) : Int) := by
    show max 0 (min ((isq (((a : Int) * 18446744073709551616 + b)).toNat : Nat) : Int) 18446744073709551615) = _
    rw [show ((a : Int) * 18446744073709551616 + b).toNat = a * 18446744073709551616 + b by omega]
    generalize isq (a * 18446744073709551616 + b) = z at hq ⊢
    omega
  rw [d7]
  exact h
noncomputable def rsqrtCon : Con := ⟨103, [.u64, .u64], fun es => match es with | [a, b] => .int .u64 (mkAp 7 a b (.lit 0)) | _ => .any⟩
theorem rsqrtCon_ok {ρ : Env} (ha : NumA ρ) : rsqrtCon.holds Try.prog ρ := by
  intro es hi φ w
  match es, hi with
  | [e, d], hi =>
    obtain ⟨h0, h1, _⟩ := hi
    refine (rsqrt_any (e.den ρ) (d.den ρ) h0 h1 w).mono ?_
    rintro e' w' ⟨rfl, hb⟩
    refine ⟨?_, hb⟩
    simp only [rsqrtCon, SV.den, mkAp_den ha (show 7 < 20 by decide)]
    rfl
end Go.Proofs.Ytopgidgkpafeeaa
