/- Contracts of fix: Div, Sqrt, Clamp, Abs. -/
import Derived.Test.YthhipnhnpjhaaaaNf
import Derived.Test.YthhipnhnpjhaaaaNe
namespace Go.Proofs.Ythhipnhnpjhaaaa
open Go Go.RowKit Ev
set_option linter.unusedVariables false
set_option linter.unusedSimpArgs false
set_option maxRecDepth 100000

def divT : Tree :=
(.node (.cmp .lss (.var 0) (.lit 0))
 (.node (.cmp .lss (.var 1) (.lit 0))
 (.node (.cmp .lss (.ar .shr .u64 (.ar .sub .u64 (.lit 0) (.wr .u64 (.var 0))) (.lit 32)) (.ar .sub .u64 (.lit 0) (.wr .u64 (.var 1))))
 (.leaf (.int .i64 (.pl .mul (.lit 1) (.mn (.ap 5 (.ar .shr .u64 (.ar .sub .u64 (.lit 0) (.wr .u64 (.var 0))) (.lit 32)) (.ar .shl .u64 (.ar .sub .u64 (.lit 0) (.wr .u64 (.var 0))) (.lit 32)) (.ar .sub .u64 (.lit 0) (.wr .u64 (.var 1)))) (.lit 9223372036854775807)))))
 (.leaf (.int .i64 (.lit 9223372036854775807))))
 (.node (.cmp .lss (.ar .shr .u64 (.ar .sub .u64 (.lit 0) (.wr .u64 (.var 0))) (.lit 32)) (.var 1))
 (.node (.cmp .lss (.lit 0) (.ap 6 (.ar .shr .u64 (.ar .sub .u64 (.lit 0) (.wr .u64 (.var 0))) (.lit 32)) (.ar .shl .u64 (.ar .sub .u64 (.lit 0) (.wr .u64 (.var 0))) (.lit 32)) (.var 1)))
 (.node (.cmp .lss (.ap 5 (.ar .shr .u64 (.ar .sub .u64 (.lit 0) (.wr .u64 (.var 0))) (.lit 32)) (.ar .shl .u64 (.ar .sub .u64 (.lit 0) (.wr .u64 (.var 0))) (.lit 32)) (.var 1)) (.lit 9223372036854775807))
 (.leaf (.int .i64 (.ar .mul .i64 (.lit (-1)) (.mn (.pl .add (.ap 5 (.ar .shr .u64 (.ar .sub .u64 (.lit 0) (.wr .u64 (.var 0))) (.lit 32)) (.ar .shl .u64 (.ar .sub .u64 (.lit 0) (.wr .u64 (.var 0))) (.lit 32)) (.var 1)) (.lit 1)) (.lit 9223372036854775807)))))
 (.leaf (.int .i64 (.ar .mul .i64 (.lit (-1)) (.mn (.ap 5 (.ar .shr .u64 (.ar .sub .u64 (.lit 0) (.wr .u64 (.var 0))) (.lit 32)) (.ar .shl .u64 (.ar .sub .u64 (.lit 0) (.wr .u64 (.var 0))) (.lit 32)) (.var 1)) (.lit 9223372036854775807))))))
 (.leaf (.int .i64 (.ar .mul .i64 (.lit (-1)) (.mn (.ap 5 (.ar .shr .u64 (.ar .sub .u64 (.lit 0) (.wr .u64 (.var 0))) (.lit 32)) (.ar .shl .u64 (.ar .sub .u64 (.lit 0) (.wr .u64 (.var 0))) (.lit 32)) (.var 1)) (.lit 9223372036854775807))))))
 (.leaf (.int .i64 (.lit (-9223372036854775807))))))
 (.node (.cmp .lss (.var 1) (.lit 0))
 (.node (.cmp .eql (.var 0) (.lit 0))
 (.leaf (.int .i64 (.lit 0)))
 (.node (.cmp .lss (.ar .shr .u64 (.var 0) (.lit 32)) (.ar .sub .u64 (.lit 0) (.wr .u64 (.var 1))))
 (.node (.cmp .lss (.lit 0) (.ap 6 (.ar .shr .u64 (.var 0) (.lit 32)) (.ar .shl .u64 (.var 0) (.lit 32)) (.ar .sub .u64 (.lit 0) (.wr .u64 (.var 1)))))
 (.node (.cmp .lss (.ap 5 (.ar .shr .u64 (.var 0) (.lit 32)) (.ar .shl .u64 (.var 0) (.lit 32)) (.ar .sub .u64 (.lit 0) (.wr .u64 (.var 1)))) (.lit 9223372036854775807))
 (.leaf (.int .i64 (.ar .mul .i64 (.lit (-1)) (.mn (.pl .add (.ap 5 (.ar .shr .u64 (.var 0) (.lit 32)) (.ar .shl .u64 (.var 0) (.lit 32)) (.ar .sub .u64 (.lit 0) (.wr .u64 (.var 1)))) (.lit 1)) (.lit 9223372036854775807)))))
 (.leaf (.int .i64 (.ar .mul .i64 (.lit (-1)) (.mn (.ap 5 (.ar .shr .u64 (.var 0) (.lit 32)) (.ar .shl .u64 (.var 0) (.lit 32)) (.ar .sub .u64 (.lit 0) (.wr .u64 (.var 1)))) (.lit 9223372036854775807))))))
 (.leaf (.int .i64 (.ar .mul .i64 (.lit (-1)) (.mn (.ap 5 (.ar .shr .u64 (.var 0) (.lit 32)) (.ar .shl .u64 (.var 0) (.lit 32)) (.ar .sub .u64 (.lit 0) (.wr .u64 (.var 1)))) (.lit 9223372036854775807))))))
 (.leaf (.int .i64 (.lit (-9223372036854775807))))))
 (.node (.cmp .eql (.var 0) (.lit 0))
 (.leaf (.int .i64 (.lit 0)))
 (.node (.cmp .lss (.ar .shr .u64 (.var 0) (.lit 32)) (.var 1))
 (.leaf (.int .i64 (.pl .mul (.lit 1) (.mn (.ap 5 (.ar .shr .u64 (.var 0) (.lit 32)) (.ar .shl .u64 (.var 0) (.lit 32)) (.var 1)) (.lit 9223372036854775807)))))
 (.leaf (.int .i64 (.lit 9223372036854775807)))))))
def sqrtT : Tree :=
(.leaf (.int .i64 (.pl .mul (.lit 1) (.mn (.ap 7 (.ar .shr .u64 (.mx (.var 0) (.lit 0)) (.lit 32)) (.ar .shl .u64 (.mx (.var 0) (.lit 0)) (.lit 32)) (.lit 0)) (.lit 9223372036854775807)))))
def clampT : Tree :=
(.node (.cmp .lss (.var 0) (.var 1))
 (.leaf (.int .i64 (.mx (.var 1) (.lit (-9223372036854775807)))))
 (.node (.cmp .lss (.var 2) (.var 0))
 (.leaf (.int .i64 (.mx (.var 2) (.lit (-9223372036854775807)))))
 (.leaf (.int .i64 (.mx (.var 0) (.lit (-9223372036854775807)))))))
def absT : Tree :=
(.node (.cmp .lss (.var 0) (.lit 0))
 (.leaf (.int .i64 (.pl .mul (.lit 1) (.mn (.ar .sub .u64 (.lit 0) (.wr .u64 (.var 0))) (.lit 9223372036854775807)))))
 (.leaf (.int .i64 (.pl .mul (.lit 1) (.mn (.var 0) (.lit 9223372036854775807))))))
theorem dq_of {m n : Int} (h0 : 0 ≤ m) (h1 : m ≤ 9223372036854775808) (n1 : n ≤ 9223372036854775808) (h : arI .shr .u64 m 32 < n) :
    apN 5 (arI .shr .u64 m 32) (arI .shl .u64 m 32) n = m * 4294967296 / n ∧ apN 6 (arI .shr .u64 m 32) (arI .shl .u64 m 32) n = m * 4294967296 % n ∧ 0 ≤ m * 4294967296 / n ∧ m * 4294967296 / n ≤ 18446744073709551615 := by
  simp only [apN, if_pos h]
  rw [shr32] at h
  rw [shr32, shl32]
  have e : m / 4294967296 * 18446744073709551616 + m * 4294967296 % 18446744073709551616 = m * 4294967296 := by omega
  have hn : 0 < n := by omega
  have q0 : 0 ≤ m * 4294967296 / n := Int.ediv_nonneg (by omega) (by omega)
  have q1 : m * 4294967296 / n < 18446744073709551616 := Int.ediv_lt_of_lt_mul hn (by omega)
  have r0 := Int.emod_nonneg (m * 4294967296) (show n ≠ 0 by omega)
  have r1 := Int.emod_lt_of_pos (m * 4294967296) hn
  rw [e]
  generalize m * 4294967296 / n = q at *
  generalize m * 4294967296 % n = r at *
  omega
theorem dq_no {m n : Int} (h0 : 0 ≤ m) (hn : 0 < n) (h : ¬ arI .shr .u64 m 32 < n) : 9223372036854775807 ≤ m * 4294967296 / n := by
  rw [shr32] at h
  rw [Int.le_ediv_iff_mul_le hn]
  omega
theorem neg_floor {M n : Int} (hn : 0 < n) : (-M) / n = if 0 < M % n then -(M / n) - 1 else -(M / n) := by
  have e := Int.mul_ediv_add_emod M n
  have r0 := Int.emod_nonneg M (show n ≠ 0 by omega)
  have r1 := Int.emod_lt_of_pos M hn
  generalize M / n = q at *
  generalize M % n = r at *
  subst e
  split
  · have : -(n * q + r) = (n - r) + n * (-q - 1) := by
      rw [Int.mul_sub, Int.mul_neg]; omega
    rw [this, Int.add_mul_ediv_left _ _ (by omega), Int.ediv_eq_zero_of_lt (by omega) (by omega)]; omega
  · obtain rfl : r = 0 := by omega
    have : -(n * q + 0) = 0 + n * (-q) := by rw [Int.mul_neg]; omega
    rw [this, Int.add_mul_ediv_left _ _ (by omega)]; simp
theorem fdiv_neg_neg {a b : Int} (hb : b < 0) : (a * 4294967296).fdiv b = (-a * 4294967296) / (-b) := by
  rw [← Int.fdiv_eq_ediv_of_nonneg _ (by omega), Int.neg_mul, Int.neg_fdiv_neg]
theorem divT_val (a b : Int) (ha : InI a) (hb : InI b) : divT.val (envOf [a, b] (ap := apN)) = .int .i64 (apN 8 a b 0) := by
  obtain ⟨a0, a1⟩ := ha
  obtain ⟨b0, b1⟩ := hb
  have sz : ∀ x : Int, InI x → x < 0 → arI .sub .u64 0 (IntKind.u64.wrap x) = -x := fun x h1 h2 => by
    rw [subW, IntKind.wrap_u64]; omega
  have m1 : ∀ x : Int, 0 ≤ x → mnI x 9223372036854775807 = min x 9223372036854775807 := fun x h => by unfold mnI; split <;> omega
  have ng : ∀ x : Int, 0 ≤ x → arI .mul .i64 (-1) (mnI x 9223372036854775807) = -(min x 9223372036854775807) := fun x h => by
    rw [m1 x h]
    show IntKind.i64.wrap _ = _
    rw [IntKind.wrap_i64]; omega
  have ps : ∀ x : Int, 0 ≤ x → plI .mul 1 (mnI x 9223372036854775807) = min x 9223372036854775807 := fun x h => by
    rw [m1 x h]; show 1 * _ = _; omega
  simp only [divT, Tree.val, BE.den, cmpI, SV.den, IE.den, Bool.cond_decide, List.getD_cons_zero, List.getD_cons_succ]
  have goal : apN 8 a b 0 = sat (fDiv a b) := rfl
  rw [goal]
  unfold fDiv
  by_cases ha : a < 0
  · rw [if_pos ha, if_neg (by omega : ¬ a = 0)]
    by_cases hb : b < 0
    · rw [if_pos hb, if_neg (by omega : ¬ b = 0), sz a ⟨a0, a1⟩ ha, sz b ⟨b0, b1⟩ hb, fdiv_neg_neg hb]
      by_cases hc : arI .shr .u64 (-a) 32 < -b
      · obtain ⟨q, r, g0, g1⟩ := dq_of (m := -a) (n := -b) (by omega) (by omega) (by omega) hc
        rw [if_pos hc, q, ps _ g0]
        generalize -a * 4294967296 / -b = z at *
        unfold sat; congr 1; omega
      · have := dq_no (m := -a) (n := -b) (by omega) (by omega) hc
        rw [if_neg hc]
        generalize -a * 4294967296 / -b = z at *
        unfold sat; congr 1; omega
    · rw [if_neg hb]
      by_cases hb0 : b = 0
      · subst hb0
        rw [if_neg (show ¬ arI .shr .u64 (arI .sub .u64 0 (IntKind.u64.wrap a)) 32 < 0 by rw [sz a ⟨a0, a1⟩ ha, shr32]; omega), if_pos rfl, if_pos ha]
        rfl
      · rw [if_neg hb0, sz a ⟨a0, a1⟩ ha, Int.fdiv_eq_ediv_of_nonneg _ (by omega)]
        have e : a * 4294967296 = -(-a * 4294967296) := by omega
        rw [e, neg_floor (by omega)]
        by_cases hc : arI .shr .u64 (-a) 32 < b
        · obtain ⟨q, r, g0, g1⟩ := dq_of (m := -a) (n := b) (by omega) (by omega) (by omega) hc
          rw [if_pos hc, q, r]
          have n1 := ng _ g0
          have n2 := ng (-a * 4294967296 / b + 1) (by omega)
          have e1 : plI .add (-a * 4294967296 / b) 1 = -a * 4294967296 / b + 1 := rfl
          rw [e1, n1, n2]
          generalize -a * 4294967296 / b = z at *
          generalize -a * 4294967296 % b = y at *
          split
          · split <;> (unfold sat; congr 1; omega)
          · unfold sat; congr 1; omega
        · have := dq_no (m := -a) (n := b) (by omega) (by omega) hc
          rw [if_neg hc]
          generalize -a * 4294967296 / b = z at *
          generalize -a * 4294967296 % b = y at *
          split <;> (unfold sat; congr 1; omega)
  · rw [if_neg ha]
    by_cases hz : a = 0
    · subst hz
      simp
      rfl
    · rw [if_neg hz]
      by_cases hb : b < 0
      · rw [if_pos hb, beq_eq_false_iff_ne.2 hz, cond_false, if_neg (by omega : ¬ b = 0), sz b ⟨b0, b1⟩ hb, fdiv_neg_neg hb]
        have e : -a * 4294967296 = -(a * 4294967296) := by omega
        rw [e, neg_floor (by omega)]
        by_cases hc : arI .shr .u64 a 32 < -b
        · obtain ⟨q, r, g0, g1⟩ := dq_of (m := a) (n := -b) (by omega) (by omega) (by omega) hc
          rw [if_pos hc, q, r]
          have n1 := ng _ g0
          have n2 := ng (a * 4294967296 / -b + 1) (by omega)
          have e1 : plI .add (a * 4294967296 / -b) 1 = a * 4294967296 / -b + 1 := rfl
          rw [e1, n1, n2]
          generalize a * 4294967296 / -b = z at *
          generalize a * 4294967296 % -b = y at *
          split
          · split <;> (unfold sat; congr 1; omega)
          · unfold sat; congr 1; omega
        · have := dq_no (m := a) (n := -b) (by omega) (by omega) hc
          rw [if_neg hc]
          generalize a * 4294967296 / -b = z at *
          generalize a * 4294967296 % -b = y at *
          split <;> (unfold sat; congr 1; omega)
      · rw [if_neg hb, beq_eq_false_iff_ne.2 hz, cond_false]
        by_cases hb0 : b = 0
        · subst hb0
          rw [if_neg (show ¬ arI .shr .u64 a 32 < 0 by rw [shr32]; omega), if_pos rfl, if_neg ha]
          rfl
        · rw [if_neg hb0, Int.fdiv_eq_ediv_of_nonneg _ (by omega)]
          by_cases hc : arI .shr .u64 a 32 < b
          · obtain ⟨q, r, g0, g1⟩ := dq_of (m := a) (n := b) (by omega) (by omega) (by omega) hc
            rw [if_pos hc, q, ps _ g0]
            generalize a * 4294967296 / b = z at *
            unfold sat; congr 1; omega
          · have := dq_no (m := a) (n := b) (by omega) (by omega) hc
            rw [if_neg hc]
            generalize a * 4294967296 / b = z at *
            unfold sat; congr 1; omega
/-- a function of the numbers' contracts by its tree -/
theorem num_any {is : List Int} {rg : List (Int × Int)} (hin : AllIn (envOf is (ap := apN)).i rg 0) {cs : List Con} (hcs : ∀ c ∈ cs, c.holds Try.prog (envOf is (ap := apN))) (T : Tree) {n : Nat} {f : FuncId} {args : List SV} (hT : T.check Try.prog { pc := [], rg := rg, ar := arN, ct := conCt rg arN cs } n f args = true) (hl : T.live (envOf is (ap := apN)) = true) {v : Value} (hv : T.val (envOf is (ap := apN)) = v) (w : World) :
    Calls Try.prog f (SV.denL (envOf is (ap := apN)) id args).toArray w fun e w' => e = .returned v ∧ Below w.heap.size w w' := by
  have h := tree_sound (P := Try.prog) mixed (ρ := envOf is (ap := apN)) T (X := { pc := [], rg := rg, ar := arN, ct := conCt rg arN cs }) (knows_env rfl hin arN_ok)
    ⟨fun c hc => (by cases hc), fun pc hpc f vs v h _ φ w _ => conCt_ok hin.get0 arN_ok hcs hpc h φ w, fun f p u L h => (by cases h)⟩ (Tree.ok_of_check hT) hl w
  rw [hv] at h
  exact h
theorem fdiv_any (a b : Int) (ha : InI a) (hb : InI b) (w : World) : Calls Try.prog 47 #[.int .i64 a, .int .i64 b] w fun e w' => e = .returned (.int .i64 (apN 8 a b 0)) ∧ Below w.heap.size w w' :=
  num_any (is := [a, b]) (rg := [i64R, i64R]) (args := [.int .i64 (.var 0), .int .i64 (.var 1)]) ⟨ha, hb, trivial⟩ (cs := [logCon, wdivCon]) (fun c hc => by
    simp only [List.mem_cons, List.not_mem_nil, or_false] at hc
    rcases hc with rfl | rfl
    · exact logCon_ok (numA_N rfl)
    · exact wdivCon_ok (numA_N rfl)) divT (n := 400) (by kernel_rfl) (Tree.whole_live (by kernel_rfl)) (divT_val a b ha hb) w
theorem sqrtT_val (a : Int) (ha : InI a) : sqrtT.val (envOf [a] (ap := apN)) = .int .i64 (apN 9 a 0 0) := by
  simp only [sqrtT, Tree.val, SV.den, IE.den, List.getD_cons_zero]
  have e : mxI a 0 = (a.toNat : Int) := by unfold mxI; split <;> omega
  rw [e]
  have hb : a.toNat ≤ 9223372036854775807 := by have := ha.2; omega
  have e7 : apN 7 (arI .shr .u64 (a.toNat : Int) 32) (arI .shl .u64 (a.toNat : Int) 32) 0 = (isq (a.toNat * 4294967296) : Nat) := by
    simp only [apN]
    rw [shr32, shl32]
    have e : ((a.toNat : Int) / 4294967296 * 18446744073709551616 + (a.toNat : Int) * 4294967296 % 18446744073709551616).toNat = a.toNat * 4294967296 := by omega
    rw [e]
    have h4 : (4 : Nat) ^ 64 = 340282366920938463463374607431768211456 := by decide
    have hl : isq (a.toNat * 4294967296) < 18446744073709551616 := isq_lt (by rw [h4]; omega) (by omega)
    omega
  rw [e7]
  have h4 : (4 : Nat) ^ 64 = 340282366920938463463374607431768211456 := by decide
  have hl : isq (a.toNat * 4294967296) < 9223372036854775807 := isq_lt (by rw [h4]; omega) (by omega)
  have e9 : apN 9 a 0 0 = sat (fSqrt a) := rfl
  rw [e9]
  unfold fSqrt
  generalize isq (a.toNat * 4294967296) = z at *
  have e1 : plI .mul 1 (mnI (z : Int) 9223372036854775807) = z := by show 1 * mnI _ _ = _; unfold mnI; split <;> omega
  rw [e1]
  unfold sat; congr 1; omega
theorem fsqrt_any (a : Int) (ha : InI a) (w : World) : Calls Try.prog 44 #[.int .i64 a] w fun e w' => e = .returned (.int .i64 (apN 9 a 0 0)) ∧ Below w.heap.size w w' :=
  num_any (is := [a]) (rg := [i64R]) (args := [.int .i64 (.var 0)]) ⟨ha, trivial⟩ (cs := [wsqrtCon]) (fun c hc => by
    rw [List.mem_singleton.1 hc]; exact wsqrtCon_ok (numA_N rfl)) sqrtT (n := 400) (by kernel_rfl) (Tree.whole_live (by kernel_rfl)) (sqrtT_val a ha) w
theorem clamp_any (a b c : Int) (ha : InI a) (hb : InI b) (hc : InI c) (w : World) : Calls Try.prog 57 #[.int .i64 a, .int .i64 b, .int .i64 c] w fun e w' => e = .returned (.int .i64 (apN 10 a b c)) ∧ Below w.heap.size w w' :=
  num_any (is := [a, b, c]) (rg := [i64R, i64R, i64R]) (args := [.int .i64 (.var 0), .int .i64 (.var 1), .int .i64 (.var 2)]) ⟨ha, hb, hc, trivial⟩ (cs := []) (fun c hc => by cases hc) clampT (n := 400) (by kernel_rfl) (Tree.whole_live (by kernel_rfl)) (by
    simp only [clampT, Tree.val, BE.den, cmpI, SV.den, IE.den, Bool.cond_decide, List.getD_cons_zero, List.getD_cons_succ, mxI, apN, fClamp]
    have h1 := ha.2
    have h2 := hb.2
    have h3 := hc.2
    unfold sat
    repeat' split
    all_goals (congr 1; omega)) w
theorem fxabs_any (a : Int) (ha : InI a) (w : World) : Calls Try.prog 31 #[.int .i64 a] w fun e w' => e = .returned (.int .i64 (apN 11 a 0 0)) ∧ Below w.heap.size w w' :=
  num_any (is := [a]) (rg := [i64R]) (args := [.int .i64 (.var 0)]) ⟨ha, trivial⟩ (cs := []) (fun c hc => by cases hc) absT (n := 400) (by kernel_rfl) (Tree.whole_live (by kernel_rfl)) (by
    obtain ⟨h1, h2⟩ := ha
    simp only [absT, Tree.val, BE.den, cmpI, SV.den, IE.den, Bool.cond_decide, List.getD_cons_zero, List.getD_cons_succ, apN, nAbs, subW, IntKind.wrap_u64, plI, mnI]
    unfold sat
    repeat' split
    all_goals (congr 1; omega)) w
end Go.Proofs.Ythhipnhnpjhaaaa
