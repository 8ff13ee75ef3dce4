/- Several texts in one. -/
import Derived.Test.YtopgidgkpafeeaaM22
import Derived.Test.YtopgidgkpafeeaaM21
import Derived.Test.YtopgidgkpafeeaaProg
import Derived.Test.YtopgidgkpafeeaaM16
import Derived.WalkKit
import Derived.WalkSpells
import Derived.WalkLawsBesides
import Derived.Lib.Hide
import Derived.StillTailTactics
import Derived.Lib.QuietBelow
import Derived.Laws.Rows
import Derived.Laws.CopyOwn
/- Contracts of fix: Div, Sqrt, Clamp, Abs. -/
namespace Go.Proofs.Ytopgidgkpafeeaa
open Go Go.RowKit Ev
set_option linter.unusedVariables false
set_option linter.unusedSimpArgs false
set_option maxRecDepth 100000

def divT : Tree :=
(.node (.cmp .lss (.var 0) (.lit 0))
 (.node (.cmp .lss (.var 1) (.lit 0))
 (.node (.cmp .lss (.ar .shr .u64 (.ar .sub .u64 (.lit 0) (.wr .u64 (.var 0))) (.lit 32)) (.ar .sub .u64 (.lit 0) (.wr .u64 (.var 1))))
 (.leaf (.int .i64 (.pl .mul (.lit 1) (.mn (.ap 5 (.ar .shr .u64 (.ar .sub .u64 (.lit 0) (.wr .u64 (.var 0))) (.lit 32)) (.ar .shl .u64 (.ar .sub .u64 (.lit 0) (.wr .u64 (.var 0))) (.lit 32)) (.ar .sub .u64 (.lit 0) (.wr .u64 (.var 1)))) (.lit 9223372036854775807)))))
 (.leaf (.int .i64 (.lit 9223372036854775807))))
 (.node (.cmp .lss (.ar .shr .u64 (.ar .sub .u64 (.lit 0) (.wr .u64 (.var 0))) (.lit 32)) (.var 1))
 (.node (.cmp .lss (.lit 0) (.ap 6 (.ar .shr .u64 (.ar .sub .u64 (.lit 0) (.wr .u64 (.var 0))) (.lit 32)) (.ar .shl .u64 (.ar .sub .u64 (.lit 0) (.wr .u64 (.var 0))) (.lit 32)) (.var 1)))
 (.node (.cmp .lss (.ap 5 (.ar .shr .u64 (.ar .sub .u64 (.lit 0) (.wr .u64 (.var 0))) (.lit 32)) (.ar .shl .u64 (.ar .sub .u64 (.lit 0) (.wr .u64 (.var 0))) (.lit 32)) (.var 1)) (.lit 9223372036854775807))
 (.leaf (.int .i64 (.ar .mul .i64 (.lit (-1)) (.mn (.pl .add (.ap 5 (.ar .shr .u64 (.ar .sub .u64 (.lit 0) (.wr .u64 (.var 0))) (.lit 32)) (.ar .shl .u64 (.ar .sub .u64 (.lit 0) (.wr .u64 (.var 0))) (.lit 32)) (.var 1)) (.lit 1)) (.lit 9223372036854775807)))))
 (.leaf (.int .i64 (.ar .mul .i64 (.lit (-1)) (.mn (.ap 5 (.ar .shr .u64 (.ar .sub .u64 (.lit 0) (.wr .u64 (.var 0))) (.lit 32)) (.ar .shl .u64 (.ar .sub .u64 (.lit 0) (.wr .u64 (.var 0))) (.lit 32)) (.var 1)) (.lit 9223372036854775807))))))
 (.leaf (.int .i64 (.ar .mul .i64 (.lit (-1)) (.mn (.ap 5 (.ar .shr .u64 (.ar .sub .u64 (.lit 0) (.wr .u64 (.var 0))) (.lit 32)) (.ar .shl .u64 (.ar .sub .u64 (.lit 0) (.wr .u64 (.var 0))) (.lit 32)) (.var 1)) (.lit 9223372036854775807))))))
 (.leaf (.int .i64 (.lit (-9223372036854775807))))))
 (.node (.cmp .lss (.var 1) (.lit 0))
 (.node (.cmp .eql (.var 0) (.lit 0))
 (.leaf (.int .i64 (.lit 0)))
 (.node (.cmp .lss (.ar .shr .u64 (.var 0) (.lit 32)) (.ar .sub .u64 (.lit 0) (.wr .u64 (.var 1))))
 (.node (.cmp .lss (.lit 0) (.ap 6 (.ar .shr .u64 (.var 0) (.lit 32)) (.ar .shl .u64 (.var 0) (.lit 32)) (.ar .sub .u64 (.lit 0) (.wr .u64 (.var 1)))))
 (.node (.cmp .lss (.ap 5 (.ar .shr .u64 (.var 0) (.lit 32)) (.ar .shl .u64 (.var 0) (.lit 32)) (.ar .sub .u64 (.lit 0) (.wr .u64 (.var 1)))) (.lit 9223372036854775807))
 (.leaf (.int .i64 (.ar .mul .i64 (.lit (-1)) (.mn (.pl .add (.ap 5 (.ar .shr .u64 (.var 0) (.lit 32)) (.ar .shl .u64 (.var 0) (.lit 32)) (.ar .sub .u64 (.lit 0) (.wr .u64 (.var 1)))) (.lit 1)) (.lit 9223372036854775807)))))
 (.leaf (.int .i64 (.ar .mul .i64 (.lit (-1)) (.mn (.ap 5 (.ar .shr .u64 (.var 0) (.lit 32)) (.ar .shl .u64 (.var 0) (.lit 32)) (.ar .sub .u64 (.lit 0) (.wr .u64 (.var 1)))) (.lit 9223372036854775807))))))
 (.leaf (.int .i64 (.ar .mul .i64 (.lit (-1)) (.mn (.ap 5 (.ar .shr .u64 (.var 0) (.lit 32)) (.ar .shl .u64 (.var 0) (.lit 32)) (.ar .sub .u64 (.lit 0) (.wr .u64 (.var 1)))) (.lit 9223372036854775807))))))
 (.leaf (.int .i64 (.lit (-9223372036854775807))))))
 (.node (.cmp .eql (.var 0) (.lit 0))
 (.leaf (.int .i64 (.lit 0)))
 (.node (.cmp .lss (.ar .shr .u64 (.var 0) (.lit 32)) (.var 1))
 (.leaf (.int .i64 (.pl .mul (.lit 1) (.mn (.ap 5 (.ar .shr .u64 (.var 0) (.lit 32)) (.ar .shl .u64 (.var 0) (.lit 32)) (.var 1)) (.lit 9223372036854775807)))))
 (.leaf (.int .i64 (.lit 9223372036854775807)))))))
def sqrtT : Tree :=
(.leaf (.int .i64 (.pl .mul (.lit 1) (.mn (.ap 7 (.ar .shr .u64 (.mx (.var 0) (.lit 0)) (.lit 32)) (.ar .shl .u64 (.mx (.var 0) (.lit 0)) (.lit 32)) (.lit 0)) (.lit 9223372036854775807)))))
def clampT : Tree :=
(.node (.cmp .lss (.var 0) (.var 1))
 (.leaf (.int .i64 (.mx (.var 1) (.lit (-9223372036854775807)))))
 (.node (.cmp .lss (.var 2) (.var 0))
 (.leaf (.int .i64 (.mx (.var 2) (.lit (-9223372036854775807)))))
 (.leaf (.int .i64 (.mx (.var 0) (.lit (-9223372036854775807)))))))
def absT : Tree :=
(.node (.cmp .lss (.var 0) (.lit 0))
 (.leaf (.int .i64 (.pl .mul (.lit 1) (.mn (.ar .sub .u64 (.lit 0) (.wr .u64 (.var 0))) (.lit 9223372036854775807)))))
 (.leaf (.int .i64 (.pl .mul (.lit 1) (.mn (.var 0) (.lit 9223372036854775807))))))
theorem dq_of {m n : Int} (h0 : 0 ≤ m) (h1 : m ≤ 9223372036854775808) (n1 : n ≤ 9223372036854775808) (h : arI .shr .u64 m 32 < n) :
    apN 5 (arI .shr .u64 m 32) (arI .shl .u64 m 32) n = m * 4294967296 / n ∧ apN 6 (arI .shr .u64 m 32) (arI .shl .u64 m 32) n = m * 4294967296 % n ∧ 0 ≤ m * 4294967296 / n ∧ m * 4294967296 / n ≤ 18446744073709551615 := by
  simp only [apN, if_pos h]
  rw [shr32] at h
  rw [shr32, shl32]
  have e : m / 4294967296 * 18446744073709551616 + m * 4294967296 % 18446744073709551616 = m * 4294967296 := by omega
  have hn : 0 < n := by omega
  have q0 : 0 ≤ m * 4294967296 / n := Int.ediv_nonneg (by omega) (by omega)
  have q1 : m * 4294967296 / n < 18446744073709551616 := Int.ediv_lt_of_lt_mul hn (by omega)
  have r0 := Int.emod_nonneg (m * 4294967296) (show n ≠ 0 by omega)
  have r1 := Int.emod_lt_of_pos (m * 4294967296) hn
  rw [e]
  generalize m * 4294967296 / n = q at *
  generalize m * 4294967296 % n = r at *
  omega
theorem dq_no {m n : Int} (h0 : 0 ≤ m) (hn : 0 < n) (h : ¬ arI .shr .u64 m 32 < n) : 9223372036854775807 ≤ m * 4294967296 / n := by
  rw [shr32] at h
  rw [Int.le_ediv_iff_mul_le hn]
  omega
theorem neg_floor {M n : Int} (hn : 0 < n) : (-M) / n = if 0 < M % n then -(M / n) - 1 else -(M / n) := by
  have e := Int.mul_ediv_add_emod M n
  have r0 := Int.emod_nonneg M (show n ≠ 0 by omega)
  have r1 := Int.emod_lt_of_pos M hn
  generalize M / n = q at *
  generalize M % n = r at *
  subst e
  split
  · have : -(n * q + r) = (n - r) + n * (-q - 1) := by
      rw [Int.mul_sub, Int.mul_neg]; omega
    rw [this, Int.add_mul_ediv_left _ _ (by omega), Int.ediv_eq_zero_of_lt (by omega) (by omega)]; omega
  · obtain rfl : r = 0 := by omega
    have : -(n * q + 0) = 0 + n * (-q) := by rw [Int.mul_neg]; omega
    rw [this, Int.add_mul_ediv_left _ _ (by omega)]; simp
theorem fdiv_neg_neg {a b : Int} (hb : b < 0) : (a * 4294967296).fdiv b = (-a * 4294967296) / (-b) := by
  rw [← Int.fdiv_eq_ediv_of_nonneg _ (by omega), Int.neg_mul, Int.neg_fdiv_neg]
theorem divT_val (a b : Int) (ha : InI a) (hb : InI b) : divT.val (envOf [a, b] (ap := apN)) = .int .i64 (apN 8 a b 0) := by
  obtain ⟨a0, a1⟩ := ha
  obtain ⟨b0, b1⟩ := hb
  have sz : ∀ x : Int, InI x → x < 0 → arI .sub .u64 0 (IntKind.u64.wrap x) = -x := fun x h1 h2 => by
    rw [subW, IntKind.wrap_u64]; omega
  have m1 : ∀ x : Int, 0 ≤ x → mnI x 9223372036854775807 = min x 9223372036854775807 := fun x h => by unfold mnI; split <;> omega
  have ng : ∀ x : Int, 0 ≤ x → arI .mul .i64 (-1) (mnI x 9223372036854775807) = -(min x 9223372036854775807) := fun x h => by
    rw [m1 x h]
    show IntKind.i64.wrap _ = _
    rw [IntKind.wrap_i64]; omega
  have ps : ∀ x : Int, 0 ≤ x → plI .mul 1 (mnI x 9223372036854775807) = min x 9223372036854775807 := fun x h => by
    rw [m1 x h]; show 1 * _ = _; omega
  simp only [divT, Tree.val, BE.den, cmpI, SV.den, IE.den, Bool.cond_decide, List.getD_cons_zero, List.getD_cons_succ]
  have goal : apN 8 a b 0 = sat (fDiv a b) := rfl
  rw [goal]
  unfold fDiv
  by_cases ha : a < 0
  · rw [if_pos ha, if_neg (by omega : ¬ a = 0)]
    by_cases hb : b < 0
    · rw [if_pos hb, if_neg (by omega : ¬ b = 0), sz a ⟨a0, a1⟩ ha, sz b ⟨b0, b1⟩ hb, fdiv_neg_neg hb]
      by_cases hc : arI .shr .u64 (-a) 32 < -b
      · obtain ⟨q, r, g0, g1⟩ := dq_of (m := -a) (n := -b) (by omega) (by omega) (by omega) hc
        rw [if_pos hc, q, ps _ g0]
        generalize -a * 4294967296 / -b = z at *
        unfold sat; congr 1; omega
      · have := dq_no (m := -a) (n := -b) (by omega) (by omega) hc
        rw [if_neg hc]
        generalize -a * 4294967296 / -b = z at *
        unfold sat; congr 1; omega
    · rw [if_neg hb]
      by_cases hb0 : b = 0
      · subst hb0
        rw [if_neg (show ¬ arI .shr .u64 (arI .sub .u64 0 (IntKind.u64.wrap a)) 32 < 0 by rw [sz a ⟨a0, a1⟩ ha, shr32]; omega), if_pos rfl, if_pos ha]
        rfl
      · rw [if_neg hb0, sz a ⟨a0, a1⟩ ha, Int.fdiv_eq_ediv_of_nonneg _ (by omega)]
        have e : a * 4294967296 = -(-a * 4294967296) := by omega
        rw [e, neg_floor (by omega)]
        by_cases hc : arI .shr .u64 (-a) 32 < b
        · obtain ⟨q, r, g0, g1⟩ := dq_of (m := -a) (n := b) (by omega) (by omega) (by omega) hc
          rw [if_pos hc, q, r]
          have n1 := ng _ g0
          have n2 := ng (-a * 4294967296 / b + 1) (by omega)
          have e1 : plI .add (-a * 4294967296 / b) 1 = -a * 4294967296 / b + 1 := rfl
          rw [e1, n1, n2]
          generalize -a * 4294967296 / b = z at *
          generalize -a * 4294967296 % b = y at *
          split
          · split <;> (unfold sat; congr 1; omega)
          · unfold sat; congr 1; omega
        · have := dq_no (m := -a) (n := b) (by omega) (by omega) hc
          rw [if_neg hc]
          generalize -a * 4294967296 / b = z at *
          generalize -a * 4294967296 % b = y at *
          split <;> (unfold sat; congr 1; omega)
  · rw [if_neg ha]
    by_cases hz : a = 0
    · subst hz
      simp
      rfl
    · rw [if_neg hz]
      by_cases hb : b < 0
      · rw [if_pos hb, beq_eq_false_iff_ne.2 hz, cond_false, if_neg (by omega : ¬ b = 0), sz b ⟨b0, b1⟩ hb, fdiv_neg_neg hb]
        have e : -a * 4294967296 = -(a * 4294967296) := by omega
        rw [e, neg_floor (by omega)]
        by_cases hc : arI .shr .u64 a 32 < -b
        · obtain ⟨q, r, g0, g1⟩ := dq_of (m := a) (n := -b) (by omega) (by omega) (by omega) hc
          rw [if_pos hc, q, r]
          have n1 := ng _ g0
          have n2 := ng (a * 4294967296 / -b + 1) (by omega)
          have e1 : plI .add (a * 4294967296 / -b) 1 = a * 4294967296 / -b + 1 := rfl
          rw [e1, n1, n2]
          generalize a * 4294967296 / -b = z at *
          generalize a * 4294967296 % -b = y at *
          split
          · split <;> (unfold sat; congr 1; omega)
          · unfold sat; congr 1; omega
        · have := dq_no (m := a) (n := -b) (by omega) (by omega) hc
          rw [if_neg hc]
          generalize a * 4294967296 / -b = z at *
          generalize a * 4294967296 % -b = y at *
          split <;> (unfold sat; congr 1; omega)
      · rw [if_neg hb, beq_eq_false_iff_ne.2 hz, cond_false]
        by_cases hb0 : b = 0
        · subst hb0
          rw [if_neg (show ¬ arI .shr .u64 a 32 < 0 by rw [shr32]; omega), if_pos rfl, if_neg ha]
          rfl
        · rw [if_neg hb0, Int.fdiv_eq_ediv_of_nonneg _ (by omega)]
          by_cases hc : arI .shr .u64 a 32 < b
          · obtain ⟨q, r, g0, g1⟩ := dq_of (m := a) (n := b) (by omega) (by omega) (by omega) hc
            rw [if_pos hc, q, ps _ g0]
            generalize a * 4294967296 / b = z at *
            unfold sat; congr 1; omega
          · have := dq_no (m := a) (n := b) (by omega) (by omega) hc
            rw [if_neg hc]
            generalize a * 4294967296 / b = z at *
            unfold sat; congr 1; omega
/-- a function of the numbers' contracts by its tree -/
theorem num_any {is : List Int} {rg : List (Int × Int)} (hin : AllIn (envOf is (ap := apN)).i rg 0) {cs : List Con} (hcs : ∀ c ∈ cs, c.holds Try.prog (envOf is (ap := apN))) (T : Tree) {n : Nat} {f : FuncId} {args : List SV} (hT : T.check Try.prog { pc := [], rg := rg, ar := arN, ct := conCt rg arN cs } n f args = true) (hl : T.live (envOf is (ap := apN)) = true) {v : Value} (hv : T.val (envOf is (ap := apN)) = v) (w : World) :
    Calls Try.prog f (SV.denL (envOf is (ap := apN)) id args).toArray w fun e w' => e = .returned v ∧ Below w.heap.size w w' := by
  have h := tree_sound (P := Try.prog) mixed (ρ := envOf is (ap := apN)) T (X := { pc := [], rg := rg, ar := arN, ct := conCt rg arN cs }) (knows_env rfl hin arN_ok)
    ⟨fun c hc => (by cases hc), fun pc hpc f vs v h _ φ w _ => conCt_ok hin.get0 arN_ok hcs hpc h φ w, fun f p u L h => (by cases h)⟩ (Tree.ok_of_check hT) hl w
  rw [hv] at h
  exact h
theorem fdiv_any (a b : Int) (ha : InI a) (hb : InI b) (w : World) : Calls Try.prog 75 #[.int .i64 a, .int .i64 b] w fun e w' => e = .returned (.int .i64 (apN 8 a b 0)) ∧ Below w.heap.size w w' :=
  num_any (is := [a, b]) (rg := [i64R, i64R]) (args := [.int .i64 (.var 0), .int .i64 (.var 1)]) ⟨ha, hb, trivial⟩ (cs := [logCon, wdivCon]) (fun c hc => by
    simp only [List.mem_cons, List.not_mem_nil, or_false] at hc
    rcases hc with rfl | rfl
    · exact logCon_ok (numA_N rfl)
    · exact wdivCon_ok (numA_N rfl)) divT (n := 400) (by kernel_rfl) (Tree.whole_live (by kernel_rfl)) (divT_val a b ha hb) w
theorem sqrtT_val (a : Int) (ha : InI a) : sqrtT.val (envOf [a] (ap := apN)) = .int .i64 (apN 9 a 0 0) := by
  simp only [sqrtT, Tree.val, SV.den, IE.den, List.getD_cons_zero]
  have e : mxI a 0 = (a.toNat : Int) := by unfold mxI; split <;> omega
  rw [e]
  have hb : a.toNat ≤ 9223372036854775807 := by have := ha.2; omega
  have e7 : apN 7 (arI .shr .u64 (a.toNat : Int) 32) (arI .shl .u64 (a.toNat : Int) 32) 0 = (isq (a.toNat * 4294967296) : Nat) := by
    simp only [apN]
    rw [shr32, shl32]
    have e : ((a.toNat : Int) / 4294967296 * 18446744073709551616 + (a.toNat : Int) * 4294967296 % 18446744073709551616).toNat = a.toNat * 4294967296 := by omega
    rw [e]
    have h4 : (4 : Nat) ^ 64 = 340282366920938463463374607431768211456 := by decide
    have hl : isq (a.toNat * 4294967296) < 18446744073709551616 := isq_lt (by rw [h4]; omega) (by omega)
    omega
  rw [e7]
  have h4 : (4 : Nat) ^ 64 = 340282366920938463463374607431768211456 := by decide
  have hl : isq (a.toNat * 4294967296) < 9223372036854775807 := isq_lt (by rw [h4]; omega) (by omega)
  have e9 : apN 9 a 0 0 = sat (fSqrt a) := rfl
  rw [e9]
  unfold fSqrt
  generalize isq (a.toNat * 4294967296) = z at *
  have e1 : plI .mul 1 (mnI (z : Int) 9223372036854775807) = z := by show 1 * mnI _ _ = _; unfold mnI; split <;> omega
  rw [e1]
  unfold sat; congr 1; omega
theorem fsqrt_any (a : Int) (ha : InI a) (w : World) : Calls Try.prog 78 #[.int .i64 a] w fun e w' => e = .returned (.int .i64 (apN 9 a 0 0)) ∧ Below w.heap.size w w' :=
  num_any (is := [a]) (rg := [i64R]) (args := [.int .i64 (.var 0)]) ⟨ha, trivial⟩ (cs := [wsqrtCon]) (fun c hc => by
    rw [List.mem_singleton.1 hc]; exact wsqrtCon_ok (numA_N rfl)) sqrtT (n := 400) (by kernel_rfl) (Tree.whole_live (by kernel_rfl)) (sqrtT_val a ha) w
theorem clamp_any (a b c : Int) (ha : InI a) (hb : InI b) (hc : InI c) (w : World) : Calls Try.prog 72 #[.int .i64 a, .int .i64 b, .int .i64 c] w fun e w' => e = .returned (.int .i64 (apN 10 a b c)) ∧ Below w.heap.size w w' :=
  num_any (is := [a, b, c]) (rg := [i64R, i64R, i64R]) (args := [.int .i64 (.var 0), .int .i64 (.var 1), .int .i64 (.var 2)]) ⟨ha, hb, hc, trivial⟩ (cs := []) (fun c hc => by cases hc) clampT (n := 400) (by kernel_rfl) (Tree.whole_live (by kernel_rfl)) (by
    simp only [clampT, Tree.val, BE.den, cmpI, SV.den, IE.den, Bool.cond_decide, List.getD_cons_zero, List.getD_cons_succ, mxI, apN, fClamp]
    have h1 := ha.2
    have h2 := hb.2
    have h3 := hc.2
    unfold sat
    repeat' split
    all_goals (congr 1; omega)) w
theorem fxabs_any (a : Int) (ha : InI a) (w : World) : Calls Try.prog 81 #[.int .i64 a] w fun e w' => e = .returned (.int .i64 (apN 11 a 0 0)) ∧ Below w.heap.size w w' :=
  num_any (is := [a]) (rg := [i64R]) (args := [.int .i64 (.var 0)]) ⟨ha, trivial⟩ (cs := []) (fun c hc => by cases hc) absT (n := 400) (by kernel_rfl) (Tree.whole_live (by kernel_rfl)) (by
    obtain ⟨h1, h2⟩ := ha
    simp only [absT, Tree.val, BE.den, cmpI, SV.den, IE.den, Bool.cond_decide, List.getD_cons_zero, List.getD_cons_succ, apN, nAbs, subW, IntKind.wrap_u64, plI, mnI]
    unfold sat
    repeat' split
    all_goals (congr 1; omega)) w
end Go.Proofs.Ytopgidgkpafeeaa
/- The contracts of numbers, all together. -/
namespace Go.Proofs.Ytopgidgkpafeeaa
open Go Go.RowKit Ev
set_option linter.unusedVariables false

noncomputable abbrev divCon : Con := con2 75 8
theorem divCon_ok {ρ : Env} (ha : NumA ρ) : divCon.holds Try.prog ρ := con2_ok ha (by decide) fun a b h k w => fdiv_any a b h k w
noncomputable abbrev sqrtCon : Con := con1 78 9
theorem sqrtCon_ok {ρ : Env} (ha : NumA ρ) : sqrtCon.holds Try.prog ρ := con1_ok ha (by decide) fun a h w => fsqrt_any a h w
noncomputable abbrev clampCon : Con := con3 72 10
theorem clampCon_ok {ρ : Env} (ha : NumA ρ) : clampCon.holds Try.prog ρ := con3_ok ha (by decide) fun a b c h k l w => clamp_any a b c h k l w
noncomputable abbrev absCon : Con := con1 81 11
theorem absCon_ok {ρ : Env} (ha : NumA ρ) : absCon.holds Try.prog ρ := con1_ok ha (by decide) fun a h w => fxabs_any a h w
/-- the contracts -/
noncomputable def consN : List Con := [
  addCon,
  shiftCon,
  subCon,
  mulCon,
  divCon,
  sqrtCon,
  clampCon,
  absCon,
  addCon2,
  subCon2,
  wdivCon,
  logCon]
theorem consN_ok {ρ : Env} (ha : NumA ρ) : ∀ c ∈ consN, c.holds Try.prog ρ := by
  unfold consN
  repeat' (first
    | exact List.forall_mem_nil _
    | exact logCon_ok ha
    | exact addCon_ok ha
    | exact shiftCon_ok ha
    | exact subCon_ok ha
    | exact mulCon_ok ha
    | exact divCon_ok ha
    | exact sqrtCon_ok ha
    | exact clampCon_ok ha
    | exact absCon_ok ha
    | exact addCon2_ok ha
    | exact subCon2_ok ha
    | exact wdivCon_ok ha
    | refine List.forall_mem_cons.2 ⟨?_, ?_⟩)
end Go.Proofs.Ytopgidgkpafeeaa
/- The walks over the package floaty and what it calls of the package math. -/
namespace Go.Proofs.Ytopgidgkpafeeaa
open Go.RowKit
set_option maxRecDepth 100000

theorem call_bits (b : Nat) (w : World) : (callFunc 148 #[.float .f64 b]).run Try.prog w = .ok (.value (.int .u64 b)) w := by kernel_rfl
theorem call_frombits (b : Int) (w : World) : (callFunc 152 #[.int .u64 b]).run Try.prog w = .ok (.value (.float .f64 b.toNat)) w := by kernel_rfl

set_option maxHeartbeats 400000 in
theorem kind_any (b : Nat) (w : World) :
    Calls Try.prog 146 #[.float .f64 b] w fun e w' => e = .returned (.int .i64 (fKind b)) ∧ w = w' := by
  have k1 := call_bits b
  have k2 := call_frombits
  obtain ⟨s, Hs⟩ : ∃ s : Int, Hid ((if wrap64 (b : Int) < 0 then 1 else 0) = s) := ⟨_, Lib.hid rfl⟩
  by_cases hs : wrap64 (b : Int) < 0
  · have e := Hs.out
    rw [if_pos hs] at e
    subst e
    go_enter Try.func146, Try.ntmps146
    go_wp2
    all_goals go_ret
    all_goals clear k1 k2
    all_goals exact ⟨ret_int (by simp only [fKind, fAbs, Hs.out]; simp [*]), rfl⟩
  · have e := Hs.out
    rw [if_neg hs] at e
    subst e
    go_enter Try.func146, Try.ntmps146
    go_wp2
    all_goals go_ret
    all_goals clear k1 k2
    all_goals exact ⟨ret_int (by simp only [fKind, fAbs, Hs.out]; simp [*]), rfl⟩

set_option maxHeartbeats 400000 in
theorem abs_any (b : Nat) (w : World) :
    Calls Try.prog 147 #[.float .f64 b] w fun e w' => e = .returned (.float .f64 (fAbs b)) ∧ w = w' := by
  have k1 := call_bits b
  have k2 := call_frombits
  go_enter Try.func147, Try.ntmps147
  go_wp2
  go_ret
  exact ⟨rfl, rfl⟩

set_option maxHeartbeats 400000 in
theorem of_num (b : Nat) (w : World) (hb : b < 18446744073709551616) (h1 : (fKind b == 0) = false) (h2 : 2 < fKind b) (h4 : 4 < fKind b) (h5 : (FloatKind.f64.format.order (fAbs b) 4746794007248502784 == some Ordering.gt) = false) (h6 : (FloatKind.f64.format.order (fAbs b) 4746794007248502784 == some Ordering.eq) = false) :
    Calls Try.prog 144 #[.float .f64 b] w fun e w' => e = .returned (.tuple #[.int .i64 (fOf b).1, .int .i64 (fOf b).2]) ∧ w = w' := by
  have k1 := call_bits b
  have Hf := Lib.hid (fOf_num h1 h2 h4 h5 h6)
  obtain ⟨E, hE, hE0, hE1, HE⟩ : ∃ E : Int, bits BinOp.and IntKind.u64 (↑b / 4503599627370496) 2047 = E ∧ 0 ≤ E ∧ E ≤ 2047 ∧ Hid ((b : Int) / 4503599627370496 % 2048 = E) :=
    ⟨_, u64_and2047 ((b : Int) / 4503599627370496) (by omega) (by omega), by omega, by omega, Lib.hid rfl⟩
  obtain ⟨M, hM, hM0, hM1, HM⟩ : ∃ M : Int, bits BinOp.and IntKind.u64 (↑b) 4503599627370495 = M ∧ 0 ≤ M ∧ M ≤ 4503599627370495 ∧ Hid ((b : Int) % 4503599627370496 = M) :=
    ⟨_, u64_and52 (b : Int) (by omega) (by omega), by omega, by omega, Lib.hid rfl⟩
  have hor : bits BinOp.or IntKind.i64 M 4503599627370496 = M + 4503599627370496 := i64_or52 M hM0 hM1
  have HB : Hid (∀ t, (FloatKind.f64.format.order b 0 == some Ordering.lt) = t → fOf b = (fVal t E M, 0)) := Lib.hid (fun t ht => by rw [Hf.out, HE.out, HM.out, ht])
  obtain ⟨t, ht, Ht⟩ : ∃ t, (FloatKind.f64.format.order b 0 == some Ordering.lt) = t ∧ Hid (fOf b = (fVal t E M, 0)) := ⟨_, rfl, Lib.hid (HB.out _ rfl)⟩
  clear HB Hf
  by_cases e0 : 0 < E
  · by_cases hp : 0 ≤ E - 1023 - 52 + 32
    · have Hv := Lib.hid (fVal_up (neg := t) (M := M) e0 hp)
      cases t
      · go_enter Try.func144, Try.ntmps144
        go_wp2_with (first | (go_at_call 146; refine (kind_any _ _).mono ?_; rintro e w' ⟨rfl, rfl⟩) | (go_at_call 147; refine (abs_any _ _).mono ?_; rintro e w' ⟨rfl, rfl⟩))
        go_ret2
        exact ⟨ret_two (by rw [Ht.out, Hv.out]; rfl) (by rw [Ht.out]), rfl⟩
      · go_enter Try.func144, Try.ntmps144
        go_wp2_with (first | (go_at_call 146; refine (kind_any _ _).mono ?_; rintro e w' ⟨rfl, rfl⟩) | (go_at_call 147; refine (abs_any _ _).mono ?_; rintro e w' ⟨rfl, rfl⟩))
        go_ret2
        exact ⟨ret_two (by rw [Ht.out, Hv.out]; rfl) (by rw [Ht.out]), rfl⟩
    · have Hv := Lib.hid (fVal_down (neg := t) (M := M) e0 (Int.not_le.1 hp))
      by_cases hq : -(E - 1023 - 52 + 32) ≤ 63
      · have Hm : Hid ((min (-(E - 1023 - 52 + 32)) 63).toNat = (-(E - 1023 - 52 + 32)).toNat) := Lib.hid (by omega)
        cases t
        · go_enter Try.func144, Try.ntmps144
          go_wp2_with (first | (go_at_call 146; refine (kind_any _ _).mono ?_; rintro e w' ⟨rfl, rfl⟩) | (go_at_call 147; refine (abs_any _ _).mono ?_; rintro e w' ⟨rfl, rfl⟩))
          go_ret2
          exact ⟨ret_two (by rw [Ht.out, Hv.out, Hm.out]; rfl) (by rw [Ht.out]), rfl⟩
        · go_enter Try.func144, Try.ntmps144
          go_wp2_with (first | (go_at_call 146; refine (kind_any _ _).mono ?_; rintro e w' ⟨rfl, rfl⟩) | (go_at_call 147; refine (abs_any _ _).mono ?_; rintro e w' ⟨rfl, rfl⟩))
          go_ret2
          exact ⟨ret_two (by rw [Ht.out, Hv.out, Hm.out]; rfl) (by rw [Ht.out]), rfl⟩
      · have Hm : Hid ((min (-(E - 1023 - 52 + 32)) 63).toNat = 63) := Lib.hid (by omega)
        cases t
        · go_enter Try.func144, Try.ntmps144
          go_wp2_with (first | (go_at_call 146; refine (kind_any _ _).mono ?_; rintro e w' ⟨rfl, rfl⟩) | (go_at_call 147; refine (abs_any _ _).mono ?_; rintro e w' ⟨rfl, rfl⟩))
          go_ret2
          exact ⟨ret_two (by rw [Ht.out, Hv.out, Hm.out]; rfl) (by rw [Ht.out]), rfl⟩
        · go_enter Try.func144, Try.ntmps144
          go_wp2_with (first | (go_at_call 146; refine (kind_any _ _).mono ?_; rintro e w' ⟨rfl, rfl⟩) | (go_at_call 147; refine (abs_any _ _).mono ?_; rintro e w' ⟨rfl, rfl⟩))
          go_ret2
          exact ⟨ret_two (by rw [Ht.out, Hv.out, Hm.out]; rfl) (by rw [Ht.out]), rfl⟩
  · obtain rfl : E = 0 := by omega
    have Hv := Lib.hid (fVal_small (neg := t) (M := M))
    cases t
    · go_enter Try.func144, Try.ntmps144
      go_wp2_with (first | (go_at_call 146; refine (kind_any _ _).mono ?_; rintro e w' ⟨rfl, rfl⟩) | (go_at_call 147; refine (abs_any _ _).mono ?_; rintro e w' ⟨rfl, rfl⟩))
      go_ret2
      exact ⟨ret_two (by rw [Ht.out, Hv.out]; rfl) (by rw [Ht.out]), rfl⟩
    · go_enter Try.func144, Try.ntmps144
      go_wp2_with (first | (go_at_call 146; refine (kind_any _ _).mono ?_; rintro e w' ⟨rfl, rfl⟩) | (go_at_call 147; refine (abs_any _ _).mono ?_; rintro e w' ⟨rfl, rfl⟩))
      go_ret2
      exact ⟨ret_two (by rw [Ht.out, Hv.out]; rfl) (by rw [Ht.out]), rfl⟩

set_option maxHeartbeats 400000 in
theorem of_any (b : Nat) (w : World) (hb : b < 18446744073709551616) :
    Calls Try.prog 144 #[.float .f64 b] w fun e w' => e = .returned (.tuple #[.int .i64 (fOf b).1, .int .i64 (fOf b).2]) ∧ w = w' := by
  have k1 := call_bits b
  by_cases h0 : fKind b = 0
  · have Hf : Hid (fOf b = (0, 30)) := Lib.hid (by simp only [fOf]; rw [if_pos h0])
    have h1 : (fKind b == 0) = true := by simpa using h0
    clear h0
    go_enter Try.func144, Try.ntmps144
    go_wp2_with (first | (go_at_call 146; refine (kind_any _ _).mono ?_; rintro e w' ⟨rfl, rfl⟩) | (go_at_call 147; refine (abs_any _ _).mono ?_; rintro e w' ⟨rfl, rfl⟩))
    go_ret2
    exact ⟨ret_two (by rw [Hf.out]) (by rw [Hf.out]), rfl⟩
  have h1 : (fKind b == 0) = false := by simpa using h0
  by_cases h2 : fKind b ≤ 2
  · have Hf : Hid (fOf b = (0, 31)) := Lib.hid (by simp only [fOf]; rw [if_neg h0, if_pos h2])
    clear h0
    go_enter Try.func144, Try.ntmps144
    go_wp2_with (first | (go_at_call 146; refine (kind_any _ _).mono ?_; rintro e w' ⟨rfl, rfl⟩) | (go_at_call 147; refine (abs_any _ _).mono ?_; rintro e w' ⟨rfl, rfl⟩))
    go_ret2
    exact ⟨ret_two (by rw [Hf.out]) (by rw [Hf.out]), rfl⟩
  by_cases h4 : fKind b ≤ 4
  · have Hf : Hid (fOf b = (0, 0)) := Lib.hid (by simp only [fOf]; rw [if_neg h0, if_neg h2, if_pos h4])
    clear h0
    go_enter Try.func144, Try.ntmps144
    go_wp2_with (first | (go_at_call 146; refine (kind_any _ _).mono ?_; rintro e w' ⟨rfl, rfl⟩) | (go_at_call 147; refine (abs_any _ _).mono ?_; rintro e w' ⟨rfl, rfl⟩))
    go_ret2
    exact ⟨ret_two (by rw [Hf.out]) (by rw [Hf.out]), rfl⟩
  by_cases h5 : (FloatKind.f64.format.order (fAbs b) 4746794007248502784 == some Ordering.gt) = true
  · have Hf : Hid (fOf b = (0, 32)) := Lib.hid (by simp only [fOf]; rw [if_neg h0, if_neg h2, if_neg h4, if_pos (Or.inl h5)])
    clear h0
    go_enter Try.func144, Try.ntmps144
    go_wp2_with (first | (go_at_call 146; refine (kind_any _ _).mono ?_; rintro e w' ⟨rfl, rfl⟩) | (go_at_call 147; refine (abs_any _ _).mono ?_; rintro e w' ⟨rfl, rfl⟩))
    go_ret2
    exact ⟨ret_two (by rw [Hf.out]) (by rw [Hf.out]), rfl⟩
  by_cases h6 : (FloatKind.f64.format.order (fAbs b) 4746794007248502784 == some Ordering.eq) = true
  · have Hf : Hid (fOf b = (0, 32)) := Lib.hid (by simp only [fOf]; rw [if_neg h0, if_neg h2, if_neg h4, if_pos (Or.inr h6)])
    clear h0
    go_enter Try.func144, Try.ntmps144
    go_wp2_with (first | (go_at_call 146; refine (kind_any _ _).mono ?_; rintro e w' ⟨rfl, rfl⟩) | (go_at_call 147; refine (abs_any _ _).mono ?_; rintro e w' ⟨rfl, rfl⟩))
    go_ret2
    exact ⟨ret_two (by rw [Hf.out]) (by rw [Hf.out]), rfl⟩
  exact of_num b w hb h1 (by omega) (by omega) (by simpa using h5) (by simpa using h6)

set_option maxHeartbeats 800000 in
theorem within_any (b lo hi : Nat) (w : World) (hb : b < 18446744073709551616) (hl : lo < 18446744073709551616) (hh : hi < 18446744073709551616) :
    Calls Try.prog 141 #[.float .f64 b, .float .f64 lo, .float .f64 hi] w fun e w' => e = .returned (.tuple #[.int .i64 (fWithin b lo hi).1, .int .i64 (fWithin b lo hi).2]) ∧ Below w.heap.size w w' := by
  by_cases c1 : (fOf b).2 ≠ 0
  · have Hf : Hid (fWithin b lo hi = (0, (fOf b).2)) := Lib.hid (by simp only [fWithin]; rw [if_pos c1])
    have h1 : ((fOf b).2 != 0) = true := by simpa using c1
    clear c1
    go_enter Try.func141, Try.ntmps141
    go_wp2
    refine wp_loop_rounds 1 ?_
    rw [rounds_succ]
    go_wp2_with (go_at_call 144; refine (of_any _ _ (by assumption)).mono ?_; rintro e w' ⟨rfl, rfl⟩)
    go_ret2
    exact ⟨ret_two (by rw [Hf.out]) (by rw [Hf.out]), (Below.refl _ _).alloc (Nat.le_refl _) _⟩
  have h1 : ((fOf b).2 != 0) = false := by simpa using c1
  by_cases c2 : (fOf lo).2 ≠ 0
  · have Hf : Hid (fWithin b lo hi = (0, (fOf lo).2)) := Lib.hid (by simp only [fWithin]; rw [if_neg c1, if_pos c2])
    have h2 : ((fOf lo).2 != 0) = true := by simpa using c2
    clear c1 c2
    go_enter Try.func141, Try.ntmps141
    go_wp2
    refine wp_loop_rounds 2 ?_
    rw [rounds_succ]
    go_wp2_with (go_at_call 144; refine (of_any _ _ (by assumption)).mono ?_; rintro e w' ⟨rfl, rfl⟩)
    rw [rounds_succ]
    go_wp2_with (go_at_call 144; refine (of_any _ _ (by assumption)).mono ?_; rintro e w' ⟨rfl, rfl⟩)
    go_ret2
    exact ⟨ret_two (by rw [Hf.out]) (by rw [Hf.out]), (Below.refl _ _).alloc (Nat.le_refl _) _⟩
  have h2 : ((fOf lo).2 != 0) = false := by simpa using c2
  by_cases c3 : (fOf hi).2 ≠ 0
  · have Hf : Hid (fWithin b lo hi = (0, (fOf hi).2)) := Lib.hid (by simp only [fWithin]; rw [if_neg c1, if_neg c2, if_pos c3])
    have h3 : ((fOf hi).2 != 0) = true := by simpa using c3
    clear c1 c2 c3
    go_enter Try.func141, Try.ntmps141
    go_wp2
    refine wp_loop_rounds 3 ?_
    rw [rounds_succ]
    go_wp2_with (go_at_call 144; refine (of_any _ _ (by assumption)).mono ?_; rintro e w' ⟨rfl, rfl⟩)
    rw [rounds_succ]
    go_wp2_with (go_at_call 144; refine (of_any _ _ (by assumption)).mono ?_; rintro e w' ⟨rfl, rfl⟩)
    rw [rounds_succ]
    go_wp2_with (go_at_call 144; refine (of_any _ _ (by assumption)).mono ?_; rintro e w' ⟨rfl, rfl⟩)
    go_ret2
    exact ⟨ret_two (by rw [Hf.out]) (by rw [Hf.out]), (Below.refl _ _).alloc (Nat.le_refl _) _⟩
  have h3 : ((fOf hi).2 != 0) = false := by simpa using c3
  by_cases c4 : (FloatKind.f64.format.order b lo == some Ordering.lt) = true
  · have Hf : Hid (fWithin b lo hi = (0, 32)) := Lib.hid (by simp only [fWithin]; rw [if_neg c1, if_neg c2, if_neg c3, if_pos (Or.inl c4)])
    clear c1 c2 c3
    go_enter Try.func141, Try.ntmps141
    go_wp2
    refine wp_loop_rounds 4 ?_
    rw [rounds_succ]
    go_wp2_with (go_at_call 144; refine (of_any _ _ (by assumption)).mono ?_; rintro e w' ⟨rfl, rfl⟩)
    rw [rounds_succ]
    go_wp2_with (go_at_call 144; refine (of_any _ _ (by assumption)).mono ?_; rintro e w' ⟨rfl, rfl⟩)
    rw [rounds_succ]
    go_wp2_with (go_at_call 144; refine (of_any _ _ (by assumption)).mono ?_; rintro e w' ⟨rfl, rfl⟩)
    rw [rounds_succ]
    go_wp2_with (go_at_call 144; refine (of_any _ _ (by assumption)).mono ?_; rintro e w' ⟨rfl, rfl⟩)
    go_ret2
    exact ⟨ret_two (by rw [Hf.out]) (by rw [Hf.out]), (Below.refl _ _).alloc (Nat.le_refl _) _⟩
  have h4 : (FloatKind.f64.format.order b lo == some Ordering.lt) = false := by simpa using c4
  by_cases c5 : (FloatKind.f64.format.order hi b == some Ordering.lt) = true
  · have Hf : Hid (fWithin b lo hi = (0, 32)) := Lib.hid (by simp only [fWithin]; rw [if_neg c1, if_neg c2, if_neg c3, if_pos (Or.inr c5)])
    clear c1 c2 c3 c4
    go_enter Try.func141, Try.ntmps141
    go_wp2
    refine wp_loop_rounds 4 ?_
    rw [rounds_succ]
    go_wp2_with (go_at_call 144; refine (of_any _ _ (by assumption)).mono ?_; rintro e w' ⟨rfl, rfl⟩)
    rw [rounds_succ]
    go_wp2_with (go_at_call 144; refine (of_any _ _ (by assumption)).mono ?_; rintro e w' ⟨rfl, rfl⟩)
    rw [rounds_succ]
    go_wp2_with (go_at_call 144; refine (of_any _ _ (by assumption)).mono ?_; rintro e w' ⟨rfl, rfl⟩)
    rw [rounds_succ]
    go_wp2_with (go_at_call 144; refine (of_any _ _ (by assumption)).mono ?_; rintro e w' ⟨rfl, rfl⟩)
    go_ret2
    exact ⟨ret_two (by rw [Hf.out]) (by rw [Hf.out]), (Below.refl _ _).alloc (Nat.le_refl _) _⟩
  have h5 : (FloatKind.f64.format.order hi b == some Ordering.lt) = false := by simpa using c5
  have Hf : Hid (fWithin b lo hi = fOf b) := Lib.hid (by simp only [fWithin]; rw [if_neg c1, if_neg c2, if_neg c3, if_neg (by rw [h4, h5]; decide)])
  clear c1 c2 c3 c4 c5
  go_enter Try.func141, Try.ntmps141
  go_wp2
  refine wp_loop_rounds 4 ?_
  rw [rounds_succ]
  go_wp2_with (go_at_call 144; refine (of_any _ _ (by assumption)).mono ?_; rintro e w' ⟨rfl, rfl⟩)
  rw [rounds_succ]
  go_wp2_with (go_at_call 144; refine (of_any _ _ (by assumption)).mono ?_; rintro e w' ⟨rfl, rfl⟩)
  rw [rounds_succ]
  go_wp2_with (go_at_call 144; refine (of_any _ _ (by assumption)).mono ?_; rintro e w' ⟨rfl, rfl⟩)
  rw [rounds_succ]
  go_wp2_with (go_at_call 144; refine (of_any _ _ (by assumption)).mono ?_; rintro e w' ⟨rfl, rfl⟩)
  go_ret2
  exact ⟨ret_two (by rw [Hf.out]) (by rw [Hf.out]), (Below.refl _ _).alloc (Nat.le_refl _) _⟩
end Go.Proofs.Ytopgidgkpafeeaa
/- The walks over package setup: its fields, the standard configuration, the faults of one, what is set. -/
namespace Go.Proofs.Ytopgidgkpafeeaa
open Go.RowKit
set_option linter.unusedVariables false
set_option maxRecDepth 100000

/-- a region that draws: its first n operations read, or call quietly; what is left is in one order -/
theorem wp_region_tail {P : Program} {id : Nat} {Q : Exit → Act → World → Prop} {a : Act} {w : World} {l : List Oper} (n : Nat) (hm : P.follows .mixedOrders = true) (hB : Region.lexTailB .any l.toArray n = true)
    (h : wpStill P l.toArray w.drew (fun a' => wpList P l.toArray Q (l.drop n) a' w.drew) (l.take n) a) : (Code.region id l.toArray true).wp P Q a w :=
  wp_region_still_tail n hm hB h
theorem store_float (P : Program) (a : Addr) (k : FloatKind) (n : Nat) (m : Mode) (w : World) : (store a (.float k n) m).run P w = stored P w a (.float k n) m := run_store P w a _ m rfl
theorem Calls.regrown_of_same {P : Program} {f : FuncId} {args : Array Value} {w : World} {d : Nat} {os : Array Obj} {v : Value}
    (h : Calls P f args (Sort.grow (redrawn w d) os) fun e w' => e = .returned v ∧ w' = Sort.grow (redrawn w d) os) : Calls P f args (Sort.grow (redrawn w d) os) fun e w'' => e = .returned v ∧ ∃ p : Regrown, w'' = Sort.grow (redrawn w p.d) p.os :=
  h.mono fun _ _ ⟨he, hb⟩ => ⟨he, ⟨⟨d, os⟩, hb⟩⟩
theorem below_set {B : Nat} {w w' : World} (h : Below B w w') {a : Addr} (ha : a.block < B) (v : Value) : Below B (w.setCell a v) (w'.setCell a v) :=
  ⟨h.os, h.tape, h.output, by simpa [World.setCell] using h.size, fun k hk => by
    simp only [World.setCell, Array.getElem?_modify]
    rw [h.block k hk]⟩
theorem size_setCell (w : World) (a : Addr) (v : Value) : (w.setCell a v).heap.size = w.heap.size := by simp [World.setCell]

set_option maxHeartbeats 400000 in
theorem whole_any (n lo hi : Int) (w : World) :
    Calls Try.prog 142 #[.int .i64 n, .int .i64 lo, .int .i64 hi] w fun e w' => e = .returned (.tuple #[.int .i64 (sWhole n lo hi).1, .int .i64 (sWhole n lo hi).2]) ∧ w = w' := by
  by_cases h1 : n < lo
  · have Hf : Hid (sWhole n lo hi = (0, 100)) := Lib.hid (by simp only [sWhole]; rw [if_pos (Or.inl h1)])
    go_enter Try.func142, Try.ntmps142
    go_wp2
    go_ret2
    exact ⟨ret_two (by rw [Hf.out]) (by rw [Hf.out]), rfl⟩
  · by_cases h2 : n > hi
    · have Hf : Hid (sWhole n lo hi = (0, 100)) := Lib.hid (by simp only [sWhole]; rw [if_pos (Or.inr h2)])
      go_enter Try.func142, Try.ntmps142
      go_wp2
      go_ret2
      exact ⟨ret_two (by rw [Hf.out]) (by rw [Hf.out]), rfl⟩
    · have Hf : Hid (sWhole n lo hi = (n, 0)) := Lib.hid (by simp only [sWhole]; rw [if_neg (by omega)])
      go_enter Try.func142, Try.ntmps142
      go_wp2
      go_ret2
      exact ⟨ret_two (by rw [Hf.out]) (by rw [Hf.out]), rfl⟩

set_option maxHeartbeats 400000 in
theorem set_float (nm : ByteArray) (kat kto : Nat) (lo hi us : Nat) (b o i : Nat) (old : Value) (w : World) (hc : w.cell? ⟨b, o + i, none⟩ = some old) (hf : w.frozen? ⟨b, o + i, none⟩ = false) (hb : b < w.heap.size)
    (hk : ∀ w, (callFunc kat #[.pointer (some ⟨b, o, none⟩)]).run Try.prog w = .ok (.enter kat #[.pointer (some ⟨b, o, none⟩)]) w)
    (hat : ∀ w, Calls Try.prog kat #[.pointer (some ⟨b, o, none⟩)] w fun e w' => e = .returned (.pointer (some ⟨b, o + i, none⟩)) ∧ w' = w) :
    Calls Try.prog 170 #[.agg #[.string nm, .func (.func kat) #[] #[], .float .f64 lo, .float .f64 hi, .float .f64 us, .func (.func kto) #[] #[], .func (.func 141) #[] #[]], .pointer (some ⟨b, o, none⟩)] w
      fun e w' => e = .returned (.tuple #[]) ∧ Below w.heap.size (w.setCell ⟨b, o + i, none⟩ (.float .f64 us)) w' := by
  have Hat := Lib.hid hat
  clear hat
  have sf := store_float Try.prog
  go_enter Try.func170, Try.ntmps170
  go_wp2
  refine wp_region_tail 7 (by kernel_rfl) (by kernel_rfl) ?_
  simp only [List.take_succ_cons, List.take_zero, List.drop_succ_cons, List.drop_zero]
  repeat still_step
  refine wpStill_step (fun K hK => ?_)
  go_simp
  refine ⟨_, Hat.out _, hK _ ?_⟩
  clear hK K
  repeat still_step
  refine wpStill_nil ?_
  go_wp2
  go_end0
  exact ⟨rfl, ((Below.refl _ _).alloc (Nat.le_of_eq (size_setCell _ _ _).symm) _).drew⟩

set_option maxHeartbeats 800000 in
theorem check_float (nm : ByteArray) (kat kto : Nat) (lo hi us x : Nat) (b o i pb po : Nat) (old : Value) (w : World) (hfb : x < 18446744073709551616) (hlo : lo < 18446744073709551616) (hhi : hi < 18446744073709551616) (hc : w.cell? ⟨b, o + i, none⟩ = some (.float .f64 x)) (hb : b < w.heap.size)
    (hp : w.cell? ⟨pb, po + i, none⟩ = some old) (hf : w.frozen? ⟨pb, po + i, none⟩ = false) (hpb : pb < w.heap.size)
    (hk : ∀ w, (callFunc kat #[.pointer (some ⟨b, o, none⟩)]).run Try.prog w = .ok (.enter kat #[.pointer (some ⟨b, o, none⟩)]) w)
    (hat : ∀ w, Calls Try.prog kat #[.pointer (some ⟨b, o, none⟩)] w fun e w' => e = .returned (.pointer (some ⟨b, o + i, none⟩)) ∧ w' = w)
    (hk2 : ∀ w, (callFunc kto #[.pointer (some ⟨pb, po, none⟩)]).run Try.prog w = .ok (.enter kto #[.pointer (some ⟨pb, po, none⟩)]) w)
    (hat2 : ∀ w, Calls Try.prog kto #[.pointer (some ⟨pb, po, none⟩)] w fun e w' => e = .returned (.pointer (some ⟨pb, po + i, none⟩)) ∧ w' = w) :
    Calls Try.prog 169 #[.agg #[.string nm, .func (.func kat) #[] #[], .float .f64 lo, .float .f64 hi, .float .f64 us, .func (.func kto) #[] #[], .func (.func 141) #[] #[]], .pointer (some ⟨b, o, none⟩), .pointer (some ⟨pb, po, none⟩)] w
      fun e w' => e = .returned (.int .i64 (fWithin x lo hi).2) ∧ Below w.heap.size (w.setCell ⟨pb, po + i, none⟩ (.int .i64 (fWithin x lo hi).1)) w' := by
  have Hat := Lib.hid hat
  clear hat
  have Hat2 := Lib.hid hat2
  clear hat2
  go_enter Try.func169, Try.ntmps169
  go_wp2
  obtain ⟨W, HW, q6, q1, q2, q3, qx⟩ : ∃ W, Hid (w.alloc (.cells #[.string nm, .func (.func kat) #[] #[], .float .f64 lo, .float .f64 hi, .float .f64 us, .func (.func kto) #[] #[], .func (.func 141) #[] #[]] 167) = W) ∧
      (∀ d os, (Sort.grow (redrawn W d) os).cell? ⟨w.heap.size, 6, none⟩ = some (.func (.func 141) #[] #[])) ∧ (∀ d os, (Sort.grow (redrawn W d) os).cell? ⟨w.heap.size, 1, none⟩ = some (.func (.func kat) #[] #[])) ∧
      (∀ d os, (Sort.grow (redrawn W d) os).cell? ⟨w.heap.size, 2, none⟩ = some (.float .f64 lo)) ∧ (∀ d os, (Sort.grow (redrawn W d) os).cell? ⟨w.heap.size, 3, none⟩ = some (.float .f64 hi)) ∧ (∀ d os, (Sort.grow (redrawn W d) os).cell? ⟨b, o + i, none⟩ = some (.float .f64 x)) :=
    ⟨_, Lib.hid rfl, fun d os => cell_regrown (by simp) d os, fun d os => cell_regrown (by simp) d os, fun d os => cell_regrown (by simp) d os, fun d os => cell_regrown (by simp) d os, fun d os => cell_regrown (by rw [World.cell?_alloc_lt _ _ _ hb]; exact hc) d os⟩
  have q5 : W.cell? ⟨w.heap.size, 5, none⟩ = some (.func (.func kto) #[] #[]) := by rw [← HW.out]; simp
  have qp : W.cell? ⟨pb, po + i, none⟩ = some old := by rw [← HW.out, World.cell?_alloc_lt _ _ _ hpb]; exact hp
  have qf : W.frozen? ⟨pb, po + i, none⟩ = false := by rw [← HW.out, World.frozen?_alloc_old _ _ _ (Nat.ne_of_lt hpb)]; exact hf
  have qb : Below w.heap.size w W := by rw [← HW.out]; exact (Below.refl _ _).alloc (Nat.le_refl _) _
  have qs : w.heap.size < W.heap.size := by rw [← HW.out]; simp
  rw [HW.out]
  refine wp_region_quiet_below (by kernel_rfl) (by kernel_rfl) ?_
  repeat (quiet_step (first | (with_reducible refine Calls.regrown_of_same (Hat.out _)) | (with_reducible refine Calls.regrown_of (within_any _ _ _ _ hfb hlo hhi))))
  refine wpQuiet_nil ?_
  rintro _ ⟨p, rfl⟩
  have hb2 := below_regrown W p.d p.os
  generalize Sort.grow (redrawn W p.d) p.os = W2 at hb2 ⊢
  have r5 : W2.cell? ⟨w.heap.size, 5, none⟩ = some (.func (.func kto) #[] #[]) := by rw [hb2.cell qs]; exact q5
  have rp : W2.cell? ⟨pb, po + i, none⟩ = some old := by rw [hb2.cell (Nat.lt_trans hpb qs)]; exact qp
  have rf : W2.frozen? ⟨pb, po + i, none⟩ = false := by rw [hb2.frozen (Nat.lt_trans hpb qs)]; exact qf
  clear q6 q1 q2 q3 qx q5 qp qf HW hp hf hc
  go_wp2_with (with_reducible refine (Hat2.out _).mono ?_; rintro e w' ⟨rfl, rfl⟩)
  go_ret
  exact ⟨rfl, below_set (qb.trans (hb2.mono (Nat.le_of_lt qs))) hpb _⟩

set_option maxHeartbeats 400000 in
theorem set_int (nm : ByteArray) (kat kto : Nat) (lo hi us : Int) (b o i : Nat) (old : Value) (w : World) (hc : w.cell? ⟨b, o + i, none⟩ = some old) (hf : w.frozen? ⟨b, o + i, none⟩ = false) (hb : b < w.heap.size)
    (hk : ∀ w, (callFunc kat #[.pointer (some ⟨b, o, none⟩)]).run Try.prog w = .ok (.enter kat #[.pointer (some ⟨b, o, none⟩)]) w)
    (hat : ∀ w, Calls Try.prog kat #[.pointer (some ⟨b, o, none⟩)] w fun e w' => e = .returned (.pointer (some ⟨b, o + i, none⟩)) ∧ w' = w) :
    Calls Try.prog 173 #[.agg #[.string nm, .func (.func kat) #[] #[], .int .i64 lo, .int .i64 hi, .int .i64 us, .func (.func kto) #[] #[], .func (.func 142) #[] #[]], .pointer (some ⟨b, o, none⟩)] w
      fun e w' => e = .returned (.tuple #[]) ∧ Below w.heap.size (w.setCell ⟨b, o + i, none⟩ (.int .i64 us)) w' := by
  have Hat := Lib.hid hat
  clear hat
  go_enter Try.func173, Try.ntmps173
  go_wp2
  refine wp_region_tail 7 (by kernel_rfl) (by kernel_rfl) ?_
  simp only [List.take_succ_cons, List.take_zero, List.drop_succ_cons, List.drop_zero]
  repeat still_step
  refine wpStill_step (fun K hK => ?_)
  go_simp
  refine ⟨_, Hat.out _, hK _ ?_⟩
  clear hK K
  repeat still_step
  refine wpStill_nil ?_
  go_wp2
  go_end0
  exact ⟨rfl, ((Below.refl _ _).alloc (Nat.le_of_eq (size_setCell _ _ _).symm) _).drew⟩

set_option maxHeartbeats 800000 in
theorem check_int (nm : ByteArray) (kat kto : Nat) (lo hi us x : Int) (b o i pb po : Nat) (old : Value) (w : World) (hc : w.cell? ⟨b, o + i, none⟩ = some (.int .i64 x)) (hb : b < w.heap.size)
    (hp : w.cell? ⟨pb, po + i, none⟩ = some old) (hf : w.frozen? ⟨pb, po + i, none⟩ = false) (hpb : pb < w.heap.size)
    (hk : ∀ w, (callFunc kat #[.pointer (some ⟨b, o, none⟩)]).run Try.prog w = .ok (.enter kat #[.pointer (some ⟨b, o, none⟩)]) w)
    (hat : ∀ w, Calls Try.prog kat #[.pointer (some ⟨b, o, none⟩)] w fun e w' => e = .returned (.pointer (some ⟨b, o + i, none⟩)) ∧ w' = w)
    (hk2 : ∀ w, (callFunc kto #[.pointer (some ⟨pb, po, none⟩)]).run Try.prog w = .ok (.enter kto #[.pointer (some ⟨pb, po, none⟩)]) w)
    (hat2 : ∀ w, Calls Try.prog kto #[.pointer (some ⟨pb, po, none⟩)] w fun e w' => e = .returned (.pointer (some ⟨pb, po + i, none⟩)) ∧ w' = w) :
    Calls Try.prog 172 #[.agg #[.string nm, .func (.func kat) #[] #[], .int .i64 lo, .int .i64 hi, .int .i64 us, .func (.func kto) #[] #[], .func (.func 142) #[] #[]], .pointer (some ⟨b, o, none⟩), .pointer (some ⟨pb, po, none⟩)] w
      fun e w' => e = .returned (.int .i64 (sWhole x lo hi).2) ∧ Below w.heap.size (w.setCell ⟨pb, po + i, none⟩ (.int .i64 (sWhole x lo hi).1)) w' := by
  have Hat := Lib.hid hat
  clear hat
  have Hat2 := Lib.hid hat2
  clear hat2
  go_enter Try.func172, Try.ntmps172
  go_wp2
  obtain ⟨W, HW, q6, q1, q2, q3, qx⟩ : ∃ W, Hid (w.alloc (.cells #[.string nm, .func (.func kat) #[] #[], .int .i64 lo, .int .i64 hi, .int .i64 us, .func (.func kto) #[] #[], .func (.func 142) #[] #[]] 170) = W) ∧
      (∀ d os, (Sort.grow (redrawn W d) os).cell? ⟨w.heap.size, 6, none⟩ = some (.func (.func 142) #[] #[])) ∧ (∀ d os, (Sort.grow (redrawn W d) os).cell? ⟨w.heap.size, 1, none⟩ = some (.func (.func kat) #[] #[])) ∧
      (∀ d os, (Sort.grow (redrawn W d) os).cell? ⟨w.heap.size, 2, none⟩ = some (.int .i64 lo)) ∧ (∀ d os, (Sort.grow (redrawn W d) os).cell? ⟨w.heap.size, 3, none⟩ = some (.int .i64 hi)) ∧ (∀ d os, (Sort.grow (redrawn W d) os).cell? ⟨b, o + i, none⟩ = some (.int .i64 x)) :=
    ⟨_, Lib.hid rfl, fun d os => cell_regrown (by simp) d os, fun d os => cell_regrown (by simp) d os, fun d os => cell_regrown (by simp) d os, fun d os => cell_regrown (by simp) d os, fun d os => cell_regrown (by rw [World.cell?_alloc_lt _ _ _ hb]; exact hc) d os⟩
  have q5 : W.cell? ⟨w.heap.size, 5, none⟩ = some (.func (.func kto) #[] #[]) := by rw [← HW.out]; simp
  have qp : W.cell? ⟨pb, po + i, none⟩ = some old := by rw [← HW.out, World.cell?_alloc_lt _ _ _ hpb]; exact hp
  have qf : W.frozen? ⟨pb, po + i, none⟩ = false := by rw [← HW.out, World.frozen?_alloc_old _ _ _ (Nat.ne_of_lt hpb)]; exact hf
  have qb : Below w.heap.size w W := by rw [← HW.out]; exact (Below.refl _ _).alloc (Nat.le_refl _) _
  have qs : w.heap.size < W.heap.size := by rw [← HW.out]; simp
  rw [HW.out]
  refine wp_region_quiet_below (by kernel_rfl) (by kernel_rfl) ?_
  repeat (quiet_step (first | (with_reducible refine Calls.regrown_of_same (Hat.out _)) | (with_reducible refine Calls.regrown_of ((whole_any _ _ _ _).mono fun _ _ h => ⟨h.1, h.2 ▸ Below.refl _ _⟩))))
  refine wpQuiet_nil ?_
  rintro _ ⟨p, rfl⟩
  have hb2 := below_regrown W p.d p.os
  generalize Sort.grow (redrawn W p.d) p.os = W2 at hb2 ⊢
  have r5 : W2.cell? ⟨w.heap.size, 5, none⟩ = some (.func (.func kto) #[] #[]) := by rw [hb2.cell qs]; exact q5
  have rp : W2.cell? ⟨pb, po + i, none⟩ = some old := by rw [hb2.cell (Nat.lt_trans hpb qs)]; exact qp
  have rf : W2.frozen? ⟨pb, po + i, none⟩ = false := by rw [hb2.frozen (Nat.lt_trans hpb qs)]; exact qf
  clear q6 q1 q2 q3 qx q5 qp qf HW hp hf hc
  go_wp2_with (with_reducible refine (Hat2.out _).mono ?_; rintro e w' ⟨rfl, rfl⟩)
  go_ret
  exact ⟨rfl, below_set (qb.trans (hb2.mono (Nat.le_of_lt qs))) hpb _⟩

set_option maxHeartbeats 400000 in
theorem mk_float (nm : ByteArray) (lo hi us : Nat) (fa fb : Nat) (w : World) :
    Calls Try.prog 111 #[.string nm, .float .f64 lo, .float .f64 hi, .float .f64 us, .func (.func fa) #[] #[], .func (.func fb) #[] #[]] w fun e w' => e = .returned (.iface 167 (.agg #[.string nm, .func (.func fa) #[] #[], .float .f64 lo, .float .f64 hi, .float .f64 us, .func (.func fb) #[] #[], .func (.func 141) #[] #[]])) ∧ w' = w := by
  go_enter Try.func111, Try.ntmps111
  go_wp2
  go_ret
  exact ⟨rfl, rfl⟩

set_option maxHeartbeats 400000 in
theorem mk_count (nm : ByteArray) (lo hi us : Int) (fa fb : Nat) (w : World) :
    Calls Try.prog 126 #[.string nm, .int .i64 lo, .int .i64 hi, .int .i64 us, .func (.func fa) #[] #[], .func (.func fb) #[] #[]] w fun e w' => e = .returned (.iface 170 (.agg #[.string nm, .func (.func fa) #[] #[], .int .i64 lo, .int .i64 hi, .int .i64 us, .func (.func fb) #[] #[], .func (.func 142) #[] #[]])) ∧ w' = w := by
  go_enter Try.func126, Try.ntmps126
  go_wp2
  go_ret
  exact ⟨rfl, rfl⟩

def fa1 : Value := .agg #[.string ⟨#[115, 116, 101, 112]⟩, .func (.func 112) #[] #[], .float .f64 4562254508917369340, .float .f64 4621819117588971520, .float .f64 4593671619917905920, .func (.func 113) #[] #[], .func (.func 141) #[] #[]]
def fa2 : Value := .agg #[.string ⟨#[119, 97, 116, 99, 104]⟩, .func (.func 114) #[] #[], .float .f64 4607182418800017408, .float .f64 4660134898793709568, .float .f64 4643985272004935680, .func (.func 115) #[] #[], .func (.func 141) #[] #[]]
def fa3 : Value := .agg #[.string ⟨#[112, 97, 110, 105, 99]⟩, .func (.func 116) #[] #[], .float .f64 4607182418800017408, .float .f64 4681608360884174848, .float .f64 4652007308841189376, .func (.func 117) #[] #[], .func (.func 141) #[] #[]]
def fa4 : Value := .agg #[.string ⟨#[109, 97, 120, 114, 97, 116, 101]⟩, .func (.func 118) #[] #[], .float .f64 4517329193108106637, .float .f64 4591870180066957722, .float .f64 4557750909289998844, .func (.func 119) #[] #[], .func (.func 141) #[] #[]]
def fa5 : Value := .agg #[.string ⟨#[112, 104, 105]⟩, .func (.func 120) #[] #[], .float .f64 0, .float .f64 4576918229304087675, .float .f64 4534972062662729065, .func (.func 121) #[] #[], .func (.func 141) #[] #[]]
def fa6 : Value := .agg #[.string ⟨#[109, 97, 120, 100, 105, 115, 116]⟩, .func (.func 122) #[] #[], .float .f64 4576918229304087675, .float .f64 4625196817309499392, .float .f64 4609434218613702656, .func (.func 123) #[] #[], .func (.func 141) #[] #[]]
def fa7 : Value := .agg #[.string ⟨#[103, 97, 116, 101]⟩, .func (.func 124) #[] #[], .float .f64 4607182418800017408, .float .f64 4636737291354636288, .float .f64 4616189618054758400, .func (.func 125) #[] #[], .func (.func 141) #[] #[]]
def fa8 : Value := .agg #[.string ⟨#[109, 105, 110, 112, 111, 108, 108]⟩, .func (.func 127) #[] #[], .int .i64 4, .int .i64 17, .int .i64 6, .func (.func 128) #[] #[], .func (.func 142) #[] #[]]
def fa9 : Value := .agg #[.string ⟨#[109, 97, 120, 112, 111, 108, 108]⟩, .func (.func 129) #[] #[], .int .i64 4, .int .i64 17, .int .i64 10, .func (.func 130) #[] #[], .func (.func 142) #[] #[]]
def fa10 : Value := .agg #[.string ⟨#[98, 117, 114, 115, 116]⟩, .func (.func 131) #[] #[], .int .i64 0, .int .i64 8, .int .i64 0, .func (.func 132) #[] #[], .func (.func 142) #[] #[]]
def fa11 : Value := .agg #[.string ⟨#[109, 105, 110, 115, 97, 110, 101]⟩, .func (.func 133) #[] #[], .int .i64 1, .int .i64 10, .int .i64 1, .func (.func 134) #[] #[], .func (.func 142) #[] #[]]
def fa12 : Value := .agg #[.string ⟨#[109, 105, 110, 108, 101, 102, 116]⟩, .func (.func 135) #[] #[], .int .i64 1, .int .i64 10, .int .i64 3, .func (.func 136) #[] #[], .func (.func 142) #[] #[]]
def fvs : Array Value := #[.iface 167 fa1, .iface 167 fa2, .iface 167 fa3, .iface 167 fa4, .iface 167 fa5, .iface 167 fa6, .iface 167 fa7, .iface 170 fa8, .iface 170 fa9, .iface 170 fa10, .iface 170 fa11, .iface 170 fa12]

set_option maxHeartbeats 800000 in
theorem fields_any (w : World) : Calls Try.prog 95 #[] w fun e w' => e = .returned (.slice (some ⟨w.heap.size, 0, none⟩) 12 12) ∧ w' = w.alloc (.cells fvs 132) := by
  go_enter Try.func95, Try.ntmps95
  go_wp2_with (first | (with_reducible refine (mk_float _ _ _ _ _ _ _).mono ?_; rintro e w' ⟨rfl, rfl⟩) | (with_reducible refine (mk_count _ _ _ _ _ _ _).mono ?_; rintro e w' ⟨rfl, rfl⟩))
  go_ret
  exact ⟨rfl, rfl⟩
end Go.Proofs.Ytopgidgkpafeeaa
/- The walk over setup.Standard. -/
namespace Go.Proofs.Ytopgidgkpafeeaa
open Go.RowKit
set_option linter.unusedVariables false
set_option maxRecDepth 100000

def stc0 : Array Value := #[.float .f64 0, .float .f64 0, .float .f64 0, .float .f64 0, .float .f64 0, .float .f64 0, .float .f64 0, .int .i64 0, .int .i64 0, .int .i64 0, .int .i64 0, .int .i64 0]
def stc1 : Array Value := #[.float .f64 4593671619917905920, .float .f64 0, .float .f64 0, .float .f64 0, .float .f64 0, .float .f64 0, .float .f64 0, .int .i64 0, .int .i64 0, .int .i64 0, .int .i64 0, .int .i64 0]
def stc2 : Array Value := #[.float .f64 4593671619917905920, .float .f64 4643985272004935680, .float .f64 0, .float .f64 0, .float .f64 0, .float .f64 0, .float .f64 0, .int .i64 0, .int .i64 0, .int .i64 0, .int .i64 0, .int .i64 0]
def stc3 : Array Value := #[.float .f64 4593671619917905920, .float .f64 4643985272004935680, .float .f64 4652007308841189376, .float .f64 0, .float .f64 0, .float .f64 0, .float .f64 0, .int .i64 0, .int .i64 0, .int .i64 0, .int .i64 0, .int .i64 0]
def stc4 : Array Value := #[.float .f64 4593671619917905920, .float .f64 4643985272004935680, .float .f64 4652007308841189376, .float .f64 4557750909289998844, .float .f64 0, .float .f64 0, .float .f64 0, .int .i64 0, .int .i64 0, .int .i64 0, .int .i64 0, .int .i64 0]
def stc5 : Array Value := #[.float .f64 4593671619917905920, .float .f64 4643985272004935680, .float .f64 4652007308841189376, .float .f64 4557750909289998844, .float .f64 4534972062662729065, .float .f64 0, .float .f64 0, .int .i64 0, .int .i64 0, .int .i64 0, .int .i64 0, .int .i64 0]
def stc6 : Array Value := #[.float .f64 4593671619917905920, .float .f64 4643985272004935680, .float .f64 4652007308841189376, .float .f64 4557750909289998844, .float .f64 4534972062662729065, .float .f64 4609434218613702656, .float .f64 0, .int .i64 0, .int .i64 0, .int .i64 0, .int .i64 0, .int .i64 0]
def stc7 : Array Value := #[.float .f64 4593671619917905920, .float .f64 4643985272004935680, .float .f64 4652007308841189376, .float .f64 4557750909289998844, .float .f64 4534972062662729065, .float .f64 4609434218613702656, .float .f64 4616189618054758400, .int .i64 0, .int .i64 0, .int .i64 0, .int .i64 0, .int .i64 0]
def stc8 : Array Value := #[.float .f64 4593671619917905920, .float .f64 4643985272004935680, .float .f64 4652007308841189376, .float .f64 4557750909289998844, .float .f64 4534972062662729065, .float .f64 4609434218613702656, .float .f64 4616189618054758400, .int .i64 6, .int .i64 0, .int .i64 0, .int .i64 0, .int .i64 0]
def stc9 : Array Value := #[.float .f64 4593671619917905920, .float .f64 4643985272004935680, .float .f64 4652007308841189376, .float .f64 4557750909289998844, .float .f64 4534972062662729065, .float .f64 4609434218613702656, .float .f64 4616189618054758400, .int .i64 6, .int .i64 10, .int .i64 0, .int .i64 0, .int .i64 0]
def stc10 : Array Value := #[.float .f64 4593671619917905920, .float .f64 4643985272004935680, .float .f64 4652007308841189376, .float .f64 4557750909289998844, .float .f64 4534972062662729065, .float .f64 4609434218613702656, .float .f64 4616189618054758400, .int .i64 6, .int .i64 10, .int .i64 0, .int .i64 0, .int .i64 0]
def stc11 : Array Value := #[.float .f64 4593671619917905920, .float .f64 4643985272004935680, .float .f64 4652007308841189376, .float .f64 4557750909289998844, .float .f64 4534972062662729065, .float .f64 4609434218613702656, .float .f64 4616189618054758400, .int .i64 6, .int .i64 10, .int .i64 0, .int .i64 1, .int .i64 0]
def stc12 : Array Value := #[.float .f64 4593671619917905920, .float .f64 4643985272004935680, .float .f64 4652007308841189376, .float .f64 4557750909289998844, .float .f64 4534972062662729065, .float .f64 4609434218613702656, .float .f64 4616189618054758400, .int .i64 6, .int .i64 10, .int .i64 0, .int .i64 1, .int .i64 3]
def stc : Nat → Array Value
  | 0 => stc0
  | 1 => stc1
  | 2 => stc2
  | 3 => stc3
  | 4 => stc4
  | 5 => stc5
  | 6 => stc6
  | 7 => stc7
  | 8 => stc8
  | 9 => stc9
  | 10 => stc10
  | 11 => stc11
  | _ => stc12
/-- what the cells of a block tell -/
theorem cell_of_heap {w : World} {b o : Nat} {c : Array Value} {t : TypeId} {f : Nat × Nat} {v : Value} (h : w.heap[b]? = some (.cells c t f)) (hv : c[o]? = some v) : w.cell? ⟨b, o, none⟩ = some v := by simp [World.cell?, h, hv]
theorem free_of_heap {w : World} {b o : Nat} {c : Array Value} {t : TypeId} (h : w.heap[b]? = some (.cells c t (0, 0))) : w.frozen? ⟨b, o, none⟩ = false := by simp [World.frozen?, h]
theorem heap_setCell {w : World} {b o : Nat} {c : Array Value} {t : TypeId} {f : Nat × Nat} (h : w.heap[b]? = some (.cells c t f)) (v : Value) : (w.setCell ⟨b, o, none⟩ v).heap[b]? = some (.cells (c.setIfInBounds o v) t f) := by
  have hlt : b < w.heap.size := lt_of_block h
  have h' : w.heap[b] = .cells c t f := by simpa [Array.getElem?_eq_getElem hlt] using h
  show (w.heap.modify b _)[b]? = _
  rw [Array.getElem?_eq_getElem (by simpa using hlt), Array.getElem_modify_self, h']
  rfl
theorem heap_setCell_ne {w : World} {b b' o : Nat} {x : Option Obj} (h : w.heap[b]? = x) (hb : b ≠ b') (v : Value) : (w.setCell ⟨b', o, none⟩ v).heap[b]? = x := by
  rw [Below.heap_setCell _ _ _ _ hb]; exact h

set_option maxHeartbeats 400000 in
theorem at1_any (b : Nat) (w : World) : Calls Try.prog 112 #[.pointer (some ⟨b, 0, none⟩)] w fun e w' => e = .returned (.pointer (some ⟨b, 0, none⟩)) ∧ w' = w := by
  go_enter Try.func112, Try.ntmps112
  go_wp2
  go_ret
  exact ⟨rfl, rfl⟩
theorem at1_call (b : Nat) (w : World) : (callFunc 112 #[.pointer (some ⟨b, 0, none⟩)]).run Try.prog w = .ok (.enter 112 #[.pointer (some ⟨b, 0, none⟩)]) w := by kernel_rfl
set_option maxHeartbeats 400000 in
theorem to1_any (b : Nat) (w : World) : Calls Try.prog 113 #[.pointer (some ⟨b, 0, none⟩)] w fun e w' => e = .returned (.pointer (some ⟨b, 0, none⟩)) ∧ w' = w := by
  go_enter Try.func113, Try.ntmps113
  go_wp2
  go_ret
  exact ⟨rfl, rfl⟩
theorem to1_call (b : Nat) (w : World) : (callFunc 113 #[.pointer (some ⟨b, 0, none⟩)]).run Try.prog w = .ok (.enter 113 #[.pointer (some ⟨b, 0, none⟩)]) w := by kernel_rfl
theorem m_set1 (w : World) : (method 297 167 fa1 "analemma/setup.set").run Try.prog w = .ok (170, fa1) w := by kernel_rfl
theorem m_check1 (w : World) : (method 297 167 fa1 "analemma/setup.check").run Try.prog w = .ok (169, fa1) w := by kernel_rfl
theorem m_called1 (w : World) : (method 297 167 fa1 "analemma/setup.called").run Try.prog w = .ok (168, fa1) w := by kernel_rfl
theorem setf1 (b : Nat) (old : Value) (w : World) (hc : w.cell? ⟨b, 0, none⟩ = some old) (hf : w.frozen? ⟨b, 0, none⟩ = false) (hb : b < w.heap.size) :
    Calls Try.prog 170 #[fa1, .pointer (some ⟨b, 0, none⟩)] w fun e w' => e = .returned (.tuple #[]) ∧ Below w.heap.size (w.setCell ⟨b, 0, none⟩ (.float .f64 4593671619917905920)) w' := by
  have hc' : w.cell? ⟨b, 0 + 0, none⟩ = some old := hc
  have hf' : w.frozen? ⟨b, 0 + 0, none⟩ = false := hf
  exact set_float _ _ _ _ _ _ b 0 0 old w hc' hf' hb (at1_call b) (at1_any b)
set_option maxHeartbeats 400000 in
theorem at2_any (b : Nat) (w : World) : Calls Try.prog 114 #[.pointer (some ⟨b, 0, none⟩)] w fun e w' => e = .returned (.pointer (some ⟨b, 1, none⟩)) ∧ w' = w := by
  go_enter Try.func114, Try.ntmps114
  go_wp2
  go_ret
  exact ⟨rfl, rfl⟩
theorem at2_call (b : Nat) (w : World) : (callFunc 114 #[.pointer (some ⟨b, 0, none⟩)]).run Try.prog w = .ok (.enter 114 #[.pointer (some ⟨b, 0, none⟩)]) w := by kernel_rfl
set_option maxHeartbeats 400000 in
theorem to2_any (b : Nat) (w : World) : Calls Try.prog 115 #[.pointer (some ⟨b, 0, none⟩)] w fun e w' => e = .returned (.pointer (some ⟨b, 1, none⟩)) ∧ w' = w := by
  go_enter Try.func115, Try.ntmps115
  go_wp2
  go_ret
  exact ⟨rfl, rfl⟩
theorem to2_call (b : Nat) (w : World) : (callFunc 115 #[.pointer (some ⟨b, 0, none⟩)]).run Try.prog w = .ok (.enter 115 #[.pointer (some ⟨b, 0, none⟩)]) w := by kernel_rfl
theorem m_set2 (w : World) : (method 297 167 fa2 "analemma/setup.set").run Try.prog w = .ok (170, fa2) w := by kernel_rfl
theorem m_check2 (w : World) : (method 297 167 fa2 "analemma/setup.check").run Try.prog w = .ok (169, fa2) w := by kernel_rfl
theorem m_called2 (w : World) : (method 297 167 fa2 "analemma/setup.called").run Try.prog w = .ok (168, fa2) w := by kernel_rfl
theorem setf2 (b : Nat) (old : Value) (w : World) (hc : w.cell? ⟨b, 1, none⟩ = some old) (hf : w.frozen? ⟨b, 1, none⟩ = false) (hb : b < w.heap.size) :
    Calls Try.prog 170 #[fa2, .pointer (some ⟨b, 0, none⟩)] w fun e w' => e = .returned (.tuple #[]) ∧ Below w.heap.size (w.setCell ⟨b, 1, none⟩ (.float .f64 4643985272004935680)) w' := by
  have hc' : w.cell? ⟨b, 0 + 1, none⟩ = some old := hc
  have hf' : w.frozen? ⟨b, 0 + 1, none⟩ = false := hf
  exact set_float _ _ _ _ _ _ b 0 1 old w hc' hf' hb (at2_call b) (at2_any b)
set_option maxHeartbeats 400000 in
theorem at3_any (b : Nat) (w : World) : Calls Try.prog 116 #[.pointer (some ⟨b, 0, none⟩)] w fun e w' => e = .returned (.pointer (some ⟨b, 2, none⟩)) ∧ w' = w := by
  go_enter Try.func116, Try.ntmps116
  go_wp2
  go_ret
  exact ⟨rfl, rfl⟩
theorem at3_call (b : Nat) (w : World) : (callFunc 116 #[.pointer (some ⟨b, 0, none⟩)]).run Try.prog w = .ok (.enter 116 #[.pointer (some ⟨b, 0, none⟩)]) w := by kernel_rfl
set_option maxHeartbeats 400000 in
theorem to3_any (b : Nat) (w : World) : Calls Try.prog 117 #[.pointer (some ⟨b, 0, none⟩)] w fun e w' => e = .returned (.pointer (some ⟨b, 2, none⟩)) ∧ w' = w := by
  go_enter Try.func117, Try.ntmps117
  go_wp2
  go_ret
  exact ⟨rfl, rfl⟩
theorem to3_call (b : Nat) (w : World) : (callFunc 117 #[.pointer (some ⟨b, 0, none⟩)]).run Try.prog w = .ok (.enter 117 #[.pointer (some ⟨b, 0, none⟩)]) w := by kernel_rfl
theorem m_set3 (w : World) : (method 297 167 fa3 "analemma/setup.set").run Try.prog w = .ok (170, fa3) w := by kernel_rfl
theorem m_check3 (w : World) : (method 297 167 fa3 "analemma/setup.check").run Try.prog w = .ok (169, fa3) w := by kernel_rfl
theorem m_called3 (w : World) : (method 297 167 fa3 "analemma/setup.called").run Try.prog w = .ok (168, fa3) w := by kernel_rfl
theorem setf3 (b : Nat) (old : Value) (w : World) (hc : w.cell? ⟨b, 2, none⟩ = some old) (hf : w.frozen? ⟨b, 2, none⟩ = false) (hb : b < w.heap.size) :
    Calls Try.prog 170 #[fa3, .pointer (some ⟨b, 0, none⟩)] w fun e w' => e = .returned (.tuple #[]) ∧ Below w.heap.size (w.setCell ⟨b, 2, none⟩ (.float .f64 4652007308841189376)) w' := by
  have hc' : w.cell? ⟨b, 0 + 2, none⟩ = some old := hc
  have hf' : w.frozen? ⟨b, 0 + 2, none⟩ = false := hf
  exact set_float _ _ _ _ _ _ b 0 2 old w hc' hf' hb (at3_call b) (at3_any b)
set_option maxHeartbeats 400000 in
theorem at4_any (b : Nat) (w : World) : Calls Try.prog 118 #[.pointer (some ⟨b, 0, none⟩)] w fun e w' => e = .returned (.pointer (some ⟨b, 3, none⟩)) ∧ w' = w := by
  go_enter Try.func118, Try.ntmps118
  go_wp2
  go_ret
  exact ⟨rfl, rfl⟩
theorem at4_call (b : Nat) (w : World) : (callFunc 118 #[.pointer (some ⟨b, 0, none⟩)]).run Try.prog w = .ok (.enter 118 #[.pointer (some ⟨b, 0, none⟩)]) w := by kernel_rfl
set_option maxHeartbeats 400000 in
theorem to4_any (b : Nat) (w : World) : Calls Try.prog 119 #[.pointer (some ⟨b, 0, none⟩)] w fun e w' => e = .returned (.pointer (some ⟨b, 3, none⟩)) ∧ w' = w := by
  go_enter Try.func119, Try.ntmps119
  go_wp2
  go_ret
  exact ⟨rfl, rfl⟩
theorem to4_call (b : Nat) (w : World) : (callFunc 119 #[.pointer (some ⟨b, 0, none⟩)]).run Try.prog w = .ok (.enter 119 #[.pointer (some ⟨b, 0, none⟩)]) w := by kernel_rfl
theorem m_set4 (w : World) : (method 297 167 fa4 "analemma/setup.set").run Try.prog w = .ok (170, fa4) w := by kernel_rfl
theorem m_check4 (w : World) : (method 297 167 fa4 "analemma/setup.check").run Try.prog w = .ok (169, fa4) w := by kernel_rfl
theorem m_called4 (w : World) : (method 297 167 fa4 "analemma/setup.called").run Try.prog w = .ok (168, fa4) w := by kernel_rfl
theorem setf4 (b : Nat) (old : Value) (w : World) (hc : w.cell? ⟨b, 3, none⟩ = some old) (hf : w.frozen? ⟨b, 3, none⟩ = false) (hb : b < w.heap.size) :
    Calls Try.prog 170 #[fa4, .pointer (some ⟨b, 0, none⟩)] w fun e w' => e = .returned (.tuple #[]) ∧ Below w.heap.size (w.setCell ⟨b, 3, none⟩ (.float .f64 4557750909289998844)) w' := by
  have hc' : w.cell? ⟨b, 0 + 3, none⟩ = some old := hc
  have hf' : w.frozen? ⟨b, 0 + 3, none⟩ = false := hf
  exact set_float _ _ _ _ _ _ b 0 3 old w hc' hf' hb (at4_call b) (at4_any b)
set_option maxHeartbeats 400000 in
theorem at5_any (b : Nat) (w : World) : Calls Try.prog 120 #[.pointer (some ⟨b, 0, none⟩)] w fun e w' => e = .returned (.pointer (some ⟨b, 4, none⟩)) ∧ w' = w := by
  go_enter Try.func120, Try.ntmps120
  go_wp2
  go_ret
  exact ⟨rfl, rfl⟩
theorem at5_call (b : Nat) (w : World) : (callFunc 120 #[.pointer (some ⟨b, 0, none⟩)]).run Try.prog w = .ok (.enter 120 #[.pointer (some ⟨b, 0, none⟩)]) w := by kernel_rfl
set_option maxHeartbeats 400000 in
theorem to5_any (b : Nat) (w : World) : Calls Try.prog 121 #[.pointer (some ⟨b, 0, none⟩)] w fun e w' => e = .returned (.pointer (some ⟨b, 4, none⟩)) ∧ w' = w := by
  go_enter Try.func121, Try.ntmps121
  go_wp2
  go_ret
  exact ⟨rfl, rfl⟩
theorem to5_call (b : Nat) (w : World) : (callFunc 121 #[.pointer (some ⟨b, 0, none⟩)]).run Try.prog w = .ok (.enter 121 #[.pointer (some ⟨b, 0, none⟩)]) w := by kernel_rfl
theorem m_set5 (w : World) : (method 297 167 fa5 "analemma/setup.set").run Try.prog w = .ok (170, fa5) w := by kernel_rfl
theorem m_check5 (w : World) : (method 297 167 fa5 "analemma/setup.check").run Try.prog w = .ok (169, fa5) w := by kernel_rfl
theorem m_called5 (w : World) : (method 297 167 fa5 "analemma/setup.called").run Try.prog w = .ok (168, fa5) w := by kernel_rfl
theorem setf5 (b : Nat) (old : Value) (w : World) (hc : w.cell? ⟨b, 4, none⟩ = some old) (hf : w.frozen? ⟨b, 4, none⟩ = false) (hb : b < w.heap.size) :
    Calls Try.prog 170 #[fa5, .pointer (some ⟨b, 0, none⟩)] w fun e w' => e = .returned (.tuple #[]) ∧ Below w.heap.size (w.setCell ⟨b, 4, none⟩ (.float .f64 4534972062662729065)) w' := by
  have hc' : w.cell? ⟨b, 0 + 4, none⟩ = some old := hc
  have hf' : w.frozen? ⟨b, 0 + 4, none⟩ = false := hf
  exact set_float _ _ _ _ _ _ b 0 4 old w hc' hf' hb (at5_call b) (at5_any b)
set_option maxHeartbeats 400000 in
theorem at6_any (b : Nat) (w : World) : Calls Try.prog 122 #[.pointer (some ⟨b, 0, none⟩)] w fun e w' => e = .returned (.pointer (some ⟨b, 5, none⟩)) ∧ w' = w := by
  go_enter Try.func122, Try.ntmps122
  go_wp2
  go_ret
  exact ⟨rfl, rfl⟩
theorem at6_call (b : Nat) (w : World) : (callFunc 122 #[.pointer (some ⟨b, 0, none⟩)]).run Try.prog w = .ok (.enter 122 #[.pointer (some ⟨b, 0, none⟩)]) w := by kernel_rfl
set_option maxHeartbeats 400000 in
theorem to6_any (b : Nat) (w : World) : Calls Try.prog 123 #[.pointer (some ⟨b, 0, none⟩)] w fun e w' => e = .returned (.pointer (some ⟨b, 5, none⟩)) ∧ w' = w := by
  go_enter Try.func123, Try.ntmps123
  go_wp2
  go_ret
  exact ⟨rfl, rfl⟩
theorem to6_call (b : Nat) (w : World) : (callFunc 123 #[.pointer (some ⟨b, 0, none⟩)]).run Try.prog w = .ok (.enter 123 #[.pointer (some ⟨b, 0, none⟩)]) w := by kernel_rfl
theorem m_set6 (w : World) : (method 297 167 fa6 "analemma/setup.set").run Try.prog w = .ok (170, fa6) w := by kernel_rfl
theorem m_check6 (w : World) : (method 297 167 fa6 "analemma/setup.check").run Try.prog w = .ok (169, fa6) w := by kernel_rfl
theorem m_called6 (w : World) : (method 297 167 fa6 "analemma/setup.called").run Try.prog w = .ok (168, fa6) w := by kernel_rfl
theorem setf6 (b : Nat) (old : Value) (w : World) (hc : w.cell? ⟨b, 5, none⟩ = some old) (hf : w.frozen? ⟨b, 5, none⟩ = false) (hb : b < w.heap.size) :
    Calls Try.prog 170 #[fa6, .pointer (some ⟨b, 0, none⟩)] w fun e w' => e = .returned (.tuple #[]) ∧ Below w.heap.size (w.setCell ⟨b, 5, none⟩ (.float .f64 4609434218613702656)) w' := by
  have hc' : w.cell? ⟨b, 0 + 5, none⟩ = some old := hc
  have hf' : w.frozen? ⟨b, 0 + 5, none⟩ = false := hf
  exact set_float _ _ _ _ _ _ b 0 5 old w hc' hf' hb (at6_call b) (at6_any b)
set_option maxHeartbeats 400000 in
theorem at7_any (b : Nat) (w : World) : Calls Try.prog 124 #[.pointer (some ⟨b, 0, none⟩)] w fun e w' => e = .returned (.pointer (some ⟨b, 6, none⟩)) ∧ w' = w := by
  go_enter Try.func124, Try.ntmps124
  go_wp2
  go_ret
  exact ⟨rfl, rfl⟩
theorem at7_call (b : Nat) (w : World) : (callFunc 124 #[.pointer (some ⟨b, 0, none⟩)]).run Try.prog w = .ok (.enter 124 #[.pointer (some ⟨b, 0, none⟩)]) w := by kernel_rfl
set_option maxHeartbeats 400000 in
theorem to7_any (b : Nat) (w : World) : Calls Try.prog 125 #[.pointer (some ⟨b, 0, none⟩)] w fun e w' => e = .returned (.pointer (some ⟨b, 6, none⟩)) ∧ w' = w := by
  go_enter Try.func125, Try.ntmps125
  go_wp2
  go_ret
  exact ⟨rfl, rfl⟩
theorem to7_call (b : Nat) (w : World) : (callFunc 125 #[.pointer (some ⟨b, 0, none⟩)]).run Try.prog w = .ok (.enter 125 #[.pointer (some ⟨b, 0, none⟩)]) w := by kernel_rfl
theorem m_set7 (w : World) : (method 297 167 fa7 "analemma/setup.set").run Try.prog w = .ok (170, fa7) w := by kernel_rfl
theorem m_check7 (w : World) : (method 297 167 fa7 "analemma/setup.check").run Try.prog w = .ok (169, fa7) w := by kernel_rfl
theorem m_called7 (w : World) : (method 297 167 fa7 "analemma/setup.called").run Try.prog w = .ok (168, fa7) w := by kernel_rfl
theorem setf7 (b : Nat) (old : Value) (w : World) (hc : w.cell? ⟨b, 6, none⟩ = some old) (hf : w.frozen? ⟨b, 6, none⟩ = false) (hb : b < w.heap.size) :
    Calls Try.prog 170 #[fa7, .pointer (some ⟨b, 0, none⟩)] w fun e w' => e = .returned (.tuple #[]) ∧ Below w.heap.size (w.setCell ⟨b, 6, none⟩ (.float .f64 4616189618054758400)) w' := by
  have hc' : w.cell? ⟨b, 0 + 6, none⟩ = some old := hc
  have hf' : w.frozen? ⟨b, 0 + 6, none⟩ = false := hf
  exact set_float _ _ _ _ _ _ b 0 6 old w hc' hf' hb (at7_call b) (at7_any b)
set_option maxHeartbeats 400000 in
theorem at8_any (b : Nat) (w : World) : Calls Try.prog 127 #[.pointer (some ⟨b, 0, none⟩)] w fun e w' => e = .returned (.pointer (some ⟨b, 7, none⟩)) ∧ w' = w := by
  go_enter Try.func127, Try.ntmps127
  go_wp2
  go_ret
  exact ⟨rfl, rfl⟩
theorem at8_call (b : Nat) (w : World) : (callFunc 127 #[.pointer (some ⟨b, 0, none⟩)]).run Try.prog w = .ok (.enter 127 #[.pointer (some ⟨b, 0, none⟩)]) w := by kernel_rfl
set_option maxHeartbeats 400000 in
theorem to8_any (b : Nat) (w : World) : Calls Try.prog 128 #[.pointer (some ⟨b, 0, none⟩)] w fun e w' => e = .returned (.pointer (some ⟨b, 7, none⟩)) ∧ w' = w := by
  go_enter Try.func128, Try.ntmps128
  go_wp2
  go_ret
  exact ⟨rfl, rfl⟩
theorem to8_call (b : Nat) (w : World) : (callFunc 128 #[.pointer (some ⟨b, 0, none⟩)]).run Try.prog w = .ok (.enter 128 #[.pointer (some ⟨b, 0, none⟩)]) w := by kernel_rfl
theorem m_set8 (w : World) : (method 297 170 fa8 "analemma/setup.set").run Try.prog w = .ok (173, fa8) w := by kernel_rfl
theorem m_check8 (w : World) : (method 297 170 fa8 "analemma/setup.check").run Try.prog w = .ok (172, fa8) w := by kernel_rfl
theorem m_called8 (w : World) : (method 297 170 fa8 "analemma/setup.called").run Try.prog w = .ok (171, fa8) w := by kernel_rfl
theorem setf8 (b : Nat) (old : Value) (w : World) (hc : w.cell? ⟨b, 7, none⟩ = some old) (hf : w.frozen? ⟨b, 7, none⟩ = false) (hb : b < w.heap.size) :
    Calls Try.prog 173 #[fa8, .pointer (some ⟨b, 0, none⟩)] w fun e w' => e = .returned (.tuple #[]) ∧ Below w.heap.size (w.setCell ⟨b, 7, none⟩ (.int .i64 6)) w' := by
  have hc' : w.cell? ⟨b, 0 + 7, none⟩ = some old := hc
  have hf' : w.frozen? ⟨b, 0 + 7, none⟩ = false := hf
  exact set_int _ _ _ _ _ _ b 0 7 old w hc' hf' hb (at8_call b) (at8_any b)
set_option maxHeartbeats 400000 in
theorem at9_any (b : Nat) (w : World) : Calls Try.prog 129 #[.pointer (some ⟨b, 0, none⟩)] w fun e w' => e = .returned (.pointer (some ⟨b, 8, none⟩)) ∧ w' = w := by
  go_enter Try.func129, Try.ntmps129
  go_wp2
  go_ret
  exact ⟨rfl, rfl⟩
theorem at9_call (b : Nat) (w : World) : (callFunc 129 #[.pointer (some ⟨b, 0, none⟩)]).run Try.prog w = .ok (.enter 129 #[.pointer (some ⟨b, 0, none⟩)]) w := by kernel_rfl
set_option maxHeartbeats 400000 in
theorem to9_any (b : Nat) (w : World) : Calls Try.prog 130 #[.pointer (some ⟨b, 0, none⟩)] w fun e w' => e = .returned (.pointer (some ⟨b, 8, none⟩)) ∧ w' = w := by
  go_enter Try.func130, Try.ntmps130
  go_wp2
  go_ret
  exact ⟨rfl, rfl⟩
theorem to9_call (b : Nat) (w : World) : (callFunc 130 #[.pointer (some ⟨b, 0, none⟩)]).run Try.prog w = .ok (.enter 130 #[.pointer (some ⟨b, 0, none⟩)]) w := by kernel_rfl
theorem m_set9 (w : World) : (method 297 170 fa9 "analemma/setup.set").run Try.prog w = .ok (173, fa9) w := by kernel_rfl
theorem m_check9 (w : World) : (method 297 170 fa9 "analemma/setup.check").run Try.prog w = .ok (172, fa9) w := by kernel_rfl
theorem m_called9 (w : World) : (method 297 170 fa9 "analemma/setup.called").run Try.prog w = .ok (171, fa9) w := by kernel_rfl
theorem setf9 (b : Nat) (old : Value) (w : World) (hc : w.cell? ⟨b, 8, none⟩ = some old) (hf : w.frozen? ⟨b, 8, none⟩ = false) (hb : b < w.heap.size) :
    Calls Try.prog 173 #[fa9, .pointer (some ⟨b, 0, none⟩)] w fun e w' => e = .returned (.tuple #[]) ∧ Below w.heap.size (w.setCell ⟨b, 8, none⟩ (.int .i64 10)) w' := by
  have hc' : w.cell? ⟨b, 0 + 8, none⟩ = some old := hc
  have hf' : w.frozen? ⟨b, 0 + 8, none⟩ = false := hf
  exact set_int _ _ _ _ _ _ b 0 8 old w hc' hf' hb (at9_call b) (at9_any b)
set_option maxHeartbeats 400000 in
theorem at10_any (b : Nat) (w : World) : Calls Try.prog 131 #[.pointer (some ⟨b, 0, none⟩)] w fun e w' => e = .returned (.pointer (some ⟨b, 9, none⟩)) ∧ w' = w := by
  go_enter Try.func131, Try.ntmps131
  go_wp2
  go_ret
  exact ⟨rfl, rfl⟩
theorem at10_call (b : Nat) (w : World) : (callFunc 131 #[.pointer (some ⟨b, 0, none⟩)]).run Try.prog w = .ok (.enter 131 #[.pointer (some ⟨b, 0, none⟩)]) w := by kernel_rfl
set_option maxHeartbeats 400000 in
theorem to10_any (b : Nat) (w : World) : Calls Try.prog 132 #[.pointer (some ⟨b, 0, none⟩)] w fun e w' => e = .returned (.pointer (some ⟨b, 9, none⟩)) ∧ w' = w := by
  go_enter Try.func132, Try.ntmps132
  go_wp2
  go_ret
  exact ⟨rfl, rfl⟩
theorem to10_call (b : Nat) (w : World) : (callFunc 132 #[.pointer (some ⟨b, 0, none⟩)]).run Try.prog w = .ok (.enter 132 #[.pointer (some ⟨b, 0, none⟩)]) w := by kernel_rfl
theorem m_set10 (w : World) : (method 297 170 fa10 "analemma/setup.set").run Try.prog w = .ok (173, fa10) w := by kernel_rfl
theorem m_check10 (w : World) : (method 297 170 fa10 "analemma/setup.check").run Try.prog w = .ok (172, fa10) w := by kernel_rfl
theorem m_called10 (w : World) : (method 297 170 fa10 "analemma/setup.called").run Try.prog w = .ok (171, fa10) w := by kernel_rfl
theorem setf10 (b : Nat) (old : Value) (w : World) (hc : w.cell? ⟨b, 9, none⟩ = some old) (hf : w.frozen? ⟨b, 9, none⟩ = false) (hb : b < w.heap.size) :
    Calls Try.prog 173 #[fa10, .pointer (some ⟨b, 0, none⟩)] w fun e w' => e = .returned (.tuple #[]) ∧ Below w.heap.size (w.setCell ⟨b, 9, none⟩ (.int .i64 0)) w' := by
  have hc' : w.cell? ⟨b, 0 + 9, none⟩ = some old := hc
  have hf' : w.frozen? ⟨b, 0 + 9, none⟩ = false := hf
  exact set_int _ _ _ _ _ _ b 0 9 old w hc' hf' hb (at10_call b) (at10_any b)
set_option maxHeartbeats 400000 in
theorem at11_any (b : Nat) (w : World) : Calls Try.prog 133 #[.pointer (some ⟨b, 0, none⟩)] w fun e w' => e = .returned (.pointer (some ⟨b, 10, none⟩)) ∧ w' = w := by
  go_enter Try.func133, Try.ntmps133
  go_wp2
  go_ret
  exact ⟨rfl, rfl⟩
theorem at11_call (b : Nat) (w : World) : (callFunc 133 #[.pointer (some ⟨b, 0, none⟩)]).run Try.prog w = .ok (.enter 133 #[.pointer (some ⟨b, 0, none⟩)]) w := by kernel_rfl
set_option maxHeartbeats 400000 in
theorem to11_any (b : Nat) (w : World) : Calls Try.prog 134 #[.pointer (some ⟨b, 0, none⟩)] w fun e w' => e = .returned (.pointer (some ⟨b, 10, none⟩)) ∧ w' = w := by
  go_enter Try.func134, Try.ntmps134
  go_wp2
  go_ret
  exact ⟨rfl, rfl⟩
theorem to11_call (b : Nat) (w : World) : (callFunc 134 #[.pointer (some ⟨b, 0, none⟩)]).run Try.prog w = .ok (.enter 134 #[.pointer (some ⟨b, 0, none⟩)]) w := by kernel_rfl
theorem m_set11 (w : World) : (method 297 170 fa11 "analemma/setup.set").run Try.prog w = .ok (173, fa11) w := by kernel_rfl
theorem m_check11 (w : World) : (method 297 170 fa11 "analemma/setup.check").run Try.prog w = .ok (172, fa11) w := by kernel_rfl
theorem m_called11 (w : World) : (method 297 170 fa11 "analemma/setup.called").run Try.prog w = .ok (171, fa11) w := by kernel_rfl
theorem setf11 (b : Nat) (old : Value) (w : World) (hc : w.cell? ⟨b, 10, none⟩ = some old) (hf : w.frozen? ⟨b, 10, none⟩ = false) (hb : b < w.heap.size) :
    Calls Try.prog 173 #[fa11, .pointer (some ⟨b, 0, none⟩)] w fun e w' => e = .returned (.tuple #[]) ∧ Below w.heap.size (w.setCell ⟨b, 10, none⟩ (.int .i64 1)) w' := by
  have hc' : w.cell? ⟨b, 0 + 10, none⟩ = some old := hc
  have hf' : w.frozen? ⟨b, 0 + 10, none⟩ = false := hf
  exact set_int _ _ _ _ _ _ b 0 10 old w hc' hf' hb (at11_call b) (at11_any b)
set_option maxHeartbeats 400000 in
theorem at12_any (b : Nat) (w : World) : Calls Try.prog 135 #[.pointer (some ⟨b, 0, none⟩)] w fun e w' => e = .returned (.pointer (some ⟨b, 11, none⟩)) ∧ w' = w := by
  go_enter Try.func135, Try.ntmps135
  go_wp2
  go_ret
  exact ⟨rfl, rfl⟩
theorem at12_call (b : Nat) (w : World) : (callFunc 135 #[.pointer (some ⟨b, 0, none⟩)]).run Try.prog w = .ok (.enter 135 #[.pointer (some ⟨b, 0, none⟩)]) w := by kernel_rfl
set_option maxHeartbeats 400000 in
theorem to12_any (b : Nat) (w : World) : Calls Try.prog 136 #[.pointer (some ⟨b, 0, none⟩)] w fun e w' => e = .returned (.pointer (some ⟨b, 11, none⟩)) ∧ w' = w := by
  go_enter Try.func136, Try.ntmps136
  go_wp2
  go_ret
  exact ⟨rfl, rfl⟩
theorem to12_call (b : Nat) (w : World) : (callFunc 136 #[.pointer (some ⟨b, 0, none⟩)]).run Try.prog w = .ok (.enter 136 #[.pointer (some ⟨b, 0, none⟩)]) w := by kernel_rfl
theorem m_set12 (w : World) : (method 297 170 fa12 "analemma/setup.set").run Try.prog w = .ok (173, fa12) w := by kernel_rfl
theorem m_check12 (w : World) : (method 297 170 fa12 "analemma/setup.check").run Try.prog w = .ok (172, fa12) w := by kernel_rfl
theorem m_called12 (w : World) : (method 297 170 fa12 "analemma/setup.called").run Try.prog w = .ok (171, fa12) w := by kernel_rfl
theorem setf12 (b : Nat) (old : Value) (w : World) (hc : w.cell? ⟨b, 11, none⟩ = some old) (hf : w.frozen? ⟨b, 11, none⟩ = false) (hb : b < w.heap.size) :
    Calls Try.prog 173 #[fa12, .pointer (some ⟨b, 0, none⟩)] w fun e w' => e = .returned (.tuple #[]) ∧ Below w.heap.size (w.setCell ⟨b, 11, none⟩ (.int .i64 3)) w' := by
  have hc' : w.cell? ⟨b, 0 + 11, none⟩ = some old := hc
  have hf' : w.frozen? ⟨b, 0 + 11, none⟩ = false := hf
  exact set_int _ _ _ _ _ _ b 0 11 old w hc' hf' hb (at12_call b) (at12_any b)

theorem heap_new3 (w : World) (a b c : Obj) : (((w.alloc a).alloc b).alloc c).heap[w.heap.size + 2]? = some c := by
  have h := heap_alloc_new ((w.alloc a).alloc b) c
  have e : ((w.alloc a).alloc b).heap.size = w.heap.size + 2 := by simp
  rwa [e] at h
theorem below_setRow {B : Nat} {a w : World} (h : Below B a w) {g : Nat} (hg : B ≤ g) (cs : Array Value) : Below B a (w.setRow g cs) :=
  h.trans ⟨rfl, rfl, rfl, by simp, fun k hk => by
    simp only [World.setRow, Array.getElem?_modify]
    rw [if_neg (by omega)]⟩
theorem std_round {w wr w' : World} {k : Nat} {v : Value} (h0 : wr.heap[w.heap.size]? = some (.cells stc0 104 (0, 0))) (h1 : wr.heap[w.heap.size + 1]? = some (.cells (stc k) 104 (0, 0)))
    (h2 : wr.heap[w.heap.size + 2]? = some (.cells fvs 132 (0, 0))) (hz : w.heap.size + 2 < wr.heap.size) (hb : Below w.heap.size w wr) (hb1 : Below wr.heap.size (wr.setCell ⟨w.heap.size + 1, k, none⟩ v) w') (hs : (stc k).setIfInBounds k v = stc (k + 1)) :
    w'.heap[w.heap.size]? = some (.cells stc0 104 (0, 0)) ∧ w'.heap[w.heap.size + 1]? = some (.cells (stc (k + 1)) 104 (0, 0)) ∧ w'.heap[w.heap.size + 2]? = some (.cells fvs 132 (0, 0)) ∧ w.heap.size + 2 < w'.heap.size ∧ Below w.heap.size w w' := by
  have hsz := hb1.size
  rw [size_setCell] at hsz
  refine ⟨?_, ?_, ?_, by omega, (hb.setCell (p := ⟨w.heap.size + 1, k, none⟩) (by simp) v).trans (hb1.mono hb.size)⟩
  · rw [hb1.block _ (by omega)]; exact heap_setCell_ne h0 (by omega) v
  · rw [hb1.block _ (by omega), ← hs]; exact heap_setCell h1 v
  · rw [hb1.block _ (by omega)]; exact heap_setCell_ne h2 (by omega) v

set_option maxHeartbeats 4000000 in
theorem standard_any (w : World) : Calls Try.prog 64 #[] w fun e w' => e = .returned (.agg stc12) ∧ Below w.heap.size w w' := by
  go_enter Try.func64, Try.ntmps64
  go_wp2_with (with_reducible refine (fields_any _).mono ?_; rintro e w' ⟨rfl, rfl⟩)
  go_loopw [3, 6] (fun x i wr => ∃ k : Nat, k ≤ 12 ∧ i = .int .i64 k ∧ wr.heap[w.heap.size]? = some (.cells stc0 104 (0, 0)) ∧ wr.heap[w.heap.size + 1]? = some (.cells (stc k) 104 (0, 0)) ∧
      wr.heap[w.heap.size + 2]? = some (.cells fvs 132 (0, 0)) ∧ w.heap.size + 2 < wr.heap.size ∧ Below w.heap.size w wr) (fun _ i _ => 12 - (intOf i).toNat)
  case atStart =>
    refine ⟨0, by omega, rfl, ?_, ?_, ?_, by simp, (((Below.refl _ _).alloc (Nat.le_refl _) _).alloc (by simp) _).alloc (by simp; omega) _⟩
    · rw [Below.heap_alloc _ _ _ (by simp; omega), Below.heap_alloc _ _ _ (by simp)]; exact heap_alloc_new _ _
    · rw [Below.heap_alloc _ _ _ (by simp)]; exact heap_alloc2_new _ _ _
    · exact heap_new3 _ _ _ _
  case round =>
    obtain ⟨k, hk, rfl, h0, h1, h2, hz, hb⟩ := hrel
    by_cases e0 : k = 0
    · subst e0
      have c2 := cell_of_heap (o := 0) (v := .iface 167 fa1) h2 rfl
      have C1 := Lib.hid h1
      have C0 := Lib.hid h0
      have C2 := Lib.hid h2
      clear h0 h1 h2
      have hm := m_set1
      go_wp2_with fail
      refine (setf1 _ (.float .f64 0) _ (cell_of_heap C1.out rfl) (free_of_heap C1.out) (by omega)).mono ?_
      rintro e w' ⟨rfl, hb1⟩
      go_wp2_with fail
      exact ⟨⟨1, by omega, rfl, std_round C0.out C1.out C2.out hz hb hb1 rfl⟩, by simp [intOf]⟩
    by_cases e1 : k = 1
    · subst e1
      have c2 := cell_of_heap (o := 1) (v := .iface 167 fa2) h2 rfl
      have C1 := Lib.hid h1
      have C0 := Lib.hid h0
      have C2 := Lib.hid h2
      clear h0 h1 h2
      have hm := m_set2
      go_wp2_with fail
      refine (setf2 _ (.float .f64 0) _ (cell_of_heap C1.out rfl) (free_of_heap C1.out) (by omega)).mono ?_
      rintro e w' ⟨rfl, hb1⟩
      go_wp2_with fail
      exact ⟨⟨2, by omega, rfl, std_round C0.out C1.out C2.out hz hb hb1 rfl⟩, by simp [intOf]⟩
    by_cases e2 : k = 2
    · subst e2
      have c2 := cell_of_heap (o := 2) (v := .iface 167 fa3) h2 rfl
      have C1 := Lib.hid h1
      have C0 := Lib.hid h0
      have C2 := Lib.hid h2
      clear h0 h1 h2
      have hm := m_set3
      go_wp2_with fail
      refine (setf3 _ (.float .f64 0) _ (cell_of_heap C1.out rfl) (free_of_heap C1.out) (by omega)).mono ?_
      rintro e w' ⟨rfl, hb1⟩
      go_wp2_with fail
      exact ⟨⟨3, by omega, rfl, std_round C0.out C1.out C2.out hz hb hb1 rfl⟩, by simp [intOf]⟩
    by_cases e3 : k = 3
    · subst e3
      have c2 := cell_of_heap (o := 3) (v := .iface 167 fa4) h2 rfl
      have C1 := Lib.hid h1
      have C0 := Lib.hid h0
      have C2 := Lib.hid h2
      clear h0 h1 h2
      have hm := m_set4
      go_wp2_with fail
      refine (setf4 _ (.float .f64 0) _ (cell_of_heap C1.out rfl) (free_of_heap C1.out) (by omega)).mono ?_
      rintro e w' ⟨rfl, hb1⟩
      go_wp2_with fail
      exact ⟨⟨4, by omega, rfl, std_round C0.out C1.out C2.out hz hb hb1 rfl⟩, by simp [intOf]⟩
    by_cases e4 : k = 4
    · subst e4
      have c2 := cell_of_heap (o := 4) (v := .iface 167 fa5) h2 rfl
      have C1 := Lib.hid h1
      have C0 := Lib.hid h0
      have C2 := Lib.hid h2
      clear h0 h1 h2
      have hm := m_set5
      go_wp2_with fail
      refine (setf5 _ (.float .f64 0) _ (cell_of_heap C1.out rfl) (free_of_heap C1.out) (by omega)).mono ?_
      rintro e w' ⟨rfl, hb1⟩
      go_wp2_with fail
      exact ⟨⟨5, by omega, rfl, std_round C0.out C1.out C2.out hz hb hb1 rfl⟩, by simp [intOf]⟩
    by_cases e5 : k = 5
    · subst e5
      have c2 := cell_of_heap (o := 5) (v := .iface 167 fa6) h2 rfl
      have C1 := Lib.hid h1
      have C0 := Lib.hid h0
      have C2 := Lib.hid h2
      clear h0 h1 h2
      have hm := m_set6
      go_wp2_with fail
      refine (setf6 _ (.float .f64 0) _ (cell_of_heap C1.out rfl) (free_of_heap C1.out) (by omega)).mono ?_
      rintro e w' ⟨rfl, hb1⟩
      go_wp2_with fail
      exact ⟨⟨6, by omega, rfl, std_round C0.out C1.out C2.out hz hb hb1 rfl⟩, by simp [intOf]⟩
    by_cases e6 : k = 6
    · subst e6
      have c2 := cell_of_heap (o := 6) (v := .iface 167 fa7) h2 rfl
      have C1 := Lib.hid h1
      have C0 := Lib.hid h0
      have C2 := Lib.hid h2
      clear h0 h1 h2
      have hm := m_set7
      go_wp2_with fail
      refine (setf7 _ (.float .f64 0) _ (cell_of_heap C1.out rfl) (free_of_heap C1.out) (by omega)).mono ?_
      rintro e w' ⟨rfl, hb1⟩
      go_wp2_with fail
      exact ⟨⟨7, by omega, rfl, std_round C0.out C1.out C2.out hz hb hb1 rfl⟩, by simp [intOf]⟩
    by_cases e7 : k = 7
    · subst e7
      have c2 := cell_of_heap (o := 7) (v := .iface 170 fa8) h2 rfl
      have C1 := Lib.hid h1
      have C0 := Lib.hid h0
      have C2 := Lib.hid h2
      clear h0 h1 h2
      have hm := m_set8
      go_wp2_with fail
      refine (setf8 _ (.int .i64 0) _ (cell_of_heap C1.out rfl) (free_of_heap C1.out) (by omega)).mono ?_
      rintro e w' ⟨rfl, hb1⟩
      go_wp2_with fail
      exact ⟨⟨8, by omega, rfl, std_round C0.out C1.out C2.out hz hb hb1 rfl⟩, by simp [intOf]⟩
    by_cases e8 : k = 8
    · subst e8
      have c2 := cell_of_heap (o := 8) (v := .iface 170 fa9) h2 rfl
      have C1 := Lib.hid h1
      have C0 := Lib.hid h0
      have C2 := Lib.hid h2
      clear h0 h1 h2
      have hm := m_set9
      go_wp2_with fail
      refine (setf9 _ (.int .i64 0) _ (cell_of_heap C1.out rfl) (free_of_heap C1.out) (by omega)).mono ?_
      rintro e w' ⟨rfl, hb1⟩
      go_wp2_with fail
      exact ⟨⟨9, by omega, rfl, std_round C0.out C1.out C2.out hz hb hb1 rfl⟩, by simp [intOf]⟩
    by_cases e9 : k = 9
    · subst e9
      have c2 := cell_of_heap (o := 9) (v := .iface 170 fa10) h2 rfl
      have C1 := Lib.hid h1
      have C0 := Lib.hid h0
      have C2 := Lib.hid h2
      clear h0 h1 h2
      have hm := m_set10
      go_wp2_with fail
      refine (setf10 _ (.int .i64 0) _ (cell_of_heap C1.out rfl) (free_of_heap C1.out) (by omega)).mono ?_
      rintro e w' ⟨rfl, hb1⟩
      go_wp2_with fail
      exact ⟨⟨10, by omega, rfl, std_round C0.out C1.out C2.out hz hb hb1 rfl⟩, by simp [intOf]⟩
    by_cases e10 : k = 10
    · subst e10
      have c2 := cell_of_heap (o := 10) (v := .iface 170 fa11) h2 rfl
      have C1 := Lib.hid h1
      have C0 := Lib.hid h0
      have C2 := Lib.hid h2
      clear h0 h1 h2
      have hm := m_set11
      go_wp2_with fail
      refine (setf11 _ (.int .i64 0) _ (cell_of_heap C1.out rfl) (free_of_heap C1.out) (by omega)).mono ?_
      rintro e w' ⟨rfl, hb1⟩
      go_wp2_with fail
      exact ⟨⟨11, by omega, rfl, std_round C0.out C1.out C2.out hz hb hb1 rfl⟩, by simp [intOf]⟩
    by_cases e11 : k = 11
    · subst e11
      have c2 := cell_of_heap (o := 11) (v := .iface 170 fa12) h2 rfl
      have C1 := Lib.hid h1
      have C0 := Lib.hid h0
      have C2 := Lib.hid h2
      clear h0 h1 h2
      have hm := m_set12
      go_wp2_with fail
      refine (setf12 _ (.int .i64 0) _ (cell_of_heap C1.out rfl) (free_of_heap C1.out) (by omega)).mono ?_
      rintro e w' ⟨rfl, hb1⟩
      go_wp2_with fail
      exact ⟨⟨12, by omega, rfl, std_round C0.out C1.out C2.out hz hb hb1 rfl⟩, by simp [intOf]⟩
    · obtain rfl : k = 12 := by omega
      go_wp2_with (first | (refine wpList_load_row rfl 104 _ rfl _ rfl _ _ _ _ h1 Try.underlying104 rfl (by kernel_rfl) ?_) | (refine wpList_store_row rfl 104 _ _ rfl _ stc12 rfl rfl _ _ h0 (by kernel_rfl) rfl (by kernel_rfl) ?_))
      exact bodyPost_ret (v := .agg stc12) (results_cell_row rfl _ _ w.heap.size _ _ _ _ rfl (setRow_heap _ _ _ _ _ _ h0) Try.underlying104 rfl (by kernel_rfl)) rfl ⟨rfl, below_setRow hb (Nat.le_refl _) _⟩
end Go.Proofs.Ytopgidgkpafeeaa
/- Plain definitions for package setup: a configuration, what each field tells, the faults, what is set. -/
namespace Go.Proofs.Ytopgidgkpafeeaa
open Go.RowKit

/-- a configuration: floats by their bits -/
structure Cfg where
  step : Nat
  watch : Nat
  panic : Nat
  maxRate : Nat
  phi : Nat
  maxDist : Nat
  gate : Nat
  minPoll : Int
  maxPoll : Int
  burst : Int
  minSane : Int
  minLeft : Int
structure Cfg.ok (c : Cfg) : Prop where
  step : c.step < 18446744073709551616
  watch : c.watch < 18446744073709551616
  panic : c.panic < 18446744073709551616
  maxRate : c.maxRate < 18446744073709551616
  phi : c.phi < 18446744073709551616
  maxDist : c.maxDist < 18446744073709551616
  gate : c.gate < 18446744073709551616
/-- the value of a configuration -/
def Cfg.cells (c : Cfg) : Array Value := #[.float .f64 c.step, .float .f64 c.watch, .float .f64 c.panic, .float .f64 c.maxRate, .float .f64 c.phi, .float .f64 c.maxDist, .float .f64 c.gate, .int .i64 c.minPoll, .int .i64 c.maxPoll, .int .i64 c.burst, .int .i64 c.minSane, .int .i64 c.minLeft]
/-- what a field tells by itself: what is set, and the error -/
def Cfg.fld (c : Cfg) : Nat → Int × Int
  | 0 => fWithin c.step 4562254508917369340 4621819117588971520
  | 1 => fWithin c.watch 4607182418800017408 4660134898793709568
  | 2 => fWithin c.panic 4607182418800017408 4681608360884174848
  | 3 => fWithin c.maxRate 4517329193108106637 4591870180066957722
  | 4 => fWithin c.phi 0 4576918229304087675
  | 5 => fWithin c.maxDist 4576918229304087675 4625196817309499392
  | 6 => fWithin c.gate 4607182418800017408 4636737291354636288
  | 7 => sWhole c.minPoll 4 17
  | 8 => sWhole c.maxPoll 4 17
  | 9 => sWhole c.burst 0 8
  | 10 => sWhole c.minSane 1 10
  | 11 => sWhole c.minLeft 1 10
  | _ => (0, 0)
/-- the cells of what is set, and of the errors, behind k fields -/
def Cfg.pcs (c : Cfg) (k : Nat) : Array Value := #[.int .i64 (if 0 < k then (c.fld 0).1 else 0), .int .i64 (if 1 < k then (c.fld 1).1 else 0), .int .i64 (if 2 < k then (c.fld 2).1 else 0), .int .i64 (if 3 < k then (c.fld 3).1 else 0), .int .i64 (if 4 < k then (c.fld 4).1 else 0), .int .i64 (if 5 < k then (c.fld 5).1 else 0), .int .i64 (if 6 < k then (c.fld 6).1 else 0), .int .i64 (if 7 < k then (c.fld 7).1 else 0), .int .i64 (if 8 < k then (c.fld 8).1 else 0), .int .i64 (if 9 < k then (c.fld 9).1 else 0), .int .i64 (if 10 < k then (c.fld 10).1 else 0), .int .i64 (if 11 < k then (c.fld 11).1 else 0)]
def Cfg.ecs (c : Cfg) (k : Nat) : Array Value := #[.int .i64 0, .int .i64 (if 0 < k then (c.fld 0).2 else 0), .int .i64 (if 1 < k then (c.fld 1).2 else 0), .int .i64 (if 2 < k then (c.fld 2).2 else 0), .int .i64 (if 3 < k then (c.fld 3).2 else 0), .int .i64 (if 4 < k then (c.fld 4).2 else 0), .int .i64 (if 5 < k then (c.fld 5).2 else 0), .int .i64 (if 6 < k then (c.fld 6).2 else 0), .int .i64 (if 7 < k then (c.fld 7).2 else 0), .int .i64 (if 8 < k then (c.fld 8).2 else 0), .int .i64 (if 9 < k then (c.fld 9).2 else 0), .int .i64 (if 10 < k then (c.fld 10).2 else 0), .int .i64 (if 11 < k then (c.fld 11).2 else 0)]
/-- a float is not above another one -/
def fLe (a b : Nat) : Bool := FloatKind.f64.format.order a b == some Ordering.lt || FloatKind.f64.format.order a b == some Ordering.eq
def Cfg.e3 (c : Cfg) : Int := if ((c.fld 0).2 == 0 && (c.fld 2).2 == 0 && fLe c.panic c.step) = true then 100 else (c.fld 2).2
def Cfg.e9 (c : Cfg) : Int := if ((c.fld 7).2 == 0 && (c.fld 8).2 == 0 && decide (c.maxPoll < c.minPoll)) = true then 100 else (c.fld 8).2
/-- the errors, by the fields' numbers -/
def Cfg.err (c : Cfg) : Nat → Int
  | 1 => (c.fld 0).2
  | 2 => (c.fld 1).2
  | 3 => c.e3
  | 4 => (c.fld 3).2
  | 5 => (c.fld 4).2
  | 6 => (c.fld 5).2
  | 7 => (c.fld 6).2
  | 8 => (c.fld 7).2
  | 9 => c.e9
  | 10 => (c.fld 9).2
  | 11 => (c.fld 10).2
  | 12 => (c.fld 11).2
  | _ => 0
def Cfg.errs (c : Cfg) : Array Value := #[.int .i64 (c.err 0), .int .i64 (c.err 1), .int .i64 (c.err 2), .int .i64 (c.err 3), .int .i64 (c.err 4), .int .i64 (c.err 5), .int .i64 (c.err 6), .int .i64 (c.err 7), .int .i64 (c.err 8), .int .i64 (c.err 9), .int .i64 (c.err 10), .int .i64 (c.err 11), .int .i64 (c.err 12)]
def Cfg.set (c : Cfg) : Array Value := #[.int .i64 (c.fld 0).1, .int .i64 (c.fld 1).1, .int .i64 (c.fld 2).1, .int .i64 (c.fld 3).1, .int .i64 (c.fld 4).1, .int .i64 (c.fld 5).1, .int .i64 (c.fld 6).1, .int .i64 (c.fld 7).1, .int .i64 (c.fld 8).1, .int .i64 (c.fld 9).1, .int .i64 (c.fld 10).1, .int .i64 (c.fld 11).1]
end Go.Proofs.Ytopgidgkpafeeaa
/- Steps of a region that draws its order: whole rows of cells loaded and stored. -/
namespace Go.Proofs.Ytopgidgkpafeeaa
open Go.RowKit

theorem step_load_row {P : Program} {ops : Array Oper} {o : Oper} {a : Act} {w : World} {K : Act → World → Prop} {Q : Exit → Act → World → Prop} {E : Prop} (hgd : o.guard = none) (ty : TypeId) (x : Operand) (ho : o.op = .load ty x)
    (g : Nat) (hx : a.eval x = .pointer (some ⟨g, 0, none⟩)) (t : TypeId) (cs : Array Value) (fr : Nat × Nat) (d : TypeDesc) (hg : w.heap[g]? = some (.cells cs t fr))
    (hu : P.underlying ty = some d) (hd : (match d with | .struct _ | .array _ _ => true | _ => false) = true) (hi : (P.info? ty).map (·.size) = some cs.size)
    (h : K (a.put o.dst (.agg cs)) w) : if Region.wanted o (yielded ops a.tmps) = true then o.wp P a w K Q else E := by
  have hw : Region.wanted o (yielded ops a.tmps) = true := by simp [Region.wanted, hgd]
  rw [if_pos hw]
  exact wp_load_row ty x ho g hx t cs fr d hg hu hd hi h
theorem step_store_row {P : Program} {ops : Array Oper} {o : Oper} {a : Act} {w : World} {K : Act → World → Prop} {Q : Exit → Act → World → Prop} {E : Prop} (hgd : o.guard = none) (ty : TypeId) (x y : Operand) (ho : o.op = .store ty x y)
    (g : Nat) (cells : Array Value) (hx : a.eval x = .pointer (some ⟨g, 0, none⟩)) (hy : a.eval y = .agg cells)
    (t : TypeId) (old : Array Value) (hg : w.heap[g]? = some (.cells old t (0, 0))) (hi : (P.info? ty).map (·.size) = some cells.size)
    (hold : old.size = cells.size) (h1 : cells.all (·.oneCell') = true)
    (h : K (a.put o.dst undef) (w.setRow g cells)) : if Region.wanted o (yielded ops a.tmps) = true then o.wp P a w K Q else E := by
  have hw : Region.wanted o (yielded ops a.tmps) = true := by simp [Region.wanted, hgd]
  rw [if_pos hw]
  exact wp_store_row ty x y ho g cells hx hy t old hg hi hold h1 h
/-- two results, each a row of cells -/
theorem results_two_rows {P : Program} {fn : Func} {p q : Tmp} {ty tz : TypeId} (h : fn.results = #[.cell p ty, .cell q tz]) (tmps : Array Value) (w : World) (g g' : Nat) (t t' : TypeId) (cs cs' : Array Value) (fr fr' : Nat × Nat) (d d' : TypeDesc)
    (hp : tmps.getD p undef = .pointer (some ⟨g, 0, none⟩)) (hg : w.heap[g]? = some (.cells cs t fr)) (hu : P.underlying ty = some d) (hd : (match d with | .struct _ | .array _ _ => true | _ => false) = true) (hi : (P.info? ty).map (·.size) = some cs.size)
    (hq : tmps.getD q undef = .pointer (some ⟨g', 0, none⟩)) (hg' : w.heap[g']? = some (.cells cs' t' fr')) (hu' : P.underlying tz = some d') (hd' : (match d' with | .struct _ | .array _ _ => true | _ => false) = true) (hi' : (P.info? tz).map (·.size) = some cs'.size) :
    (results fn tmps).run P w = .ok (.tuple #[.agg cs, .agg cs']) w := by
  have hp' : tmps[p]?.getD undef = .pointer (some ⟨g, 0, none⟩) := by simpa using hp
  have hq' : tmps[q]?.getD undef = .pointer (some ⟨g', 0, none⟩) := by simpa using hq
  simp [results, h, hp', hq', asAddr, run_loadVar_row w g t ty cs fr d hg hu hd hi, run_loadVar_row w g' t' tz cs' fr' d' hg' hu' hd' hi']
end Go.Proofs.Ytopgidgkpafeeaa
