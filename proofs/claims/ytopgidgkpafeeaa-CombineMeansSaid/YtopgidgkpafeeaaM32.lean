/- The document's Div, Sqrt, Clamp. -/
import Derived.Test.YtopgidgkpafeeaaM30
import Derived.Test.YtopgidgkpafeeaaM31
namespace Go.Proofs.Ytopgidgkpafeeaa
open Go Go.RowKit Ev
set_option linter.unusedVariables false
set_option linter.unusedSimpArgs false
set_option maxRecDepth 100000
set_option maxHeartbeats 0
def rdvT : Tree :=
(.node (.cmp .eql (.var 1) (.lit 0))
 (.node (.cmp .eql (.var 0) (.lit 0))
 (.leaf (.int .i64 (.lit 0)))
 (.node (.cmp .lss (.var 0) (.lit 0))
 (.leaf (.int .i64 (.lit (-9223372036854775807))))
 (.leaf (.int .i64 (.lit 9223372036854775807)))))
 (.node (.cmp .lss (.var 0) (.lit 0))
 (.node (.cmp .lss (.var 1) (.lit 0))
 (.node (.cmp .lss (.ar .shr .u64 (.ar .sub .u64 (.lit 0) (.wr .u64 (.var 0))) (.lit 32)) (.ar .sub .u64 (.lit 0) (.wr .u64 (.var 1))))
 (.node (.cmp .lss (.lit 9223372036854775807) (.ap 5 (.ar .shr .u64 (.ar .sub .u64 (.lit 0) (.wr .u64 (.var 0))) (.lit 32)) (.ar .shl .u64 (.ar .sub .u64 (.lit 0) (.wr .u64 (.var 0))) (.lit 32)) (.ar .sub .u64 (.lit 0) (.wr .u64 (.var 1)))))
 (.leaf (.int .i64 (.lit 9223372036854775807)))
 (.leaf (.int .i64 (.ap 5 (.ar .shr .u64 (.ar .sub .u64 (.lit 0) (.wr .u64 (.var 0))) (.lit 32)) (.ar .shl .u64 (.ar .sub .u64 (.lit 0) (.wr .u64 (.var 0))) (.lit 32)) (.ar .sub .u64 (.lit 0) (.wr .u64 (.var 1)))))))
 (.leaf (.int .i64 (.lit 9223372036854775807))))
 (.node (.cmp .lss (.ar .shr .u64 (.ar .sub .u64 (.lit 0) (.wr .u64 (.var 0))) (.lit 32)) (.var 1))
 (.node (.cmp .lss (.lit 0) (.ap 6 (.ar .shr .u64 (.ar .sub .u64 (.lit 0) (.wr .u64 (.var 0))) (.lit 32)) (.ar .shl .u64 (.ar .sub .u64 (.lit 0) (.wr .u64 (.var 0))) (.lit 32)) (.var 1)))
 (.node (.cmp .lss (.ap 5 (.ar .shr .u64 (.ar .sub .u64 (.lit 0) (.wr .u64 (.var 0))) (.lit 32)) (.ar .shl .u64 (.ar .sub .u64 (.lit 0) (.wr .u64 (.var 0))) (.lit 32)) (.var 1)) (.lit 9223372036854775808))
 (.node (.cmp .lss (.lit 9223372036854775807) (.pl .add (.ap 5 (.ar .shr .u64 (.ar .sub .u64 (.lit 0) (.wr .u64 (.var 0))) (.lit 32)) (.ar .shl .u64 (.ar .sub .u64 (.lit 0) (.wr .u64 (.var 0))) (.lit 32)) (.var 1)) (.lit 1)))
 (.leaf (.int .i64 (.lit (-9223372036854775807))))
 (.leaf (.int .i64 (.pl .sub (.lit 0) (.pl .add (.ap 5 (.ar .shr .u64 (.ar .sub .u64 (.lit 0) (.wr .u64 (.var 0))) (.lit 32)) (.ar .shl .u64 (.ar .sub .u64 (.lit 0) (.wr .u64 (.var 0))) (.lit 32)) (.var 1)) (.lit 1))))))
 (.leaf (.int .i64 (.lit (-9223372036854775807)))))
 (.node (.cmp .lss (.lit 9223372036854775807) (.ap 5 (.ar .shr .u64 (.ar .sub .u64 (.lit 0) (.wr .u64 (.var 0))) (.lit 32)) (.ar .shl .u64 (.ar .sub .u64 (.lit 0) (.wr .u64 (.var 0))) (.lit 32)) (.var 1)))
 (.leaf (.int .i64 (.lit (-9223372036854775807))))
 (.leaf (.int .i64 (.pl .sub (.lit 0) (.ap 5 (.ar .shr .u64 (.ar .sub .u64 (.lit 0) (.wr .u64 (.var 0))) (.lit 32)) (.ar .shl .u64 (.ar .sub .u64 (.lit 0) (.wr .u64 (.var 0))) (.lit 32)) (.var 1)))))))
 (.leaf (.int .i64 (.lit (-9223372036854775807))))))
 (.node (.cmp .lss (.var 1) (.lit 0))
 (.node (.cmp .lss (.ar .shr .u64 (.var 0) (.lit 32)) (.ar .sub .u64 (.lit 0) (.wr .u64 (.var 1))))
 (.node (.cmp .lss (.lit 0) (.ap 6 (.ar .shr .u64 (.var 0) (.lit 32)) (.ar .shl .u64 (.var 0) (.lit 32)) (.ar .sub .u64 (.lit 0) (.wr .u64 (.var 1)))))
 (.node (.cmp .lss (.ap 5 (.ar .shr .u64 (.var 0) (.lit 32)) (.ar .shl .u64 (.var 0) (.lit 32)) (.ar .sub .u64 (.lit 0) (.wr .u64 (.var 1)))) (.lit 9223372036854775808))
 (.node (.cmp .lss (.lit 9223372036854775807) (.pl .add (.ap 5 (.ar .shr .u64 (.var 0) (.lit 32)) (.ar .shl .u64 (.var 0) (.lit 32)) (.ar .sub .u64 (.lit 0) (.wr .u64 (.var 1)))) (.lit 1)))
 (.leaf (.int .i64 (.lit (-9223372036854775807))))
 (.leaf (.int .i64 (.pl .sub (.lit 0) (.pl .add (.ap 5 (.ar .shr .u64 (.var 0) (.lit 32)) (.ar .shl .u64 (.var 0) (.lit 32)) (.ar .sub .u64 (.lit 0) (.wr .u64 (.var 1)))) (.lit 1))))))
 (.leaf (.int .i64 (.lit (-9223372036854775807)))))
 (.node (.cmp .lss (.lit 9223372036854775807) (.ap 5 (.ar .shr .u64 (.var 0) (.lit 32)) (.ar .shl .u64 (.var 0) (.lit 32)) (.ar .sub .u64 (.lit 0) (.wr .u64 (.var 1)))))
 (.leaf (.int .i64 (.lit (-9223372036854775807))))
 (.leaf (.int .i64 (.pl .sub (.lit 0) (.ap 5 (.ar .shr .u64 (.var 0) (.lit 32)) (.ar .shl .u64 (.var 0) (.lit 32)) (.ar .sub .u64 (.lit 0) (.wr .u64 (.var 1)))))))))
 (.leaf (.int .i64 (.lit (-9223372036854775807)))))
 (.node (.cmp .lss (.ar .shr .u64 (.var 0) (.lit 32)) (.var 1))
 (.node (.cmp .lss (.lit 9223372036854775807) (.ap 5 (.ar .shr .u64 (.var 0) (.lit 32)) (.ar .shl .u64 (.var 0) (.lit 32)) (.var 1)))
 (.leaf (.int .i64 (.lit 9223372036854775807)))
 (.leaf (.int .i64 (.ap 5 (.ar .shr .u64 (.var 0) (.lit 32)) (.ar .shl .u64 (.var 0) (.lit 32)) (.var 1)))))
 (.leaf (.int .i64 (.lit 9223372036854775807)))))))
def rsqT : Tree :=
(.node (.cmp .lss (.lit 0) (.var 0))
 (.node (.cmp .lss (.lit 9223372036854775807) (.ap 7 (.ar .shr .u64 (.var 0) (.lit 32)) (.ar .shl .u64 (.var 0) (.lit 32)) (.lit 0)))
 (.leaf (.int .i64 (.lit 9223372036854775807)))
 (.leaf (.int .i64 (.ap 7 (.ar .shr .u64 (.var 0) (.lit 32)) (.ar .shl .u64 (.var 0) (.lit 32)) (.lit 0)))))
 (.leaf (.int .i64 (.lit 0))))
def rclT : Tree :=
(.node (.cmp .lss (.var 0) (.var 1))
 (.leaf (.int .i64 (.mx (.var 1) (.lit (-9223372036854775807)))))
 (.node (.cmp .lss (.var 2) (.var 0))
 (.leaf (.int .i64 (.mx (.var 2) (.lit (-9223372036854775807)))))
 (.leaf (.int .i64 (.mx (.var 0) (.lit (-9223372036854775807)))))))
theorem rdvT_val (a b : Int) (ha : InI a) (hb : InI b) : rdvT.val (envOf [a, b] (ap := apN)) = .int .i64 (apN 8 a b 0) := by
  obtain ⟨a0, a1⟩ := ha
  obtain ⟨b0, b1⟩ := hb
  have sz : ∀ x : Int, InI x → x < 0 → arI .sub .u64 0 (IntKind.u64.wrap x) = -x := fun x h1 h2 => by
    rw [subW, IntKind.wrap_u64]; omega
  simp only [rdvT, Tree.val, BE.den, cmpI, SV.den, IE.den, Bool.cond_decide, List.getD_cons_zero, List.getD_cons_succ]
  have pa : ∀ x y : Int, plI .add x y = x + y := fun x y => rfl
  have ps : ∀ x y : Int, plI .sub x y = x - y := fun x y => rfl
  simp only [pa, ps]
  have goal : apN 8 a b 0 = sat (fDiv a b) := rfl
  rw [goal]
  unfold fDiv
  by_cases hb0 : b = 0
  · subst hb0
    by_cases ha0 : a = 0
    · subst ha0
      rfl
    · rw [beq_eq_false_iff_ne.2 ha0, if_neg ha0, if_pos rfl]
      by_cases ha : a < 0
      · simp only [if_pos ha]; rfl
      · simp only [if_neg ha]; rfl
  · rw [beq_eq_false_iff_ne.2 hb0, cond_false, if_neg hb0]
    have hz : ∀ X : Int, (a = 0 → X = 0) → (if a = 0 then 0 else X) = X := fun X h => by split <;> simp_all
    by_cases ha : a < 0
    · rw [if_pos ha, if_neg (by omega : ¬ a = 0)]
      by_cases hb : b < 0
      · rw [if_pos hb, sz a ⟨a0, a1⟩ ha, sz b ⟨b0, b1⟩ hb, fdiv_neg_neg hb]
        by_cases hc : arI .shr .u64 (-a) 32 < -b
        · obtain ⟨q, r, g0, g1⟩ := dq_of (m := -a) (n := -b) (by omega) (by omega) (by omega) hc
          rw [if_pos hc, q]
          generalize -a * 4294967296 / -b = z at *
          unfold sat; split <;> (congr 1; omega)
        · have := dq_no (m := -a) (n := -b) (by omega) (by omega) hc
          rw [if_neg hc]
          generalize -a * 4294967296 / -b = z at *
          unfold sat; congr 1; omega
      · rw [if_neg hb, sz a ⟨a0, a1⟩ ha, Int.fdiv_eq_ediv_of_nonneg _ (by omega)]
        have e : a * 4294967296 = -(-a * 4294967296) := by omega
        rw [e, neg_floor (by omega)]
        by_cases hc : arI .shr .u64 (-a) 32 < b
        · obtain ⟨q, r, g0, g1⟩ := dq_of (m := -a) (n := b) (by omega) (by omega) (by omega) hc
          rw [if_pos hc, q, r]
          generalize -a * 4294967296 / b = z at *
          generalize -a * 4294967296 % b = y at *
          unfold sat
          repeat' split
          all_goals (congr 1; omega)
        · have := dq_no (m := -a) (n := b) (by omega) (by omega) hc
          rw [if_neg hc]
          generalize -a * 4294967296 / b = z at *
          unfold sat
          split <;> (congr 1; omega)
    · rw [if_neg ha]
      by_cases hb : b < 0
      · rw [if_pos hb, sz b ⟨b0, b1⟩ hb, fdiv_neg_neg hb]
        have e : -a * 4294967296 = -(a * 4294967296) := by omega
        rw [e, neg_floor (by omega)]
        by_cases hc : arI .shr .u64 a 32 < -b
        · obtain ⟨q, r, g0, g1⟩ := dq_of (m := a) (n := -b) (by omega) (by omega) (by omega) hc
          rw [if_pos hc, q, r]
          rw [hz _ (by rintro rfl; simp; rfl)]
          generalize a * 4294967296 / -b = z at *
          generalize a * 4294967296 % -b = y at *
          unfold sat
          repeat' split
          all_goals (congr 1; omega)
        · have := dq_no (m := a) (n := -b) (by omega) (by omega) hc
          rw [if_neg hc]
          rw [hz _ (by rintro rfl; simp; rfl)]
          generalize a * 4294967296 / -b = z at *
          unfold sat
          split <;> (congr 1; omega)
      · rw [if_neg hb, Int.fdiv_eq_ediv_of_nonneg _ (by omega), hz _ (by rintro rfl; simp; rfl)]
        by_cases hc : arI .shr .u64 a 32 < b
        · obtain ⟨q, r, g0, g1⟩ := dq_of (m := a) (n := b) (by omega) (by omega) (by omega) hc
          rw [if_pos hc, q]
          generalize a * 4294967296 / b = z at *
          unfold sat; split <;> (congr 1; omega)
        · have := dq_no (m := a) (n := b) (by omega) (by omega) hc
          rw [if_neg hc]
          generalize a * 4294967296 / b = z at *
          unfold sat; congr 1; omega
theorem refdiv_any (a b : Int) (ha : InI a) (hb : InI b) (w : World) : Calls Try.prog 77 #[.int .i64 a, .int .i64 b] w fun e w' => e = .returned (.int .i64 (apN 8 a b 0)) ∧ Below w.heap.size w w' :=
  num_any (is := [a, b]) (rg := [i64R, i64R]) (args := [.int .i64 (.var 0), .int .i64 (.var 1)]) ⟨ha, hb, trivial⟩ (cs := [rdivCon]) (fun c hc => by
    rw [List.mem_singleton.1 hc]; exact rdivCon_ok (numA_N rfl)) rdvT (n := 400) (by kernel_rfl) (Tree.whole_live (by kernel_rfl)) (rdvT_val a b ha hb) w
theorem rsqT_val (a : Int) (ha : InI a) : rsqT.val (envOf [a] (ap := apN)) = .int .i64 (apN 9 a 0 0) := by
  simp only [rsqT, Tree.val, BE.den, cmpI, SV.den, IE.den, Bool.cond_decide, List.getD_cons_zero]
  have e9 : apN 9 a 0 0 = sat (fSqrt a) := rfl
  rw [e9]
  unfold fSqrt
  have hb : a.toNat ≤ 9223372036854775807 := by have := ha.2; omega
  have h4 : (4 : Nat) ^ 64 = 340282366920938463463374607431768211456 := by decide
  have hl : isq (a.toNat * 4294967296) < 9223372036854775807 := isq_lt (by rw [h4]; omega) (by omega)
  by_cases h : 0 < a
  · rw [if_pos h]
    have e : a = (a.toNat : Int) := by omega
    have e7 : apN 7 (arI .shr .u64 a 32) (arI .shl .u64 a 32) 0 = (isq (a.toNat * 4294967296) : Nat) := by
      rw [e]
      simp only [apN]
      rw [shr32, shl32]
      have e : ((a.toNat : Int) / 4294967296 * 18446744073709551616 + (a.toNat : Int) * 4294967296 % 18446744073709551616).toNat = a.toNat * 4294967296 := by omega
      rw [e]
      simp only [Int.toNat_natCast]
      omega
    rw [e7]
    generalize isq (a.toNat * 4294967296) = z at *
    unfold sat; split <;> (congr 1; omega)
  · rw [if_neg h]
    have e : a.toNat = 0 := by omega
    rw [e, Nat.zero_mul]
    have hz : isq 0 = 0 := by
      have := isq_lt (V := 0) (k := 1) (by decide) (by omega)
      omega
    rw [hz]
    rfl
theorem refsqrt_any (a : Int) (ha : InI a) (w : World) : Calls Try.prog 80 #[.int .i64 a] w fun e w' => e = .returned (.int .i64 (apN 9 a 0 0)) ∧ Below w.heap.size w w' :=
  num_any (is := [a]) (rg := [i64R]) (args := [.int .i64 (.var 0)]) ⟨ha, trivial⟩ (cs := [rsqrtCon]) (fun c hc => by
    rw [List.mem_singleton.1 hc]; exact rsqrtCon_ok (numA_N rfl)) rsqT (n := 400) (by kernel_rfl) (Tree.whole_live (by kernel_rfl)) (rsqT_val a ha) w
theorem refclamp_any (a b c : Int) (ha : InI a) (hb : InI b) (hc : InI c) (w : World) : Calls Try.prog 76 #[.int .i64 a, .int .i64 b, .int .i64 c] w fun e w' => e = .returned (.int .i64 (apN 10 a b c)) ∧ Below w.heap.size w w' :=
  num_any (is := [a, b, c]) (rg := [i64R, i64R, i64R]) (args := [.int .i64 (.var 0), .int .i64 (.var 1), .int .i64 (.var 2)]) ⟨ha, hb, hc, trivial⟩ (cs := []) (fun c hc => by cases hc) rclT (n := 400) (by kernel_rfl) (Tree.whole_live (by kernel_rfl)) (by
    simp only [rclT, Tree.val, BE.den, cmpI, SV.den, IE.den, Bool.cond_decide, List.getD_cons_zero, List.getD_cons_succ, mxI, apN, fClamp]
    have h1 := ha.2
    have h2 := hb.2
    have h3 := hc.2
    unfold sat
    repeat' split
    all_goals (congr 1; omega)) w
noncomputable abbrev divCon2 : Con := con2 77 8
theorem divCon2_ok {ρ : Env} (ha : NumA ρ) : divCon2.holds Try.prog ρ := con2_ok ha (by decide) fun a b h k w => refdiv_any a b h k w
noncomputable abbrev sqrtCon2 : Con := con1 80 9
theorem sqrtCon2_ok {ρ : Env} (ha : NumA ρ) : sqrtCon2.holds Try.prog ρ := con1_ok ha (by decide) fun a h w => refsqrt_any a h w
noncomputable abbrev clampCon2 : Con := con3 76 10
theorem clampCon2_ok {ρ : Env} (ha : NumA ρ) : clampCon2.holds Try.prog ρ := con3_ok ha (by decide) fun a b c h k l w => refclamp_any a b c h k l w
/-- the document's numbers, whole -/
noncomputable abbrev consR : List Con := divCon2 :: sqrtCon2 :: clampCon2 :: consM
theorem consR_ok {ρ : Env} (ha : NumA ρ) : ∀ c ∈ consR, c.holds Try.prog ρ :=
  List.forall_mem_cons.2 ⟨divCon2_ok ha, List.forall_mem_cons.2 ⟨sqrtCon2_ok ha, List.forall_mem_cons.2 ⟨clampCon2_ok ha, consM_ok ha⟩⟩⟩
end Go.Proofs.Ytopgidgkpafeeaa
