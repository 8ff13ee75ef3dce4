/- Contracts of fix: Sub, Mul; of the reference: its sums. -/
import Derived.Test.YthhipnhnpjhaaaaNd
import Derived.Test.YthhipnhnpjhaaaaFm
namespace Go.Proofs.Ythhipnhnpjhaaaa
open Go Go.RowKit Ev
set_option linter.unusedVariables false
set_option linter.unusedSimpArgs false
set_option maxRecDepth 100000

def subT : Tree :=
 (.node (.cmp .lss (.var 0) (.lit 0))
 (.node (.cmp .lss (.lit 0) (.var 1))
 (.node (.cmp .lss (.ar .sub .i64 (.var 0) (.var 1)) (.lit 0))
 (.leaf (.int .i64 (.mx (.ar .sub .i64 (.var 0) (.var 1)) (.lit (-9223372036854775807)))))
 (.leaf (.int .i64 (.lit (-9223372036854775807)))))
 (.leaf (.int .i64 (.mx (.pl .sub (.var 0) (.var 1)) (.lit (-9223372036854775807))))))
 (.node (.cmp .lss (.var 1) (.lit 0))
 (.node (.cmp .lss (.ar .sub .i64 (.var 0) (.var 1)) (.lit 0))
 (.leaf (.int .i64 (.lit 9223372036854775807)))
 (.leaf (.int .i64 (.mx (.ar .sub .i64 (.var 0) (.var 1)) (.lit (-9223372036854775807))))))
 (.leaf (.int .i64 (.mx (.pl .sub (.var 0) (.var 1)) (.lit (-9223372036854775807)))))))
theorem sub_any (a b : Int) (a0 : -9223372036854775808 ≤ a) (a1 : a ≤ 9223372036854775807) (b0 : -9223372036854775808 ≤ b) (b1 : b ≤ 9223372036854775807) (w : World) :
    Calls Try.prog 30 #[.int .i64 a, .int .i64 b] w fun e w' => e = .returned (.int .i64 (sat (a - b))) ∧ Below w.heap.size w w' := by
  have h := tree_sound (P := Try.prog) mixed (ρ := envOf [a, b]) (n := 400) (f := 30) (args := [.int .i64 (.var 0), .int .i64 (.var 1)]) subT (X := { pc := [], rg := [i64R, i64R] })
    (knows_env rfl ⟨⟨a0, a1⟩, ⟨b0, b1⟩, trivial⟩ (fun f v h => by cases h)) (knowsC_none rfl rfl rfl) (Tree.ok_of_check (by kernel_rfl)) (Tree.whole_live (by kernel_rfl)) w
  have e : subT.val (envOf [a, b]) = .int .i64 (sat (a - b)) := by
    simp only [subT, Tree.val, BE.den, cmpI, SV.den, IE.den, arI, plI, mxI, Bool.cond_decide, IntKind.wrap_i64, List.getD_cons_zero, List.getD_cons_succ]
    unfold sat
    repeat' split
    all_goals (congr 1; omega)
  rw [e] at h
  exact h
def addT2 : Tree :=
(.node (.cmp .lss (.var 0) (.lit 0))
 (.node (.cmp .lss (.var 1) (.lit 0))
 (.node (.cmp .lss (.ar .add .u64 (.ar .sub .u64 (.lit 0) (.wr .u64 (.var 0))) (.ar .sub .u64 (.lit 0) (.wr .u64 (.var 1)))) (.ar .sub .u64 (.lit 0) (.wr .u64 (.var 0))))
 (.leaf (.int .i64 (.lit (-9223372036854775807))))
 (.node (.cmp .lss (.lit 9223372036854775807) (.ar .add .u64 (.ar .sub .u64 (.lit 0) (.wr .u64 (.var 0))) (.ar .sub .u64 (.lit 0) (.wr .u64 (.var 1)))))
 (.leaf (.int .i64 (.lit (-9223372036854775807))))
 (.leaf (.int .i64 (.pl .sub (.lit 0) (.ar .add .u64 (.ar .sub .u64 (.lit 0) (.wr .u64 (.var 0))) (.ar .sub .u64 (.lit 0) (.wr .u64 (.var 1)))))))))
 (.leaf (.int .i64 (.mx (.pl .add (.var 0) (.var 1)) (.lit (-9223372036854775807))))))
 (.node (.cmp .lss (.var 1) (.lit 0))
 (.leaf (.int .i64 (.mx (.pl .add (.var 0) (.var 1)) (.lit (-9223372036854775807)))))
 (.node (.cmp .lss (.pl .add (.var 0) (.var 1)) (.var 0))
 (.leaf (.int .i64 (.lit 9223372036854775807)))
 (.node (.cmp .lss (.lit 9223372036854775807) (.pl .add (.var 0) (.var 1)))
 (.leaf (.int .i64 (.lit 9223372036854775807)))
 (.leaf (.int .i64 (.pl .add (.var 0) (.var 1))))))))
def subT2 : Tree :=
(.node (.cmp .lss (.var 0) (.lit 0))
 (.node (.cmp .lss (.var 1) (.lit 0))
 (.leaf (.int .i64 (.mx (.pl .sub (.var 0) (.var 1)) (.lit (-9223372036854775807)))))
 (.node (.cmp .lss (.ar .add .u64 (.ar .sub .u64 (.lit 0) (.wr .u64 (.var 0))) (.var 1)) (.ar .sub .u64 (.lit 0) (.wr .u64 (.var 0))))
 (.leaf (.int .i64 (.lit (-9223372036854775807))))
 (.node (.cmp .lss (.lit 9223372036854775807) (.ar .add .u64 (.ar .sub .u64 (.lit 0) (.wr .u64 (.var 0))) (.var 1)))
 (.leaf (.int .i64 (.lit (-9223372036854775807))))
 (.leaf (.int .i64 (.pl .sub (.lit 0) (.ar .add .u64 (.ar .sub .u64 (.lit 0) (.wr .u64 (.var 0))) (.var 1))))))))
 (.node (.cmp .lss (.var 1) (.lit 0))
 (.node (.cmp .lss (.ar .add .u64 (.var 0) (.ar .sub .u64 (.lit 0) (.wr .u64 (.var 1)))) (.var 0))
 (.leaf (.int .i64 (.lit 9223372036854775807)))
 (.node (.cmp .lss (.lit 9223372036854775807) (.ar .add .u64 (.var 0) (.ar .sub .u64 (.lit 0) (.wr .u64 (.var 1)))))
 (.leaf (.int .i64 (.lit 9223372036854775807)))
 (.leaf (.int .i64 (.ar .add .u64 (.var 0) (.ar .sub .u64 (.lit 0) (.wr .u64 (.var 1))))))))
 (.leaf (.int .i64 (.mx (.pl .sub (.var 0) (.var 1)) (.lit (-9223372036854775807)))))))
theorem neg_u64 {a : Int} (h : a < 0) (h1 : -9223372036854775808 ≤ a) : arI .sub .u64 0 (IntKind.u64.wrap a) = -a := by
  show IntKind.u64.wrap (0 - IntKind.u64.wrap a) = -a
  rw [IntKind.wrap_u64, IntKind.wrap_u64]; omega
theorem add_u64 (x y : Int) : arI .add .u64 x y = (x + y) % 18446744073709551616 := IntKind.wrap_u64 _
theorem fMul_sat (a b : Int) : fMul a b = sat (a * b / 4294967296) := by
  have e1 : decide (a < 0) = true ∨ decide (a < 0) = false := by cases decide (a < 0) <;> simp
  have key : ∀ (x y : Int), 0 ≤ x * y → (if 2147483648 ≤ x * y / 18446744073709551616 then fCut 9223372036854775807 0 false else fCut (x * y / 4294967296) (x * y * 4294967296 % 18446744073709551616) false) = sat (x * y / 4294967296) := by
    intro x y h
    generalize x * y = z at h
    unfold fCut sat
    simp only [Bool.false_eq_true, if_false]
    split <;> omega
  have key2 : ∀ (x y : Int), 0 ≤ x * y → (if 2147483648 ≤ x * y / 18446744073709551616 then fCut 9223372036854775807 0 true else fCut (x * y / 4294967296) (x * y * 4294967296 % 18446744073709551616) true) = sat (-(x * y) / 4294967296) := by
    intro x y h
    generalize x * y = z at h
    unfold fCut sat
    simp only [if_true]
    repeat' split
    all_goals omega
  unfold fMul
  by_cases ha : a < 0 <;> by_cases hb : b < 0
  · rw [show fSize a = -a from if_pos ha, show fSize b = -b from if_pos hb, decide_eq_true ha, decide_eq_true hb]
    have h := key (-a) (-b) (Int.mul_nonneg (by omega) (by omega))
    rw [Int.neg_mul_neg] at h ⊢
    exact h
  · rw [show fSize a = -a from if_pos ha, show fSize b = b from if_neg hb, decide_eq_true ha, decide_eq_false hb]
    have h := key2 (-a) b (Int.mul_nonneg (by omega) (by omega))
    rw [show -(-a * b) = a * b by rw [Int.neg_mul, Int.neg_neg]] at h
    exact h
  · rw [show fSize a = a from if_neg ha, show fSize b = -b from if_pos hb, decide_eq_false ha, decide_eq_true hb]
    have h := key2 a (-b) (Int.mul_nonneg (by omega) (by omega))
    rw [show -(a * -b) = a * b by rw [Int.mul_neg, Int.neg_neg]] at h
    exact h
  · rw [show fSize a = a from if_neg ha, show fSize b = b from if_neg hb, decide_eq_false ha, decide_eq_false hb]
    exact key a b (Int.mul_nonneg (by omega) (by omega))
noncomputable abbrev addCon : Con := con2 28 1
theorem addCon_ok {ρ : Env} (ha : NumA ρ) : addCon.holds Try.prog ρ := con2_ok ha (by decide) fun a b h k w => add_any a b h.1 h.2 k.1 k.2 w
noncomputable abbrev shiftCon : Con := con2 38 3
theorem shiftCon_ok {ρ : Env} (ha : NumA ρ) : shiftCon.holds Try.prog ρ := con2_ok ha (by decide) fun a b h k w => shift_any a b h.1 h.2 k.1 k.2 w
noncomputable abbrev subCon : Con := con2 30 2
theorem subCon_ok {ρ : Env} (ha : NumA ρ) : subCon.holds Try.prog ρ := con2_ok ha (by decide) fun a b h k w => sub_any a b h.1 h.2 k.1 k.2 w
noncomputable abbrev mulCon : Con := con2 46 4
theorem mulCon_ok {ρ : Env} (ha : NumA ρ) : mulCon.holds Try.prog ρ := con2_ok ha (by decide) fun a b h k w => by
  have := fixmul_any a b h.1 h.2 k.1 k.2 w
  rw [fMul_sat] at this
  exact this
end Go.Proofs.Ythhipnhnpjhaaaa
