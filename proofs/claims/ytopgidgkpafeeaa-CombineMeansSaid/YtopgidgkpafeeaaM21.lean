/- Several texts in one. -/
import Derived.Test.YtopgidgkpafeeaaM15
import Derived.Test.YtopgidgkpafeeaaM20
import Derived.Test.YtopgidgkpafeeaaM14
/- Contracts of fix: Sub, Mul; of the reference: its sums. -/
namespace Go.Proofs.Ytopgidgkpafeeaa
open Go Go.RowKit Ev
set_option linter.unusedVariables false
set_option linter.unusedSimpArgs false
set_option maxRecDepth 100000

def subT : Tree :=
 (.node (.cmp .lss (.var 0) (.lit 0))
 (.node (.cmp .lss (.lit 0) (.var 1))
 (.node (.cmp .lss (.ar .sub .i64 (.var 0) (.var 1)) (.lit 0))
 (.leaf (.int .i64 (.mx (.ar .sub .i64 (.var 0) (.var 1)) (.lit (-9223372036854775807)))))
 (.leaf (.int .i64 (.lit (-9223372036854775807)))))
 (.leaf (.int .i64 (.mx (.pl .sub (.var 0) (.var 1)) (.lit (-9223372036854775807))))))
 (.node (.cmp .lss (.var 1) (.lit 0))
 (.node (.cmp .lss (.ar .sub .i64 (.var 0) (.var 1)) (.lit 0))
 (.leaf (.int .i64 (.lit 9223372036854775807)))
 (.leaf (.int .i64 (.mx (.ar .sub .i64 (.var 0) (.var 1)) (.lit (-9223372036854775807))))))
 (.leaf (.int .i64 (.mx (.pl .sub (.var 0) (.var 1)) (.lit (-9223372036854775807)))))))
theorem sub_any (a b : Int) (a0 : -9223372036854775808 ≤ a) (a1 : a ≤ 9223372036854775807) (b0 : -9223372036854775808 ≤ b) (b1 : b ≤ 9223372036854775807) (w : World) :
    Calls Try.prog 53 #[.int .i64 a, .int .i64 b] w fun e w' => e = .returned (.int .i64 (sat (a - b))) ∧ Below w.heap.size w w' := by
  have h := tree_sound (P := Try.prog) mixed (ρ := envOf [a, b]) (n := 400) (f := 53) (args := [.int .i64 (.var 0), .int .i64 (.var 1)]) subT (X := { pc := [], rg := [i64R, i64R] })
    (knows_env rfl ⟨⟨a0, a1⟩, ⟨b0, b1⟩, trivial⟩ (fun f v h => by cases h)) (knowsC_none rfl rfl rfl) (Tree.ok_of_check (by kernel_rfl)) (Tree.whole_live (by kernel_rfl)) w
  have e : subT.val (envOf [a, b]) = .int .i64 (sat (a - b)) := by
    simp only [subT, Tree.val, BE.den, cmpI, SV.den, IE.den, arI, plI, mxI, Bool.cond_decide, IntKind.wrap_i64, List.getD_cons_zero, List.getD_cons_succ]
    unfold sat
    repeat' split
    all_goals (congr 1; omega)
  rw [e] at h
  exact h
def addT2 : Tree :=
(.node (.cmp .lss (.var 0) (.lit 0))
 (.node (.cmp .lss (.var 1) (.lit 0))
 (.node (.cmp .lss (.ar .add .u64 (.ar .sub .u64 (.lit 0) (.wr .u64 (.var 0))) (.ar .sub .u64 (.lit 0) (.wr .u64 (.var 1)))) (.ar .sub .u64 (.lit 0) (.wr .u64 (.var 0))))
 (.leaf (.int .i64 (.lit (-9223372036854775807))))
 (.node (.cmp .lss (.lit 9223372036854775807) (.ar .add .u64 (.ar .sub .u64 (.lit 0) (.wr .u64 (.var 0))) (.ar .sub .u64 (.lit 0) (.wr .u64 (.var 1)))))
 (.leaf (.int .i64 (.lit (-9223372036854775807))))
 (.leaf (.int .i64 (.pl .sub (.lit 0) (.ar .add .u64 (.ar .sub .u64 (.lit 0) (.wr .u64 (.var 0))) (.ar .sub .u64 (.lit 0) (.wr .u64 (.var 1)))))))))
 (.leaf (.int .i64 (.mx (.pl .add (.var 0) (.var 1)) (.lit (-9223372036854775807))))))
 (.node (.cmp .lss (.var 1) (.lit 0))
 (.leaf (.int .i64 (.mx (.pl .add (.var 0) (.var 1)) (.lit (-9223372036854775807)))))
 (.node (.cmp .lss (.pl .add (.var 0) (.var 1)) (.var 0))
 (.leaf (.int .i64 (.lit 9223372036854775807)))
 (.node (.cmp .lss (.lit 9223372036854775807) (.pl .add (.var 0) (.var 1)))
 (.leaf (.int .i64 (.lit 9223372036854775807)))
 (.leaf (.int .i64 (.pl .add (.var 0) (.var 1))))))))
def subT2 : Tree :=
(.node (.cmp .lss (.var 0) (.lit 0))
 (.node (.cmp .lss (.var 1) (.lit 0))
 (.leaf (.int .i64 (.mx (.pl .sub (.var 0) (.var 1)) (.lit (-9223372036854775807)))))
 (.node (.cmp .lss (.ar .add .u64 (.ar .sub .u64 (.lit 0) (.wr .u64 (.var 0))) (.var 1)) (.ar .sub .u64 (.lit 0) (.wr .u64 (.var 0))))
 (.leaf (.int .i64 (.lit (-9223372036854775807))))
 (.node (.cmp .lss (.lit 9223372036854775807) (.ar .add .u64 (.ar .sub .u64 (.lit 0) (.wr .u64 (.var 0))) (.var 1)))
 (.leaf (.int .i64 (.lit (-9223372036854775807))))
 (.leaf (.int .i64 (.pl .sub (.lit 0) (.ar .add .u64 (.ar .sub .u64 (.lit 0) (.wr .u64 (.var 0))) (.var 1))))))))
 (.node (.cmp .lss (.var 1) (.lit 0))
 (.node (.cmp .lss (.ar .add .u64 (.var 0) (.ar .sub .u64 (.lit 0) (.wr .u64 (.var 1)))) (.var 0))
 (.leaf (.int .i64 (.lit 9223372036854775807)))
 (.node (.cmp .lss (.lit 9223372036854775807) (.ar .add .u64 (.var 0) (.ar .sub .u64 (.lit 0) (.wr .u64 (.var 1)))))
 (.leaf (.int .i64 (.lit 9223372036854775807)))
 (.leaf (.int .i64 (.ar .add .u64 (.var 0) (.ar .sub .u64 (.lit 0) (.wr .u64 (.var 1))))))))
 (.leaf (.int .i64 (.mx (.pl .sub (.var 0) (.var 1)) (.lit (-9223372036854775807)))))))
theorem neg_u64 {a : Int} (h : a < 0) (h1 : -9223372036854775808 ≤ a) : arI .sub .u64 0 (IntKind.u64.wrap a) = -a := by
  show IntKind.u64.wrap (0 - IntKind.u64.wrap a) = -a
  rw [IntKind.wrap_u64, IntKind.wrap_u64]; omega
theorem add_u64 (x y : Int) : arI .add .u64 x y = (x + y) % 18446744073709551616 := IntKind.wrap_u64 _
theorem refadd_any (a b : Int) (a0 : -9223372036854775808 ≤ a) (a1 : a ≤ 9223372036854775807) (b0 : -9223372036854775808 ≤ b) (b1 : b ≤ 9223372036854775807) (w : World) :
    Calls Try.prog 61 #[.int .i64 a, .int .i64 b] w fun e w' => e = .returned (.int .i64 (sat (a + b))) ∧ Below w.heap.size w w' := by
  have h := tree_sound (P := Try.prog) mixed (ρ := envOf [a, b]) (n := 400) (f := 61) (args := [.int .i64 (.var 0), .int .i64 (.var 1)]) addT2 (X := { pc := [], rg := [i64R, i64R] })
    (knows_env rfl ⟨⟨a0, a1⟩, ⟨b0, b1⟩, trivial⟩ (fun f v h => by cases h)) (knowsC_none rfl rfl rfl) (Tree.ok_of_check (by kernel_rfl)) (Tree.whole_live (by kernel_rfl)) w
  have e : addT2.val (envOf [a, b]) = .int .i64 (sat (a + b)) := by
    simp only [addT2, Tree.val, BE.den, cmpI, SV.den, IE.den, plI, mxI, Bool.cond_decide, List.getD_cons_zero, List.getD_cons_succ]
    unfold sat
    have na : a < 0 → arI .sub .u64 0 (IntKind.u64.wrap a) = -a := fun h => neg_u64 h a0
    have nb : b < 0 → arI .sub .u64 0 (IntKind.u64.wrap b) = -b := fun h => neg_u64 h b0
    by_cases ha : a < 0 <;> by_cases hb : b < 0 <;> simp only [ha, hb, if_true, if_false, na, nb, add_u64]
    all_goals (repeat' split)
    all_goals (congr 1; omega)
  rw [e] at h
  exact h
theorem refsub_any (a b : Int) (a0 : -9223372036854775808 ≤ a) (a1 : a ≤ 9223372036854775807) (b0 : -9223372036854775808 ≤ b) (b1 : b ≤ 9223372036854775807) (w : World) :
    Calls Try.prog 59 #[.int .i64 a, .int .i64 b] w fun e w' => e = .returned (.int .i64 (sat (a - b))) ∧ Below w.heap.size w w' := by
  have h := tree_sound (P := Try.prog) mixed (ρ := envOf [a, b]) (n := 400) (f := 59) (args := [.int .i64 (.var 0), .int .i64 (.var 1)]) subT2 (X := { pc := [], rg := [i64R, i64R] })
    (knows_env rfl ⟨⟨a0, a1⟩, ⟨b0, b1⟩, trivial⟩ (fun f v h => by cases h)) (knowsC_none rfl rfl rfl) (Tree.ok_of_check (by kernel_rfl)) (Tree.whole_live (by kernel_rfl)) w
  have e : subT2.val (envOf [a, b]) = .int .i64 (sat (a - b)) := by
    simp only [subT2, Tree.val, BE.den, cmpI, SV.den, IE.den, plI, mxI, Bool.cond_decide, List.getD_cons_zero, List.getD_cons_succ]
    unfold sat
    have na : a < 0 → arI .sub .u64 0 (IntKind.u64.wrap a) = -a := fun h => neg_u64 h a0
    have nb : b < 0 → arI .sub .u64 0 (IntKind.u64.wrap b) = -b := fun h => neg_u64 h b0
    by_cases ha : a < 0 <;> by_cases hb : b < 0 <;> simp only [ha, hb, if_true, if_false, na, nb, add_u64]
    all_goals (repeat' split)
    all_goals (congr 1; omega)
  rw [e] at h
  exact h
theorem fMul_sat (a b : Int) : fMul a b = sat (a * b / 4294967296) := by
  have e1 : decide (a < 0) = true ∨ decide (a < 0) = false := by cases decide (a < 0) <;> simp
  have key : ∀ (x y : Int), 0 ≤ x * y → (if 2147483648 ≤ x * y / 18446744073709551616 then fCut 9223372036854775807 0 false else fCut (x * y / 4294967296) (x * y * 4294967296 % 18446744073709551616) false) = sat (x * y / 4294967296) := by
    intro x y h
    generalize x * y = z at h
    unfold fCut sat
    simp only [Bool.false_eq_true, if_false]
    split <;> omega
  have key2 : ∀ (x y : Int), 0 ≤ x * y → (if 2147483648 ≤ x * y / 18446744073709551616 then fCut 9223372036854775807 0 true else fCut (x * y / 4294967296) (x * y * 4294967296 % 18446744073709551616) true) = sat (-(x * y) / 4294967296) := by
    intro x y h
    generalize x * y = z at h
    unfold fCut sat
    simp only [if_true]
    repeat' split
    all_goals omega
  unfold fMul
  by_cases ha : a < 0 <;> by_cases hb : b < 0
  · rw [show fSize a = -a from if_pos ha, show fSize b = -b from if_pos hb, decide_eq_true ha, decide_eq_true hb]
    have h := key (-a) (-b) (Int.mul_nonneg (by omega) (by omega))
    rw [Int.neg_mul_neg] at h ⊢
    exact h
  · rw [show fSize a = -a from if_pos ha, show fSize b = b from if_neg hb, decide_eq_true ha, decide_eq_false hb]
    have h := key2 (-a) b (Int.mul_nonneg (by omega) (by omega))
    rw [show -(-a * b) = a * b by rw [Int.neg_mul, Int.neg_neg]] at h
    exact h
  · rw [show fSize a = a from if_neg ha, show fSize b = -b from if_pos hb, decide_eq_false ha, decide_eq_true hb]
    have h := key2 a (-b) (Int.mul_nonneg (by omega) (by omega))
    rw [show -(a * -b) = a * b by rw [Int.mul_neg, Int.neg_neg]] at h
    exact h
  · rw [show fSize a = a from if_neg ha, show fSize b = b from if_neg hb, decide_eq_false ha, decide_eq_false hb]
    exact key a b (Int.mul_nonneg (by omega) (by omega))
noncomputable abbrev addCon : Con := con2 65 1
theorem addCon_ok {ρ : Env} (ha : NumA ρ) : addCon.holds Try.prog ρ := con2_ok ha (by decide) fun a b h k w => add_any a b h.1 h.2 k.1 k.2 w
noncomputable abbrev shiftCon : Con := con2 66 3
theorem shiftCon_ok {ρ : Env} (ha : NumA ρ) : shiftCon.holds Try.prog ρ := con2_ok ha (by decide) fun a b h k w => shift_any a b h.1 h.2 k.1 k.2 w
noncomputable abbrev subCon : Con := con2 53 2
theorem subCon_ok {ρ : Env} (ha : NumA ρ) : subCon.holds Try.prog ρ := con2_ok ha (by decide) fun a b h k w => sub_any a b h.1 h.2 k.1 k.2 w
noncomputable abbrev mulCon : Con := con2 56 4
theorem mulCon_ok {ρ : Env} (ha : NumA ρ) : mulCon.holds Try.prog ρ := con2_ok ha (by decide) fun a b h k w => by
  have := fixmul_any a b h.1 h.2 k.1 k.2 w
  rw [fMul_sat] at this
  exact this
noncomputable abbrev addCon2 : Con := con2 61 1
theorem addCon2_ok {ρ : Env} (ha : NumA ρ) : addCon2.holds Try.prog ρ := con2_ok ha (by decide) fun a b h k w => refadd_any a b h.1 h.2 k.1 k.2 w
noncomputable abbrev subCon2 : Con := con2 59 2
theorem subCon2_ok {ρ : Env} (ha : NumA ρ) : subCon2.holds Try.prog ρ := con2_ok ha (by decide) fun a b h k w => refsub_any a b h.1 h.2 k.1 k.2 w
end Go.Proofs.Ytopgidgkpafeeaa
/- Words of 64 bits, as the evaluator has them: plain. -/
namespace Go.Proofs.Ytopgidgkpafeeaa
open Go Go.RowKit Ev
set_option linter.unusedVariables false

theorem shlW (x : Int) (k : Nat) (hk : k ≤ 64) : arI .shl .u64 x k = x * 2 ^ k % 18446744073709551616 := by
  show IntKind.u64.wrap (x * 2 ^ (min (k : Int).toNat 64)) = _
  rw [show min (k : Int).toNat 64 = k by omega, IntKind.wrap_u64]
theorem shl1 (x : Int) : arI .shl .u64 x 1 = x * 2 % 18446744073709551616 := shlW x 1 (by decide)
theorem shl2 (x : Int) : arI .shl .u64 x 2 = x * 4 % 18446744073709551616 := shlW x 2 (by decide)
theorem shl32 (x : Int) : arI .shl .u64 x 32 = x * 4294967296 % 18446744073709551616 := shlW x 32 (by decide)
theorem shrW (x : Int) (k : Nat) (hk : k ≤ 64) : arI .shr .u64 x k = x / 2 ^ k := by
  show x.fdiv (2 ^ (min (k : Int).toNat 64)) = _
  rw [show min (k : Int).toNat 64 = k by omega, Int.fdiv_eq_ediv_of_nonneg _ (Int.le_of_lt (Int.pow_pos (by decide)))]
theorem shr62 (x : Int) : arI .shr .u64 x 62 = x / 4611686018427387904 := shrW x 62 (by decide)
theorem shr32 (x : Int) : arI .shr .u64 x 32 = x / 4294967296 := shrW x 32 (by decide)
theorem shr31 (x : Int) : arI .shr .u64 x 31 = x / 2147483648 := shrW x 31 (by decide)
theorem subW (x y : Int) : arI .sub .u64 x y = (x - y) % 18446744073709551616 := IntKind.wrap_u64 _
theorem addW (x y : Int) : arI .add .u64 x y = (x + y) % 18446744073709551616 := IntKind.wrap_u64 _
theorem mulW (x y : Int) : arI .mul .u64 x y = (x * y) % 18446744073709551616 := IntKind.wrap_u64 _
theorem orW {x y : Int} (k : Nat) (hk : k ≤ 64) (hx : 0 ≤ x ∧ x < 18446744073709551616) (hd : x % 2 ^ k = 0) (hy : 0 ≤ y ∧ y < 2 ^ k) : arI .or .u64 x y = x + y := by
  have e64 : (2 : Nat) ^ 64 = 18446744073709551616 := by decide
  have hp : (2 : Int) ^ k ≤ 18446744073709551616 := by
    have := Nat.pow_le_pow_right (n := 2) (by decide) hk
    rw [e64] at this
    rw [show (2 : Int) ^ k = ((2 ^ k : Nat) : Int) from (Int.natCast_pow 2 k).symm]
    omega
  obtain ⟨a, rfl⟩ := Int.eq_ofNat_of_zero_le hx.1
  obtain ⟨b, rfl⟩ := Int.eq_ofNat_of_zero_le hy.1
  have hd' : a % 2 ^ k = 0 := by exact_mod_cast hd
  have hb' : b < 2 ^ k := by exact_mod_cast hy.2
  have hdm := Nat.div_add_mod a (2 ^ k)
  rw [hd', Nat.add_zero] at hdm
  have hor : a ||| b = a + b := by
    rw [← hdm]; exact (Nat.two_pow_add_eq_or_of_lt hb' _).symm
  have ha64 : a < 18446744073709551616 := by omega
  have hb64 : b < 18446744073709551616 := by omega
  have hlt : a + b < 18446744073709551616 := by
    rw [← hor]
    exact Nat.or_lt_two_pow (n := 64) ha64 hb64
  show IntKind.u64.wrap (((BitVec.ofInt 64 a ||| BitVec.ofInt 64 b).toNat : Nat) : Int) = _
  rw [BitVec.toNat_or, BitVec.toNat_ofInt, BitVec.toNat_ofInt, IntKind.wrap_u64]
  have ea : ((a : Int) % ((2 ^ 64 : Nat) : Int)).toNat = a := by rw [e64]; omega
  have eb : ((b : Int) % ((2 ^ 64 : Nat) : Int)).toNat = b := by rw [e64]; omega
  rw [ea, eb, hor]
  omega
theorem or1 {x y : Int} (hx : 0 ≤ x ∧ x < 18446744073709551616) (hd : x % 2 = 0) (hy : 0 ≤ y ∧ y < 2) : arI .or .u64 x y = x + y := orW 1 (by decide) hx hd hy
theorem or2 {x y : Int} (hx : 0 ≤ x ∧ x < 18446744073709551616) (hd : x % 4 = 0) (hy : 0 ≤ y ∧ y < 4) : arI .or .u64 x y = x + y := orW 2 (by decide) hx hd hy
theorem or32 {x y : Int} (hx : 0 ≤ x ∧ x < 18446744073709551616) (hd : x % 4294967296 = 0) (hy : 0 ≤ y ∧ y < 4294967296) : arI .or .u64 x y = x + y := orW 32 (by decide) hx hd hy
theorem and32 {x : Int} (hx : 0 ≤ x ∧ x < 18446744073709551616) : arI .and .u64 x 4294967295 = x % 4294967296 := by
  have e64 : (2 : Nat) ^ 64 = 18446744073709551616 := by decide
  obtain ⟨a, rfl⟩ := Int.eq_ofNat_of_zero_le hx.1
  have ha64 : a < 18446744073709551616 := by omega
  show IntKind.u64.wrap (((BitVec.ofInt 64 a &&& BitVec.ofInt 64 4294967295).toNat : Nat) : Int) = _
  have ea : ((a : Int) % ((2 ^ 64 : Nat) : Int)).toNat = a := by rw [e64]; omega
  have eb : (BitVec.ofInt 64 4294967295).toNat = 2 ^ 32 - 1 := by decide
  rw [BitVec.toNat_and, BitVec.toNat_ofInt, ea, eb, Nat.and_two_pow_sub_one_eq_mod, IntKind.wrap_u64]
  show ((a % 4294967296 : Nat) : Int) % 18446744073709551616 = (a : Int) % 4294967296
  omega
end Go.Proofs.Ytopgidgkpafeeaa
/- Contracts of wide: the root. -/
namespace Go.Proofs.Ytopgidgkpafeeaa
open Go Go.RowKit Ev
set_option linter.unusedVariables false
set_option linter.unusedSimpArgs false
set_option maxRecDepth 100000

abbrev U0 : SV := .raw (.tuple #[])
def sqL : LoopSum := ⟨[(.int .u64 (.var 0)), (.int .u64 (.var 1)), U0, U0, (.int .u64 (.lit 0)), (.int .u64 (.lit 0)), (.int .u64 (.lit 0)), (.int .u64 (.lit 0)), U0, U0, U0, (.int .i64 (.lit 0)), U0, U0, U0, U0, U0, U0, U0, U0, U0, U0, U0, U0, U0, U0, U0, U0, U0, U0, U0, U0, U0, U0, U0, U0, U0, U0, U0, U0, U0, U0, U0, U0, U0, U0, U0, U0, U0, U0, U0, U0, U0, U0, U0, U0], [],
  (.exit 0), [.any, .any, U0, U0, (.int .u64 (.lit 0)), (.int .u64 (.var 2)), .any, .any, .any, .any, .any, .any, .any, .any, .any, .any, .any, .any, .any, .any, .any, .any, .any, .any, .any, .any, .any, .any, .any, .any, .any, .any, .any, .any, .any, .any, .any, .any, .any, .any, .any, .any, .any, .any, .any, .any, .any, .any, .any, .any, .any, .any, .any, .any, .any, U0], []⟩
def sqH : St := ⟨Tm.ofL [(.int .u64 (.var 3)), (.int .u64 (.var 4)), U0, U0, (.int .u64 (.lit 0)), (.int .u64 (.var 7)), (.int .u64 (.var 8)), (.int .u64 (.var 5)), .any, .any, .any, (.int .i64 (.var 6)), .any, .any, .any, .any, .any, .any, .any, .any, .any, .any, .any, .any, .any, .any, .any, .any, .any, .any, .any, .any, .any, .any, .any, .any, .any, .any, .any, .any, .any, .any, .any, .any, .any, .any, .any, .any, .any, .any, .any, .any, .any, .any, .any, U0], []⟩
def sqE : List IE := [(.var 0), (.var 1), (.var 2), (.var 0), (.var 1), (.lit 0), (.lit 0), (.lit 0), (.lit 0)]
def sqB : List BE := []
def sqT : RT :=
(.node (.cmp .lss (.var 6) (.lit 64))
 (.node (.cmp .eql (.ar .or .u64 (.ar .shl .u64 (.var 8) (.lit 2)) (.ar .shr .u64 (.var 5) (.lit 62))) (.ar .shr .u64 (.var 7) (.lit 62)))
 (.node (.cmp .lss (.ar .or .u64 (.ar .shl .u64 (.var 5) (.lit 2)) (.ar .shr .u64 (.var 3) (.lit 62))) (.ar .or .u64 (.ar .shl .u64 (.var 7) (.lit 2)) (.lit 1)))
 (.go [(.var 0), (.var 1), (.var 2), (.ar .or .u64 (.ar .shl .u64 (.var 3) (.lit 2)) (.ar .shr .u64 (.var 4) (.lit 62))), (.ar .shl .u64 (.var 4) (.lit 2)), (.ar .or .u64 (.ar .shl .u64 (.var 5) (.lit 2)) (.ar .shr .u64 (.var 3) (.lit 62))), (.pl .add (.var 6) (.lit 1)), (.ar .shl .u64 (.var 7) (.lit 1)), (.ar .or .u64 (.ar .shl .u64 (.var 8) (.lit 2)) (.ar .shr .u64 (.var 5) (.lit 62)))] [])
 (.go [(.var 0), (.var 1), (.var 2), (.ar .or .u64 (.ar .shl .u64 (.var 3) (.lit 2)) (.ar .shr .u64 (.var 4) (.lit 62))), (.ar .shl .u64 (.var 4) (.lit 2)), (.ar .sub .u64 (.ar .or .u64 (.ar .shl .u64 (.var 5) (.lit 2)) (.ar .shr .u64 (.var 3) (.lit 62))) (.ar .or .u64 (.ar .shl .u64 (.var 7) (.lit 2)) (.lit 1))), (.pl .add (.var 6) (.lit 1)), (.ar .or .u64 (.ar .shl .u64 (.var 7) (.lit 1)) (.lit 1)), (.ar .sub .u64 (.ar .or .u64 (.ar .shl .u64 (.var 8) (.lit 2)) (.ar .shr .u64 (.var 5) (.lit 62))) (.ar .shr .u64 (.var 7) (.lit 62)))] []))
 (.node (.cmp .lss (.ar .or .u64 (.ar .shl .u64 (.var 8) (.lit 2)) (.ar .shr .u64 (.var 5) (.lit 62))) (.ar .shr .u64 (.var 7) (.lit 62)))
 (.go [(.var 0), (.var 1), (.var 2), (.ar .or .u64 (.ar .shl .u64 (.var 3) (.lit 2)) (.ar .shr .u64 (.var 4) (.lit 62))), (.ar .shl .u64 (.var 4) (.lit 2)), (.ar .or .u64 (.ar .shl .u64 (.var 5) (.lit 2)) (.ar .shr .u64 (.var 3) (.lit 62))), (.pl .add (.var 6) (.lit 1)), (.ar .shl .u64 (.var 7) (.lit 1)), (.ar .or .u64 (.ar .shl .u64 (.var 8) (.lit 2)) (.ar .shr .u64 (.var 5) (.lit 62)))] [])
 (.node (.cmp .lss (.ar .or .u64 (.ar .shl .u64 (.var 5) (.lit 2)) (.ar .shr .u64 (.var 3) (.lit 62))) (.ar .or .u64 (.ar .shl .u64 (.var 7) (.lit 2)) (.lit 1)))
 (.go [(.var 0), (.var 1), (.var 2), (.ar .or .u64 (.ar .shl .u64 (.var 3) (.lit 2)) (.ar .shr .u64 (.var 4) (.lit 62))), (.ar .shl .u64 (.var 4) (.lit 2)), (.ar .sub .u64 (.ar .or .u64 (.ar .shl .u64 (.var 5) (.lit 2)) (.ar .shr .u64 (.var 3) (.lit 62))) (.ar .or .u64 (.ar .shl .u64 (.var 7) (.lit 2)) (.lit 1))), (.pl .add (.var 6) (.lit 1)), (.ar .or .u64 (.ar .shl .u64 (.var 7) (.lit 1)) (.lit 1)), (.ar .sub .u64 (.ar .sub .u64 (.ar .or .u64 (.ar .shl .u64 (.var 8) (.lit 2)) (.ar .shr .u64 (.var 5) (.lit 62))) (.ar .shr .u64 (.var 7) (.lit 62))) (.lit 1))] [])
 (.go [(.var 0), (.var 1), (.var 2), (.ar .or .u64 (.ar .shl .u64 (.var 3) (.lit 2)) (.ar .shr .u64 (.var 4) (.lit 62))), (.ar .shl .u64 (.var 4) (.lit 2)), (.ar .sub .u64 (.ar .or .u64 (.ar .shl .u64 (.var 5) (.lit 2)) (.ar .shr .u64 (.var 3) (.lit 62))) (.ar .or .u64 (.ar .shl .u64 (.var 7) (.lit 2)) (.lit 1))), (.pl .add (.var 6) (.lit 1)), (.ar .or .u64 (.ar .shl .u64 (.var 7) (.lit 1)) (.lit 1)), (.ar .sub .u64 (.ar .or .u64 (.ar .shl .u64 (.var 8) (.lit 2)) (.ar .shr .u64 (.var 5) (.lit 62))) (.ar .shr .u64 (.var 7) (.lit 62)))] []))))
 (.stop [(.var 0), (.var 1), (.var 7)] []))

abbrev sqXr : Ctx := { pc := [], rg := [u64R, u64R, u64R, u64R, u64R, u64R, (0, 64), u64R, u64R] }
theorem sq_lpB : lpB Try.prog sqXr 600 102 [0, 1, 0, 1, 1, 1] 1 sqL sqH sqT sqE sqB = true := by kernel_rfl
/-- what holds at the head -/
def SqJ (hi lo rt : Int) (V m : Nat) (is : List Int) (bs : List Bool) : Prop :=
  ∃ k n L X : Nat, SqI V k n L X ∧ m = 64 - k ∧ bs = [] ∧ is = [hi, lo, rt, (X : Int) / 18446744073709551616, (X : Int) % 18446744073709551616, (L : Int) % 18446744073709551616, (k : Int), (n : Int), (L : Int) / 18446744073709551616]
theorem SqI.lt {V k n L X : Nat} (h : SqI V k n L X) : X < 340282366920938463463374607431768211456 ∧ n < 18446744073709551616 ∧ L ≤ 2 * n := by
  obtain ⟨hk, ⟨Y, hY, rfl, _⟩, hl, hn⟩ := h
  refine ⟨?_, ?_, hl⟩
  · have h1 : Y * 4 ^ k < 4 ^ (64 - k) * 4 ^ k := Nat.mul_lt_mul_of_pos_right hY (Nat.pow_pos (by decide))
    rw [← Nat.pow_add, show 64 - k + k = 64 by omega] at h1
    have e : (4 : Nat) ^ 64 = 340282366920938463463374607431768211456 := by decide
    omega
  · have h1 := Nat.pow_le_pow_right (n := 2) (by decide) hk
    have e : (2 : Nat) ^ 64 = 18446744073709551616 := by decide
    omega
theorem sq_next {hi lo rt : Int} {V k n L X : Nat} (h : SqI V k n L X) (hk : k < 64) {ρ : Env} :
    ∃ is', sqT.next (ρ.on [hi, lo, rt, (X : Int) / 18446744073709551616, (X : Int) % 18446744073709551616, (L : Int) % 18446744073709551616, (k : Int), (n : Int), (L : Int) / 18446744073709551616] []) = some (is', []) ∧ SqJ hi lo rt V (64 - (k + 1)) is' [] := by
  have hs := h.step hk
  obtain ⟨hX, hn, hl⟩ := h.lt
  have e63 : (4 : Nat) ^ 63 = 85070591730234615865843651857942052864 := by decide
  have e64 : (4 : Nat) ^ 64 = 340282366920938463463374607431768211456 := by decide
  rw [e63, e64] at hs
  have o1 : ∀ x y : Nat, arI .or .u64 ((x : Int) / 18446744073709551616 * 4 % 18446744073709551616) ((x : Int) % 18446744073709551616 / 4611686018427387904) = ((x : Int) / 18446744073709551616) * 4 % 18446744073709551616 + ((x : Int) % 18446744073709551616) / 4611686018427387904 := fun x y => by
    rw [or2 (by omega) (by omega) (by omega)]
  have o2 : arI .or .u64 ((L : Int) % 18446744073709551616 * 4 % 18446744073709551616) ((X : Int) / 18446744073709551616 / 4611686018427387904) = ((L : Int) % 18446744073709551616) * 4 % 18446744073709551616 + ((X : Int) / 18446744073709551616) / 4611686018427387904 := by
    rw [or2 (by omega) (by omega) (by omega)]
  have o3 : arI .or .u64 ((n : Int) * 4 % 18446744073709551616) 1 = (n : Int) * 4 % 18446744073709551616 + 1 := by
    rw [or1 (by omega) (by omega) (by omega)]
  have o4 : arI .or .u64 ((n : Int) * 2 % 18446744073709551616) 1 = (n : Int) * 2 % 18446744073709551616 + 1 := by
    rw [or1 (by omega) (by omega) (by omega)]
  have hk' : ((k : Int) < 64) := by omega
  simp only [sqT, RT.next, BE.den, cmpI, IE.den, Env.on, List.getD_cons_zero, List.getD_cons_succ, dens, bdens, List.map_cons, List.map_nil, plI, o1 X 0, o1 L 0, o2, o3, o4, shl1, shl2, shr62, subW, decide_eq_true hk', cond_true]
  have hn2 : n < 2 ^ 63 ∨ k = 63 := by
    have := h.n
    by_cases hk3 : k = 63
    · exact .inr hk3
    · have h1 := Nat.pow_le_pow_right (n := 2) (by decide) (show k ≤ 63 by omega)
      left; omega
  have hn3 : n < 9223372036854775808 := by
    have := h.n
    have h1 := Nat.pow_le_pow_right (n := 2) (by decide) (show k ≤ 63 by omega)
    have e : (2 : Nat) ^ 63 = 9223372036854775808 := by decide
    omega
  generalize hT : X / 85070591730234615865843651857942052864 = two at hs
  have ht : two < 4 := by omega
  clear hn2 h e63 e64 o1 o2 o3 o4
  by_cases c : 4 * L + two < 4 * n + 1
  · rw [if_pos c, if_pos c] at hs
    have key : ∀ a b d e f g : Int, a = (4 * X % 340282366920938463463374607431768211456 : Nat) / 18446744073709551616 → b = (4 * X % 340282366920938463463374607431768211456 : Nat) % 18446744073709551616 → d = ((4 * L + two : Nat) : Int) % 18446744073709551616 → e = ((k + 1 : Nat) : Int) → f = ((2 * n : Nat) : Int) → g = ((4 * L + two : Nat) : Int) / 18446744073709551616 → SqJ hi lo rt V (64 - (k + 1)) [hi, lo, rt, a, b, d, e, f, g] [] :=
      fun a b d e f g h1 h2 h3 h4 h5 h6 => ⟨_, _, _, _, hs, rfl, rfl, by rw [h1, h2, h3, h4, h5, h6]⟩
    by_cases c1 : (L : Int) / 18446744073709551616 * 4 % 18446744073709551616 + (L : Int) % 18446744073709551616 / 4611686018427387904 = (n : Int) / 4611686018427387904
    · rw [beq_iff_eq.2 c1, cond_true, decide_eq_true (by omega), cond_true]
      exact ⟨_, rfl, key _ _ _ _ _ _ (by omega) (by omega) (by omega) (by omega) (by omega) (by omega)⟩
    · rw [beq_eq_false_iff_ne.2 c1, cond_false, decide_eq_true (by omega), cond_true]
      exact ⟨_, rfl, key _ _ _ _ _ _ (by omega) (by omega) (by omega) (by omega) (by omega) (by omega)⟩
  · rw [if_neg c, if_neg c] at hs
    have key : ∀ a b d e f g : Int, a = (4 * X % 340282366920938463463374607431768211456 : Nat) / 18446744073709551616 → b = (4 * X % 340282366920938463463374607431768211456 : Nat) % 18446744073709551616 → d = ((4 * L + two - (4 * n + 1) : Nat) : Int) % 18446744073709551616 → e = ((k + 1 : Nat) : Int) → f = ((2 * n + 1 : Nat) : Int) → g = ((4 * L + two - (4 * n + 1) : Nat) : Int) / 18446744073709551616 → SqJ hi lo rt V (64 - (k + 1)) [hi, lo, rt, a, b, d, e, f, g] [] :=
      fun a b d e f g h1 h2 h3 h4 h5 h6 => ⟨_, _, _, _, hs, rfl, rfl, by rw [h1, h2, h3, h4, h5, h6]⟩
    by_cases c1 : (L : Int) / 18446744073709551616 * 4 % 18446744073709551616 + (L : Int) % 18446744073709551616 / 4611686018427387904 = (n : Int) / 4611686018427387904
    · rw [beq_iff_eq.2 c1, cond_true, decide_eq_false (by omega), cond_false]
      exact ⟨_, rfl, key _ _ _ _ _ _ (by omega) (by omega) (by omega) (by omega) (by omega) (by omega)⟩
    · rw [beq_eq_false_iff_ne.2 c1, cond_false, decide_eq_false (by omega), cond_false]
      by_cases c2 : (L : Int) % 18446744073709551616 * 4 % 18446744073709551616 + (X : Int) / 18446744073709551616 / 4611686018427387904 < (n : Int) * 4 % 18446744073709551616 + 1
      · rw [decide_eq_true c2, cond_true]
        exact ⟨_, rfl, key _ _ _ _ _ _ (by omega) (by omega) (by omega) (by omega) (by omega) (by omega)⟩
      · rw [decide_eq_false c2, cond_false]
        exact ⟨_, rfl, key _ _ _ _ _ _ (by omega) (by omega) (by omega) (by omega) (by omega) (by omega)⟩
abbrev sqXl : Ctx := { pc := [], rg := [u64R, u64R, u64R], lp := fun f p _ => if Nat.beq f 102 && decide (p = [0, 1, 0, 1, 1, 1]) then some sqL else none }
theorem wsqrt_any (hi lo : Int) (h : InU hi) (l : InU lo) (w : World) :
    Calls Try.prog 102 #[.int .u64 hi, .int .u64 lo] w fun e w' => e = .returned (.int .u64 (apN 7 hi lo 0)) ∧ Below w.heap.size w w' := by
  obtain ⟨V, hV⟩ : ∃ V : Nat, hi * 18446744073709551616 + lo = V := ⟨(hi * 18446744073709551616 + lo).toNat, by omega⟩
  have hV1 : V < 4 ^ 64 := by
    have e : (4 : Nat) ^ 64 = 340282366920938463463374607431768211456 := by decide
    rw [e]; omega
  have hr := isq_spec hV1
  have hlt : isq V < 18446744073709551616 := isq_lt hV1 (by have e : (4 : Nat) ^ 64 = 18446744073709551616 * 18446744073709551616 := by decide
                                                            rw [← e]; exact hV1)
  have hap : apN 7 hi lo 0 = (isq V : Nat) := by
    simp only [apN, hV, Int.toNat_natCast]
    generalize isq V = r at hlt
    omega
  rw [hap]
  refine tree_sound (P := Try.prog) mixed (ρ := envOf [hi, lo, (isq V : Nat)]) (n := 600) (f := 102) (args := [.int .u64 (.var 0), .int .u64 (.var 1)]) (.leaf (.int .u64 (.var 2))) (X := sqXl)
    (knows_env rfl ⟨h, l, ⟨Int.natCast_nonneg _, by show ((isq V : Nat) : Int) ≤ 18446744073709551615; omega⟩, trivial⟩ (fun f v h => by cases h)) ⟨fun c hc => (by cases hc), fun pc _ f vs v h => (by cases h), fun f p u L hL c hc hids => ?_⟩ ⟨(by change runFn _ _ _ _ _ = _; kernel_rfl), rfl⟩ rfl w
  simp only [sqXl] at hL
  split at hL
  · rename_i hfp
    simp only [Bool.and_eq_true, Nat.beq_eq, decide_eq_true_eq] at hfp
    obtain ⟨rfl, rfl⟩ := hfp
    cases hL
    refine rt_lp mixed sq_lpB hc (SqJ hi lo (isq V : Nat) V) ?_ ?_ ⟨64, 0, 0, 0, V, SqI.start hV1, rfl, rfl, ?_⟩ ?_
    · rintro m is bs ⟨k, n, L, X, hs, _, _, rfl⟩
      obtain ⟨a1, a2, a3⟩ := hs.lt
      have a4 := hs.le
      refine knows_env rfl ⟨h, l, ⟨Int.natCast_nonneg _, ?_⟩, ?_⟩ (fun f v h => by cases h)
      · show ((isq V : Nat) : Int) ≤ 18446744073709551615; omega
      · simp only [AllIn, Env.on, List.getD_cons_zero, List.getD_cons_succ]
        refine ⟨?_, ?_, ?_, ?_, ?_, ?_, trivial⟩ <;> constructor <;> omega
    · rintro m is bs _ E
      exact knowsC_none rfl rfl rfl
    · show [hi, lo, ((isq V : Nat) : Int), hi, lo, (0 : Int), 0, 0, 0] = _
      rw [show ((V : Nat) : Int) / 18446744073709551616 = hi by omega, show ((V : Nat) : Int) % 18446744073709551616 = lo by omega]
      rfl
    · rintro m is bs ⟨k, n, L, X, hs, rfl, rfl, rfl⟩
      by_cases hk : k < 64
      · obtain ⟨is', h1, h2⟩ := sq_next (hi := hi) (lo := lo) (rt := ((isq V : Nat) : Int)) hs hk (ρ := envOf [hi, lo, (isq V : Nat)])
        exact .inl ⟨is', [], _, h1, by omega, h2⟩
      · obtain rfl : k = 64 := by have := hs.le; omega
        refine .inr ⟨[hi, lo, (n : Int)], [], rfl, has_of (fun i x hx => ?_) rfl⟩
        have := isq_of hV1 hs.ends
        rcases i with _ | _ | _ | i <;> simp at hx <;> subst hx
        · rfl
        · rfl
        · show ((isq V : Nat) : Int) = n; rw [this]
  · cases hL
end Go.Proofs.Ytopgidgkpafeeaa
