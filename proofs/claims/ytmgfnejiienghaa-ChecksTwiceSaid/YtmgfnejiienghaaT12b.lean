/- Law 12: what is judged of a packet; ChecksForged, ChecksTwice. -/
import Derived.Test.YtmgfnejiienghaaT12
namespace Go.Proofs.Ytmgfnejiienghaa
open Go Go.RowKit Ev
set_option linter.unusedVariables false
set_option linter.unusedSimpArgs false
set_option maxRecDepth 100000

/-- what is judged: the error, and whether the question is answered -/
def jC (v m p d z o r k l s n t : Bool) : Int × Bool :=
  cond v (cond m (cond p (cond d (121, false) (cond z (122, false) (cond o (cond r (122, false)
    (cond k (cond l (123, true) (cond s (123, true) (cond n (cond t (124, true) (0, true)) (124, true)))) (125, true))) (122, false))))
    (cond z (122, false) (cond o (cond r (122, false) (122, false)) (122, false)))) (120, false)) (51, false)
theorem jC_no : ∀ v m p d z o r k l s n t : Bool, (jC v m p d z o r k l s n t).2 = false → (jC v m p d z o r k l s n t).1 = 51 ∨ (jC v m p d z o r k l s n t).1 = 120 ∨ (jC v m p d z o r k l s n t).1 = 121 ∨ (jC v m p d z o r k l s n t).1 = 122 := by decide +kernel
theorem jC_yes : ∀ v m p d z o r k l s n t : Bool, (jC v m p d z o r k l s n t).2 = true → z = false ∧ o = true ∧ v = true ∧ m = true ∧ p = true := by decide +kernel
theorem jC_in : ∀ v m p d z o r k l s n t : Bool, -9223372036854775808 ≤ (jC v m p d z o r k l s n t).1 ∧ (jC v m p d z o r k l s n t).1 ≤ 9223372036854775807 := by decide +kernel
theorem jC_none (v m p d o r k l s n t : Bool) : (jC v m p d true o r k l s n t).2 = false := by
  cases h : (jC v m p d true o r k l s n t).2 with
  | false => rfl
  | true => exact absurd (jC_yes _ _ _ _ _ _ _ _ _ _ _ _ h).1 (by decide)
theorem jC_not {v m p d z o r k l s n t : Bool} (h : (jC v m p d z o r k l s n t).2 = false) : (jC v m p d z o r k l s n t).1 ≠ 0 := by
  rcases jC_no _ _ _ _ _ _ _ _ _ _ _ _ h with e | e | e | e <;> rw [e] <;> decide

noncomputable def jX (a0 a1 a2 a3 a4 a5 a6 a7 a8 a9 a10 a11 a12 a13 a14 a15 a16 a17 a18 a19 a20 a21 a22 a23 a24 a25 a26 a27 : Int) : Int × Bool := jC (a16 == a12) (a17 == 4) (decide (0 < a27)) (a27 == a14) (a13 == 0) (a13 == a25) (a26 == 0) (kissN a18 a23 == 0) (a15 == 3) (decide (15 < a18)) (decide (apN 1 (arI .shr .i64 (arI .shl .i64 a21 16) 1) (arI .shl .i64 a22 16) 0 < a5)) (decide (0 < mxI (IntKind.i64.wrap (arI .sub .u64 a24 a27)) (-9223372036854775807)))
def judgeT : Tree :=
(.node (.cmp .eql (.var 16) (.var 12))
 (.node (.cmp .eql (.var 17) (.lit 4))
 (.node (.cmp .lss (.lit 0) (.var 27))
 (.node (.cmp .eql (.var 27) (.var 14))
 (.leaf (.tuple [(.int .i64 (.lit 121)), (.bool (.lit false))]))
 (.node (.cmp .eql (.var 13) (.lit 0))
 (.leaf (.tuple [(.int .i64 (.lit 122)), (.bool (.lit false))]))
 (.node (.cmp .eql (.var 13) (.var 25))
 (.node (.cmp .eql (.var 26) (.lit 0))
 (.leaf (.tuple [(.int .i64 (.lit 122)), (.bool (.lit false))]))
 (.node (.cmp .eql (.var 28) (.lit 0))
 (.node (.cmp .eql (.var 15) (.lit 3))
 (.leaf (.tuple [(.int .i64 (.lit 123)), (.bool (.lit true))]))
 (.node (.cmp .lss (.lit 15) (.var 18))
 (.leaf (.tuple [(.int .i64 (.lit 123)), (.bool (.lit true))]))
 (.node (.cmp .lss (.ap 1 (.ar .shr .i64 (.ar .shl .i64 (.var 21) (.lit 16)) (.lit 1)) (.ar .shl .i64 (.var 22) (.lit 16)) (.lit 0)) (.var 5))
 (.node (.cmp .lss (.lit 0) (.mx (.wr .i64 (.ar .sub .u64 (.var 24) (.var 27))) (.lit (-9223372036854775807))))
 (.leaf (.tuple [(.int .i64 (.lit 124)), (.bool (.lit true))]))
 (.leaf (.tuple [(.int .i64 (.lit 0)), (.bool (.lit true))])))
 (.leaf (.tuple [(.int .i64 (.lit 124)), (.bool (.lit true))])))))
 (.leaf (.tuple [(.int .i64 (.lit 125)), (.bool (.lit true))]))))
 (.leaf (.tuple [(.int .i64 (.lit 122)), (.bool (.lit false))])))))
 (.node (.cmp .eql (.var 13) (.lit 0))
 (.leaf (.tuple [(.int .i64 (.lit 122)), (.bool (.lit false))]))
 (.node (.cmp .eql (.var 13) (.var 25))
 (.node (.cmp .eql (.var 26) (.lit 0))
 (.leaf (.tuple [(.int .i64 (.lit 122)), (.bool (.lit false))]))
 (.leaf (.tuple [(.int .i64 (.lit 122)), (.bool (.lit false))])))
 (.leaf (.tuple [(.int .i64 (.lit 122)), (.bool (.lit false))])))))
 (.leaf (.tuple [(.int .i64 (.lit 120)), (.bool (.lit false))])))
 (.leaf (.tuple [(.int .i64 (.lit 51)), (.bool (.lit false))])))
abbrev rJ : List (Int × Int) := [i64J, i64J, i64J, i64J, i64J, i64J, i64J, i64J, i64J, i64J, i64J, i64J, i64J, u64J, u64J, i64J, i64J, i64J, i64J, i64J, i64J, u32J, u32J, u32J, u64J, u64J, u64J, u64J]
theorem judgeT_ok : judgeT.check Try.prog { pc := [], cr := [(118, [.int .i64 (.var 18), .int .u32 (.var 23)], .int .i64 (.var 28))] ++ crS, rg := [i64J, i64J, i64J, i64J, i64J, i64J, i64J, i64J, i64J, i64J, i64J, i64J, i64J, u64J, u64J, i64J, i64J, i64J, i64J, i64J, i64J, u32J, u32J, u32J, u64J, u64J, u64J, u64J, (0, 4)], ar := arN, ct := conCt [i64J, i64J, i64J, i64J, i64J, i64J, i64J, i64J, i64J, i64J, i64J, i64J, i64J, u64J, u64J, i64J, i64J, i64J, i64J, i64J, i64J, u32J, u32J, u32J, u64J, u64J, u64J, u64J, (0, 4)] arN consN } 600 48 [.agg [.int .i64 (.var 0), .int .i64 (.var 1), .int .i64 (.var 2), .int .i64 (.var 3), .int .i64 (.var 4), .int .i64 (.var 5), .int .i64 (.var 6), .int .i64 (.var 7), .int .i64 (.var 8), .int .i64 (.var 9), .int .i64 (.var 10), .int .i64 (.var 11)], .agg [.int .i64 (.var 12), .int .u64 (.var 13), .int .u64 (.var 14)], .agg [.int .i64 (.var 15), .int .i64 (.var 16), .int .i64 (.var 17), .int .i64 (.var 18), .int .i64 (.var 19), .int .i64 (.var 20), .int .u32 (.var 21), .int .u32 (.var 22), .int .u32 (.var 23), .int .u64 (.var 24), .int .u64 (.var 25), .int .u64 (.var 26), .int .u64 (.var 27)]] = true := by kernel_rfl
theorem judgeT_val (a0 a1 a2 a3 a4 a5 a6 a7 a8 a9 a10 a11 a12 a13 a14 a15 a16 a17 a18 a19 a20 a21 a22 a23 a24 a25 a26 a27 : Int) : judgeT.val (envOf [a0, a1, a2, a3, a4, a5, a6, a7, a8, a9, a10, a11, a12, a13, a14, a15, a16, a17, a18, a19, a20, a21, a22, a23, a24, a25, a26, a27, kissN a18 a23] (ap := apN)) = .tuple #[.int .i64 (jX a0 a1 a2 a3 a4 a5 a6 a7 a8 a9 a10 a11 a12 a13 a14 a15 a16 a17 a18 a19 a20 a21 a22 a23 a24 a25 a26 a27).1, .bool (jX a0 a1 a2 a3 a4 a5 a6 a7 a8 a9 a10 a11 a12 a13 a14 a15 a16 a17 a18 a19 a20 a21 a22 a23 a24 a25 a26 a27).2] := by
  show _ = (fun p : Int × Bool => Value.tuple #[.int .i64 p.1, .bool p.2]) (jX a0 a1 a2 a3 a4 a5 a6 a7 a8 a9 a10 a11 a12 a13 a14 a15 a16 a17 a18 a19 a20 a21 a22 a23 a24 a25 a26 a27)
  unfold jX jC
  simp only [Bool.apply_cond (f := fun p : Int × Bool => Value.tuple #[.int .i64 p.1, .bool p.2])]
  rfl
theorem judge_any (a0 a1 a2 a3 a4 a5 a6 a7 a8 a9 a10 a11 a12 a13 a14 a15 a16 a17 a18 a19 a20 a21 a22 a23 a24 a25 a26 a27 : Int) (b0 : -9223372036854775808 ≤ a0 ∧ a0 ≤ 9223372036854775807) (b1 : -9223372036854775808 ≤ a1 ∧ a1 ≤ 9223372036854775807) (b2 : -9223372036854775808 ≤ a2 ∧ a2 ≤ 9223372036854775807) (b3 : -9223372036854775808 ≤ a3 ∧ a3 ≤ 9223372036854775807) (b4 : -9223372036854775808 ≤ a4 ∧ a4 ≤ 9223372036854775807) (b5 : -9223372036854775808 ≤ a5 ∧ a5 ≤ 9223372036854775807) (b6 : -9223372036854775808 ≤ a6 ∧ a6 ≤ 9223372036854775807) (b7 : -9223372036854775808 ≤ a7 ∧ a7 ≤ 9223372036854775807) (b8 : -9223372036854775808 ≤ a8 ∧ a8 ≤ 9223372036854775807) (b9 : -9223372036854775808 ≤ a9 ∧ a9 ≤ 9223372036854775807) (b10 : -9223372036854775808 ≤ a10 ∧ a10 ≤ 9223372036854775807) (b11 : -9223372036854775808 ≤ a11 ∧ a11 ≤ 9223372036854775807) (b12 : -9223372036854775808 ≤ a12 ∧ a12 ≤ 9223372036854775807) (b13 : 0 ≤ a13 ∧ a13 ≤ 18446744073709551615) (b14 : 0 ≤ a14 ∧ a14 ≤ 18446744073709551615) (b15 : -9223372036854775808 ≤ a15 ∧ a15 ≤ 9223372036854775807) (b16 : -9223372036854775808 ≤ a16 ∧ a16 ≤ 9223372036854775807) (b17 : -9223372036854775808 ≤ a17 ∧ a17 ≤ 9223372036854775807) (b18 : -9223372036854775808 ≤ a18 ∧ a18 ≤ 9223372036854775807) (b19 : -9223372036854775808 ≤ a19 ∧ a19 ≤ 9223372036854775807) (b20 : -9223372036854775808 ≤ a20 ∧ a20 ≤ 9223372036854775807) (b21 : 0 ≤ a21 ∧ a21 ≤ 4294967295) (b22 : 0 ≤ a22 ∧ a22 ≤ 4294967295) (b23 : 0 ≤ a23 ∧ a23 ≤ 4294967295) (b24 : 0 ≤ a24 ∧ a24 ≤ 18446744073709551615) (b25 : 0 ≤ a25 ∧ a25 ≤ 18446744073709551615) (b26 : 0 ≤ a26 ∧ a26 ≤ 18446744073709551615) (b27 : 0 ≤ a27 ∧ a27 ≤ 18446744073709551615) (w : World) :
    Calls Try.prog 48 #[.agg #[.int .i64 a0, .int .i64 a1, .int .i64 a2, .int .i64 a3, .int .i64 a4, .int .i64 a5, .int .i64 a6, .int .i64 a7, .int .i64 a8, .int .i64 a9, .int .i64 a10, .int .i64 a11], .agg #[.int .i64 a12, .int .u64 a13, .int .u64 a14], .agg #[.int .i64 a15, .int .i64 a16, .int .i64 a17, .int .i64 a18, .int .i64 a19, .int .i64 a20, .int .u32 a21, .int .u32 a22, .int .u32 a23, .int .u64 a24, .int .u64 a25, .int .u64 a26, .int .u64 a27]] w fun e w' => e = .returned (.tuple #[.int .i64 (jX a0 a1 a2 a3 a4 a5 a6 a7 a8 a9 a10 a11 a12 a13 a14 a15 a16 a17 a18 a19 a20 a21 a22 a23 a24 a25 a26 a27).1, .bool (jX a0 a1 a2 a3 a4 a5 a6 a7 a8 a9 a10 a11 a12 a13 a14 a15 a16 a17 a18 a19 a20 a21 a22 a23 a24 a25 a26 a27).2]) ∧ Below w.heap.size w w' :=
  law_any (bs := []) (fs := []) (is := [a0, a1, a2, a3, a4, a5, a6, a7, a8, a9, a10, a11, a12, a13, a14, a15, a16, a17, a18, a19, a20, a21, a22, a23, a24, a25, a26, a27, kissN a18 a23]) (rg := [i64J, i64J, i64J, i64J, i64J, i64J, i64J, i64J, i64J, i64J, i64J, i64J, i64J, u64J, u64J, i64J, i64J, i64J, i64J, i64J, i64J, u32J, u32J, u32J, u64J, u64J, u64J, u64J, (0, 4)]) (args := [.agg [.int .i64 (.var 0), .int .i64 (.var 1), .int .i64 (.var 2), .int .i64 (.var 3), .int .i64 (.var 4), .int .i64 (.var 5), .int .i64 (.var 6), .int .i64 (.var 7), .int .i64 (.var 8), .int .i64 (.var 9), .int .i64 (.var 10), .int .i64 (.var 11)], .agg [.int .i64 (.var 12), .int .u64 (.var 13), .int .u64 (.var 14)], .agg [.int .i64 (.var 15), .int .i64 (.var 16), .int .i64 (.var 17), .int .i64 (.var 18), .int .i64 (.var 19), .int .i64 (.var 20), .int .u32 (.var 21), .int .u32 (.var 22), .int .u32 (.var 23), .int .u64 (.var 24), .int .u64 (.var 25), .int .u64 (.var 26), .int .u64 (.var 27)]])
    ⟨b0, b1, b2, b3, b4, b5, b6, b7, b8, b9, b10, b11, b12, b13, b14, b15, b16, b17, b18, b19, b20, b21, b22, b23, b24, b25, b26, b27, kissN_in a18 a23, trivial⟩ (cr := [(118, [.int .i64 (.var 18), .int .u32 (.var 23)], .int .i64 (.var 28))])
    (List.forall_mem_cons.2 ⟨knownKiss (n := 28) b18 b23 rfl, List.forall_mem_nil _⟩) judgeT judgeT_ok (Tree.whole_live (by kernel_rfl)) (judgeT_val a0 a1 a2 a3 a4 a5 a6 a7 a8 a9 a10 a11 a12 a13 a14 a15 a16 a17 a18 a19 a20 a21 a22 a23 a24 a25 a26 a27) w

theorem knownJ {ρ : Env} {e0 e1 e2 e3 e4 e5 e6 e7 e8 e9 e10 e11 e12 e13 e14 e15 e16 e17 e18 e19 e20 e21 e22 e23 e24 e25 e26 e27 : IE} {x y : Nat} (b0 : -9223372036854775808 ≤ e0.den ρ ∧ e0.den ρ ≤ 9223372036854775807) (b1 : -9223372036854775808 ≤ e1.den ρ ∧ e1.den ρ ≤ 9223372036854775807) (b2 : -9223372036854775808 ≤ e2.den ρ ∧ e2.den ρ ≤ 9223372036854775807) (b3 : -9223372036854775808 ≤ e3.den ρ ∧ e3.den ρ ≤ 9223372036854775807) (b4 : -9223372036854775808 ≤ e4.den ρ ∧ e4.den ρ ≤ 9223372036854775807) (b5 : -9223372036854775808 ≤ e5.den ρ ∧ e5.den ρ ≤ 9223372036854775807) (b6 : -9223372036854775808 ≤ e6.den ρ ∧ e6.den ρ ≤ 9223372036854775807) (b7 : -9223372036854775808 ≤ e7.den ρ ∧ e7.den ρ ≤ 9223372036854775807) (b8 : -9223372036854775808 ≤ e8.den ρ ∧ e8.den ρ ≤ 9223372036854775807) (b9 : -9223372036854775808 ≤ e9.den ρ ∧ e9.den ρ ≤ 9223372036854775807) (b10 : -9223372036854775808 ≤ e10.den ρ ∧ e10.den ρ ≤ 9223372036854775807) (b11 : -9223372036854775808 ≤ e11.den ρ ∧ e11.den ρ ≤ 9223372036854775807) (b12 : -9223372036854775808 ≤ e12.den ρ ∧ e12.den ρ ≤ 9223372036854775807) (b13 : 0 ≤ e13.den ρ ∧ e13.den ρ ≤ 18446744073709551615) (b14 : 0 ≤ e14.den ρ ∧ e14.den ρ ≤ 18446744073709551615) (b15 : -9223372036854775808 ≤ e15.den ρ ∧ e15.den ρ ≤ 9223372036854775807) (b16 : -9223372036854775808 ≤ e16.den ρ ∧ e16.den ρ ≤ 9223372036854775807) (b17 : -9223372036854775808 ≤ e17.den ρ ∧ e17.den ρ ≤ 9223372036854775807) (b18 : -9223372036854775808 ≤ e18.den ρ ∧ e18.den ρ ≤ 9223372036854775807) (b19 : -9223372036854775808 ≤ e19.den ρ ∧ e19.den ρ ≤ 9223372036854775807) (b20 : -9223372036854775808 ≤ e20.den ρ ∧ e20.den ρ ≤ 9223372036854775807) (b21 : 0 ≤ e21.den ρ ∧ e21.den ρ ≤ 4294967295) (b22 : 0 ≤ e22.den ρ ∧ e22.den ρ ≤ 4294967295) (b23 : 0 ≤ e23.den ρ ∧ e23.den ρ ≤ 4294967295) (b24 : 0 ≤ e24.den ρ ∧ e24.den ρ ≤ 18446744073709551615) (b25 : 0 ≤ e25.den ρ ∧ e25.den ρ ≤ 18446744073709551615) (b26 : 0 ≤ e26.den ρ ∧ e26.den ρ ≤ 18446744073709551615) (b27 : 0 ≤ e27.den ρ ∧ e27.den ρ ≤ 18446744073709551615) (hx : ρ.i x = (jX (e0.den ρ) (e1.den ρ) (e2.den ρ) (e3.den ρ) (e4.den ρ) (e5.den ρ) (e6.den ρ) (e7.den ρ) (e8.den ρ) (e9.den ρ) (e10.den ρ) (e11.den ρ) (e12.den ρ) (e13.den ρ) (e14.den ρ) (e15.den ρ) (e16.den ρ) (e17.den ρ) (e18.den ρ) (e19.den ρ) (e20.den ρ) (e21.den ρ) (e22.den ρ) (e23.den ρ) (e24.den ρ) (e25.den ρ) (e26.den ρ) (e27.den ρ)).1) (hy : ρ.b y = (jX (e0.den ρ) (e1.den ρ) (e2.den ρ) (e3.den ρ) (e4.den ρ) (e5.den ρ) (e6.den ρ) (e7.den ρ) (e8.den ρ) (e9.den ρ) (e10.den ρ) (e11.den ρ) (e12.den ρ) (e13.den ρ) (e14.den ρ) (e15.den ρ) (e16.den ρ) (e17.den ρ) (e18.den ρ) (e19.den ρ) (e20.den ρ) (e21.den ρ) (e22.den ρ) (e23.den ρ) (e24.den ρ) (e25.den ρ) (e26.den ρ) (e27.den ρ)).2) :
    Known Try.prog ρ (48, [.agg [.int .i64 e0, .int .i64 e1, .int .i64 e2, .int .i64 e3, .int .i64 e4, .int .i64 e5, .int .i64 e6, .int .i64 e7, .int .i64 e8, .int .i64 e9, .int .i64 e10, .int .i64 e11], .agg [.int .i64 e12, .int .u64 e13, .int .u64 e14], .agg [.int .i64 e15, .int .i64 e16, .int .i64 e17, .int .i64 e18, .int .i64 e19, .int .i64 e20, .int .u32 e21, .int .u32 e22, .int .u32 e23, .int .u64 e24, .int .u64 e25, .int .u64 e26, .int .u64 e27]], .tuple [.int .i64 (.var x), .bool (.var y)]) := fun φ w _ => by
  have h := judge_any (e0.den ρ) (e1.den ρ) (e2.den ρ) (e3.den ρ) (e4.den ρ) (e5.den ρ) (e6.den ρ) (e7.den ρ) (e8.den ρ) (e9.den ρ) (e10.den ρ) (e11.den ρ) (e12.den ρ) (e13.den ρ) (e14.den ρ) (e15.den ρ) (e16.den ρ) (e17.den ρ) (e18.den ρ) (e19.den ρ) (e20.den ρ) (e21.den ρ) (e22.den ρ) (e23.den ρ) (e24.den ρ) (e25.den ρ) (e26.den ρ) (e27.den ρ) b0 b1 b2 b3 b4 b5 b6 b7 b8 b9 b10 b11 b12 b13 b14 b15 b16 b17 b18 b19 b20 b21 b22 b23 b24 b25 b26 b27 w
  show Calls _ _ _ w fun e w' => e = .returned (.tuple #[.int .i64 (ρ.i x), .bool (ρ.b y)]) ∧ _
  rw [hx, hy]
  exact h

abbrev pJ : SV := .agg [.int .i64 (.var 0), .int .i64 (.var 1), .int .i64 (.var 2), .int .i64 (.var 3), .int .i64 (.var 4), .int .i64 (.var 5), .int .i64 (.var 6), .int .i64 (.var 7), .int .i64 (.var 8), .int .i64 (.var 9), .int .i64 (.var 10), .int .i64 (.var 11)]
abbrev aJ : SV := .agg [.int .i64 (.var 12), .int .u64 (.var 13), .int .u64 (.var 14)]
abbrev hJ : SV := .agg [.int .i64 (.var 15), .int .i64 (.var 16), .int .i64 (.var 17), .int .i64 (.var 18), .int .i64 (.var 19), .int .i64 (.var 20), .int .u32 (.var 21), .int .u32 (.var 22), .int .u32 (.var 23), .int .u64 (.var 24), .int .u64 (.var 25), .int .u64 (.var 26), .int .u64 (.var 27)]
abbrev bJ : SV := .agg [.int .i64 (.var 12), .int .u64 (.lit 0), .int .u64 (.var 27)]
abbrev kJ (o : IE) : SV := .agg [.int .i64 (.var 28), .int .i64 (.var 29), .int .i64 (.var 30), .int .i64 (.var 31), .int .i64 (.var 32), .int .i64 (.var 33), .int .u32 (.var 34), .int .u32 (.var 35), .int .u32 (.var 36), .int .u64 (.var 37), .int .u64 o, .int .u64 (.var 39), .int .u64 (.var 40)]
def forgT : Tree :=
(.node (.var 0)
 (.node (.cmp .eql (.var 13) (.lit 0))
 (.node (.cmp .eql (.var 27) (.var 14))
 (.node (.cmp .eql (.var 28) (.lit 51))
 (.leaf (.bool (.lit true)))
 (.node (.cmp .eql (.var 28) (.lit 120))
 (.leaf (.bool (.lit true)))
 (.node (.cmp .eql (.var 28) (.lit 121))
 (.leaf (.bool (.lit true)))
 (.leaf (.bool (.cmp .eql (.var 28) (.lit 122)))))))
 (.leaf (.bool (.lit false))))
 (.node (.cmp .eql (.var 25) (.var 13))
 (.node (.cmp .eql (.var 28) (.lit 0))
 (.leaf (.bool (.cmp .eql (.var 27) (.var 27))))
 (.leaf (.bool (.lit true))))
 (.node (.cmp .eql (.lit 0) (.var 13))
 (.node (.cmp .eql (.var 27) (.var 14))
 (.node (.cmp .eql (.var 28) (.lit 51))
 (.leaf (.bool (.lit true)))
 (.node (.cmp .eql (.var 28) (.lit 120))
 (.leaf (.bool (.lit true)))
 (.node (.cmp .eql (.var 28) (.lit 121))
 (.leaf (.bool (.lit true)))
 (.leaf (.bool (.cmp .eql (.var 28) (.lit 122)))))))
 (.leaf (.bool (.lit false))))
 (.leaf (.bool (.lit false))))))
 (.node (.cmp .eql (.var 13) (.lit 0))
 (.node (.cmp .eql (.var 28) (.lit 51))
 (.leaf (.bool (.lit true)))
 (.node (.cmp .eql (.var 28) (.lit 120))
 (.leaf (.bool (.lit true)))
 (.node (.cmp .eql (.var 28) (.lit 121))
 (.leaf (.bool (.lit true)))
 (.leaf (.bool (.cmp .eql (.var 28) (.lit 122)))))))
 (.node (.cmp .eql (.var 25) (.var 13))
 (.node (.cmp .eql (.var 28) (.lit 0))
 (.leaf (.bool (.lit false)))
 (.leaf (.bool (.lit true))))
 (.node (.cmp .eql (.var 28) (.lit 51))
 (.leaf (.bool (.lit true)))
 (.node (.cmp .eql (.var 28) (.lit 120))
 (.leaf (.bool (.lit true)))
 (.node (.cmp .eql (.var 28) (.lit 121))
 (.leaf (.bool (.lit true)))
 (.leaf (.bool (.cmp .eql (.var 28) (.lit 122))))))))))
abbrev forgC : List (FuncId × List SV × SV) := [(28, [], .bool (.lit true)), (48, [pJ, aJ, hJ], .tuple [.int .i64 (.var 28), .bool (.var 0)])]
theorem forgT_ok : forgT.check Try.prog { pc := [], cr := forgC ++ crS, rg := [i64J, i64J, i64J, i64J, i64J, i64J, i64J, i64J, i64J, i64J, i64J, i64J, i64J, u64J, u64J, i64J, i64J, i64J, i64J, i64J, i64J, u32J, u32J, u32J, u64J, u64J, u64J, u64J, i64J], ar := arN, ct := conCt [i64J, i64J, i64J, i64J, i64J, i64J, i64J, i64J, i64J, i64J, i64J, i64J, i64J, u64J, u64J, i64J, i64J, i64J, i64J, i64J, i64J, u32J, u32J, u32J, u64J, u64J, u64J, u64J, i64J] arN consN } 600 6 [pJ, aJ, hJ] = true := by kernel_rfl
theorem forgT_val {ρ : Env} (h0 : ρ.b 0 = false → ρ.i 28 = 51 ∨ ρ.i 28 = 120 ∨ ρ.i 28 = 121 ∨ ρ.i 28 = 122) (h1 : ρ.b 0 = true → ρ.i 13 ≠ 0 ∧ ρ.i 13 = ρ.i 25) : forgT.val ρ = .bool true := by
  simp only [forgT, Tree.val, BE.den, cmpI, IE.den, SV.den]
  cases hb : ρ.b 0 with
  | true =>
    obtain ⟨h2, h3⟩ := h1 hb
    have e1 : (ρ.i 13 == 0) = false := by simpa using h2
    have e2 : (ρ.i 25 == ρ.i 13) = true := by simp [h3]
    simp only [e1, e2, cond_true, cond_false, beq_self_eq_true]
    cases (ρ.i 28 == 0) <;> rfl
  | false =>
    rcases h0 hb with e | e | e | e <;> simp [e] <;> (repeat' split) <;> rfl

theorem jX_in (a0 a1 a2 a3 a4 a5 a6 a7 a8 a9 a10 a11 a12 a13 a14 a15 a16 a17 a18 a19 a20 a21 a22 a23 a24 a25 a26 a27 : Int) : -9223372036854775808 ≤ (jX a0 a1 a2 a3 a4 a5 a6 a7 a8 a9 a10 a11 a12 a13 a14 a15 a16 a17 a18 a19 a20 a21 a22 a23 a24 a25 a26 a27).1 ∧ (jX a0 a1 a2 a3 a4 a5 a6 a7 a8 a9 a10 a11 a12 a13 a14 a15 a16 a17 a18 a19 a20 a21 a22 a23 a24 a25 a26 a27).1 ≤ 9223372036854775807 := jC_in ..
theorem checksForged_walk (a0 a1 a2 a3 a4 a5 a6 a7 a8 a9 a10 a11 a12 a13 a14 a15 a16 a17 a18 a19 a20 a21 a22 a23 a24 a25 a26 a27 : Int) (b0 : -9223372036854775808 ≤ a0 ∧ a0 ≤ 9223372036854775807) (b1 : -9223372036854775808 ≤ a1 ∧ a1 ≤ 9223372036854775807) (b2 : -9223372036854775808 ≤ a2 ∧ a2 ≤ 9223372036854775807) (b3 : -9223372036854775808 ≤ a3 ∧ a3 ≤ 9223372036854775807) (b4 : -9223372036854775808 ≤ a4 ∧ a4 ≤ 9223372036854775807) (b5 : -9223372036854775808 ≤ a5 ∧ a5 ≤ 9223372036854775807) (b6 : -9223372036854775808 ≤ a6 ∧ a6 ≤ 9223372036854775807) (b7 : -9223372036854775808 ≤ a7 ∧ a7 ≤ 9223372036854775807) (b8 : -9223372036854775808 ≤ a8 ∧ a8 ≤ 9223372036854775807) (b9 : -9223372036854775808 ≤ a9 ∧ a9 ≤ 9223372036854775807) (b10 : -9223372036854775808 ≤ a10 ∧ a10 ≤ 9223372036854775807) (b11 : -9223372036854775808 ≤ a11 ∧ a11 ≤ 9223372036854775807) (b12 : -9223372036854775808 ≤ a12 ∧ a12 ≤ 9223372036854775807) (b13 : 0 ≤ a13 ∧ a13 ≤ 18446744073709551615) (b14 : 0 ≤ a14 ∧ a14 ≤ 18446744073709551615) (b15 : -9223372036854775808 ≤ a15 ∧ a15 ≤ 9223372036854775807) (b16 : -9223372036854775808 ≤ a16 ∧ a16 ≤ 9223372036854775807) (b17 : -9223372036854775808 ≤ a17 ∧ a17 ≤ 9223372036854775807) (b18 : -9223372036854775808 ≤ a18 ∧ a18 ≤ 9223372036854775807) (b19 : -9223372036854775808 ≤ a19 ∧ a19 ≤ 9223372036854775807) (b20 : -9223372036854775808 ≤ a20 ∧ a20 ≤ 9223372036854775807) (b21 : 0 ≤ a21 ∧ a21 ≤ 4294967295) (b22 : 0 ≤ a22 ∧ a22 ≤ 4294967295) (b23 : 0 ≤ a23 ∧ a23 ≤ 4294967295) (b24 : 0 ≤ a24 ∧ a24 ≤ 18446744073709551615) (b25 : 0 ≤ a25 ∧ a25 ≤ 18446744073709551615) (b26 : 0 ≤ a26 ∧ a26 ≤ 18446744073709551615) (b27 : 0 ≤ a27 ∧ a27 ≤ 18446744073709551615) (w : World) :
    Calls Try.prog 6 #[.agg #[.int .i64 a0, .int .i64 a1, .int .i64 a2, .int .i64 a3, .int .i64 a4, .int .i64 a5, .int .i64 a6, .int .i64 a7, .int .i64 a8, .int .i64 a9, .int .i64 a10, .int .i64 a11], .agg #[.int .i64 a12, .int .u64 a13, .int .u64 a14], .agg #[.int .i64 a15, .int .i64 a16, .int .i64 a17, .int .i64 a18, .int .i64 a19, .int .i64 a20, .int .u32 a21, .int .u32 a22, .int .u32 a23, .int .u64 a24, .int .u64 a25, .int .u64 a26, .int .u64 a27]] w fun e w' => e = .returned (.bool true) ∧ Below w.heap.size w w' :=
  law_any (bs := [(jX a0 a1 a2 a3 a4 a5 a6 a7 a8 a9 a10 a11 a12 a13 a14 a15 a16 a17 a18 a19 a20 a21 a22 a23 a24 a25 a26 a27).2]) (fs := []) (is := [a0, a1, a2, a3, a4, a5, a6, a7, a8, a9, a10, a11, a12, a13, a14, a15, a16, a17, a18, a19, a20, a21, a22, a23, a24, a25, a26, a27, (jX a0 a1 a2 a3 a4 a5 a6 a7 a8 a9 a10 a11 a12 a13 a14 a15 a16 a17 a18 a19 a20 a21 a22 a23 a24 a25 a26 a27).1]) (rg := [i64J, i64J, i64J, i64J, i64J, i64J, i64J, i64J, i64J, i64J, i64J, i64J, i64J, u64J, u64J, i64J, i64J, i64J, i64J, i64J, i64J, u32J, u32J, u32J, u64J, u64J, u64J, u64J, i64J]) (args := [pJ, aJ, hJ])
    ⟨b0, b1, b2, b3, b4, b5, b6, b7, b8, b9, b10, b11, b12, b13, b14, b15, b16, b17, b18, b19, b20, b21, b22, b23, b24, b25, b26, b27, jX_in a0 a1 a2 a3 a4 a5 a6 a7 a8 a9 a10 a11 a12 a13 a14 a15 a16 a17 a18 a19 a20 a21 a22 a23 a24 a25 a26 a27, trivial⟩ (cr := forgC)
    (List.forall_mem_cons.2 ⟨known12, List.forall_mem_cons.2 ⟨knownJ (x := 28) (y := 0) b0 b1 b2 b3 b4 b5 b6 b7 b8 b9 b10 b11 b12 b13 b14 b15 b16 b17 b18 b19 b20 b21 b22 b23 b24 b25 b26 b27 rfl rfl, List.forall_mem_nil _⟩⟩) forgT forgT_ok (Tree.whole_live (by kernel_rfl)) (forgT_val (fun h => jC_no _ _ _ _ _ _ _ _ _ _ _ _ h) (fun h => let ⟨h1, h2, _⟩ := jC_yes _ _ _ _ _ _ _ _ _ _ _ _ h; ⟨by simpa using h1, by simpa using h2⟩)) w

def twiceT : Tree :=
(.node (.var 0)
 (.node (.var 1)
 (.node (.cmp .eql (.var 42) (.lit 0))
 (.leaf (.bool (.lit false)))
 (.node (.cmp .eql (.var 41) (.lit 0))
 (.node (.var 2)
 (.node (.cmp .eql (.var 40) (.var 27))
 (.node (.cmp .eql (.var 43) (.lit 0))
 (.leaf (.bool (.lit false)))
 (.leaf (.bool (.cmp .eql (.var 42) (.lit 121)))))
 (.leaf (.bool (.lit false))))
 (.node (.cmp .eql (.var 43) (.lit 0))
 (.leaf (.bool (.lit false)))
 (.leaf (.bool (.cmp .eql (.var 42) (.lit 121))))))
 (.leaf (.bool (.lit true)))))
 (.node (.cmp .eql (.var 42) (.lit 0))
 (.leaf (.bool (.lit false)))
 (.node (.cmp .eql (.var 41) (.lit 0))
 (.node (.var 2)
 (.node (.cmp .eql (.var 40) (.var 27))
 (.node (.cmp .eql (.var 43) (.lit 0))
 (.leaf (.bool (.lit false)))
 (.leaf (.bool (.cmp .eql (.var 42) (.lit 121)))))
 (.leaf (.bool (.lit false))))
 (.node (.cmp .eql (.var 43) (.lit 0))
 (.leaf (.bool (.lit false)))
 (.leaf (.bool (.cmp .eql (.var 42) (.lit 121))))))
 (.leaf (.bool (.lit true))))))
 (.node (.cmp .eql (.var 41) (.lit 0))
 (.leaf (.bool (.lit false)))
 (.leaf (.bool (.lit true)))))
abbrev twiceC : List (FuncId × List SV × SV) := [(28, [], .bool (.lit true)), (48, [pJ, aJ, hJ], .tuple [.int .i64 (.var 41), .bool (.var 0)]), (48, [pJ, bJ, hJ], .tuple [.int .i64 (.var 42), .bool (.var 1)]), (48, [pJ, bJ, kJ (.var 25)], .tuple [.int .i64 (.var 43), .bool (.var 2)]), (48, [pJ, aJ, kJ (.var 25)], .tuple [.int .i64 (.var 44), .bool (.var 3)])]
abbrev rK : List (Int × Int) := rJ ++ [i64J, i64J, i64J, i64J, i64J, i64J, u32J, u32J, u32J, u64J, u64J, u64J, u64J] ++ [i64J, i64J, i64J, i64J]
theorem twiceT_ok : twiceT.check Try.prog { pc := [], cr := twiceC ++ crS, rg := [i64J, i64J, i64J, i64J, i64J, i64J, i64J, i64J, i64J, i64J, i64J, i64J, i64J, u64J, u64J, i64J, i64J, i64J, i64J, i64J, i64J, u32J, u32J, u32J, u64J, u64J, u64J, u64J, i64J, i64J, i64J, i64J, i64J, i64J, u32J, u32J, u32J, u64J, u64J, u64J, u64J, i64J, i64J, i64J, i64J], ar := arN, ct := conCt [i64J, i64J, i64J, i64J, i64J, i64J, i64J, i64J, i64J, i64J, i64J, i64J, i64J, u64J, u64J, i64J, i64J, i64J, i64J, i64J, i64J, u32J, u32J, u32J, u64J, u64J, u64J, u64J, i64J, i64J, i64J, i64J, i64J, i64J, u32J, u32J, u32J, u64J, u64J, u64J, u64J, i64J, i64J, i64J, i64J] arN consN } 600 7 [pJ, aJ, hJ, kJ (.var 38)] = true := by kernel_rfl
theorem twiceT_val {ρ : Env} (h0 : ρ.b 0 = false → ρ.i 41 ≠ 0) (h1 : ρ.b 1 = false) (h2 : ρ.i 42 ≠ 0) (h3 : ρ.b 0 = true → ρ.i 42 = 121) (h4 : ρ.b 2 = false) (h5 : ρ.i 43 ≠ 0) : twiceT.val ρ = .bool true := by
  simp only [twiceT, Tree.val, BE.den, cmpI, IE.den, SV.den, h1, h4, cond_false]
  have e2 : (ρ.i 42 == 0) = false := by simpa using h2
  have e5 : (ρ.i 43 == 0) = false := by simpa using h5
  cases hb : ρ.b 0 with
  | true =>
    simp only [e2, e5, h3 hb, cond_true, cond_false]
    cases (ρ.i 41 == 0) <;> rfl
  | false =>
    have e0 : (ρ.i 41 == 0) = false := by simpa using h0 hb
    simp only [e0, cond_false]
theorem twice_dup {a0 a1 a2 a3 a4 a5 a6 a7 a8 a9 a10 a11 a12 a13 a14 a15 a16 a17 a18 a19 a20 a21 a22 a23 a24 a25 a26 a27 : Int} (h : (jX a0 a1 a2 a3 a4 a5 a6 a7 a8 a9 a10 a11 a12 a13 a14 a15 a16 a17 a18 a19 a20 a21 a22 a23 a24 a25 a26 a27).2 = true) : (jX a0 a1 a2 a3 a4 a5 a6 a7 a8 a9 a10 a11 a12 0 a27 a15 a16 a17 a18 a19 a20 a21 a22 a23 a24 a25 a26 a27).1 = 121 := by
  obtain ⟨_, _, h1, h2, h3⟩ := jC_yes _ _ _ _ _ _ _ _ _ _ _ _ h
  unfold jX
  rw [h1, h2, h3, beq_self_eq_true]
  rfl
theorem checksTwice_walk (a0 a1 a2 a3 a4 a5 a6 a7 a8 a9 a10 a11 a12 a13 a14 a15 a16 a17 a18 a19 a20 a21 a22 a23 a24 a25 a26 a27 a28 a29 a30 a31 a32 a33 a34 a35 a36 a37 a38 a39 a40 : Int) (b0 : -9223372036854775808 ≤ a0 ∧ a0 ≤ 9223372036854775807) (b1 : -9223372036854775808 ≤ a1 ∧ a1 ≤ 9223372036854775807) (b2 : -9223372036854775808 ≤ a2 ∧ a2 ≤ 9223372036854775807) (b3 : -9223372036854775808 ≤ a3 ∧ a3 ≤ 9223372036854775807) (b4 : -9223372036854775808 ≤ a4 ∧ a4 ≤ 9223372036854775807) (b5 : -9223372036854775808 ≤ a5 ∧ a5 ≤ 9223372036854775807) (b6 : -9223372036854775808 ≤ a6 ∧ a6 ≤ 9223372036854775807) (b7 : -9223372036854775808 ≤ a7 ∧ a7 ≤ 9223372036854775807) (b8 : -9223372036854775808 ≤ a8 ∧ a8 ≤ 9223372036854775807) (b9 : -9223372036854775808 ≤ a9 ∧ a9 ≤ 9223372036854775807) (b10 : -9223372036854775808 ≤ a10 ∧ a10 ≤ 9223372036854775807) (b11 : -9223372036854775808 ≤ a11 ∧ a11 ≤ 9223372036854775807) (b12 : -9223372036854775808 ≤ a12 ∧ a12 ≤ 9223372036854775807) (b13 : 0 ≤ a13 ∧ a13 ≤ 18446744073709551615) (b14 : 0 ≤ a14 ∧ a14 ≤ 18446744073709551615) (b15 : -9223372036854775808 ≤ a15 ∧ a15 ≤ 9223372036854775807) (b16 : -9223372036854775808 ≤ a16 ∧ a16 ≤ 9223372036854775807) (b17 : -9223372036854775808 ≤ a17 ∧ a17 ≤ 9223372036854775807) (b18 : -9223372036854775808 ≤ a18 ∧ a18 ≤ 9223372036854775807) (b19 : -9223372036854775808 ≤ a19 ∧ a19 ≤ 9223372036854775807) (b20 : -9223372036854775808 ≤ a20 ∧ a20 ≤ 9223372036854775807) (b21 : 0 ≤ a21 ∧ a21 ≤ 4294967295) (b22 : 0 ≤ a22 ∧ a22 ≤ 4294967295) (b23 : 0 ≤ a23 ∧ a23 ≤ 4294967295) (b24 : 0 ≤ a24 ∧ a24 ≤ 18446744073709551615) (b25 : 0 ≤ a25 ∧ a25 ≤ 18446744073709551615) (b26 : 0 ≤ a26 ∧ a26 ≤ 18446744073709551615) (b27 : 0 ≤ a27 ∧ a27 ≤ 18446744073709551615) (b28 : -9223372036854775808 ≤ a28 ∧ a28 ≤ 9223372036854775807) (b29 : -9223372036854775808 ≤ a29 ∧ a29 ≤ 9223372036854775807) (b30 : -9223372036854775808 ≤ a30 ∧ a30 ≤ 9223372036854775807) (b31 : -9223372036854775808 ≤ a31 ∧ a31 ≤ 9223372036854775807) (b32 : -9223372036854775808 ≤ a32 ∧ a32 ≤ 9223372036854775807) (b33 : -9223372036854775808 ≤ a33 ∧ a33 ≤ 9223372036854775807) (b34 : 0 ≤ a34 ∧ a34 ≤ 4294967295) (b35 : 0 ≤ a35 ∧ a35 ≤ 4294967295) (b36 : 0 ≤ a36 ∧ a36 ≤ 4294967295) (b37 : 0 ≤ a37 ∧ a37 ≤ 18446744073709551615) (b38 : 0 ≤ a38 ∧ a38 ≤ 18446744073709551615) (b39 : 0 ≤ a39 ∧ a39 ≤ 18446744073709551615) (b40 : 0 ≤ a40 ∧ a40 ≤ 18446744073709551615) (w : World) :
    Calls Try.prog 7 #[.agg #[.int .i64 a0, .int .i64 a1, .int .i64 a2, .int .i64 a3, .int .i64 a4, .int .i64 a5, .int .i64 a6, .int .i64 a7, .int .i64 a8, .int .i64 a9, .int .i64 a10, .int .i64 a11], .agg #[.int .i64 a12, .int .u64 a13, .int .u64 a14], .agg #[.int .i64 a15, .int .i64 a16, .int .i64 a17, .int .i64 a18, .int .i64 a19, .int .i64 a20, .int .u32 a21, .int .u32 a22, .int .u32 a23, .int .u64 a24, .int .u64 a25, .int .u64 a26, .int .u64 a27], .agg #[.int .i64 a28, .int .i64 a29, .int .i64 a30, .int .i64 a31, .int .i64 a32, .int .i64 a33, .int .u32 a34, .int .u32 a35, .int .u32 a36, .int .u64 a37, .int .u64 a38, .int .u64 a39, .int .u64 a40]] w fun e w' => e = .returned (.bool true) ∧ Below w.heap.size w w' :=
  law_any (bs := [(jX a0 a1 a2 a3 a4 a5 a6 a7 a8 a9 a10 a11 a12 a13 a14 a15 a16 a17 a18 a19 a20 a21 a22 a23 a24 a25 a26 a27).2, (jX a0 a1 a2 a3 a4 a5 a6 a7 a8 a9 a10 a11 a12 0 a27 a15 a16 a17 a18 a19 a20 a21 a22 a23 a24 a25 a26 a27).2, (jX a0 a1 a2 a3 a4 a5 a6 a7 a8 a9 a10 a11 a12 0 a27 a28 a29 a30 a31 a32 a33 a34 a35 a36 a37 a25 a39 a40).2, (jX a0 a1 a2 a3 a4 a5 a6 a7 a8 a9 a10 a11 a12 a13 a14 a28 a29 a30 a31 a32 a33 a34 a35 a36 a37 a25 a39 a40).2]) (fs := []) (is := [a0, a1, a2, a3, a4, a5, a6, a7, a8, a9, a10, a11, a12, a13, a14, a15, a16, a17, a18, a19, a20, a21, a22, a23, a24, a25, a26, a27, a28, a29, a30, a31, a32, a33, a34, a35, a36, a37, a38, a39, a40, (jX a0 a1 a2 a3 a4 a5 a6 a7 a8 a9 a10 a11 a12 a13 a14 a15 a16 a17 a18 a19 a20 a21 a22 a23 a24 a25 a26 a27).1, (jX a0 a1 a2 a3 a4 a5 a6 a7 a8 a9 a10 a11 a12 0 a27 a15 a16 a17 a18 a19 a20 a21 a22 a23 a24 a25 a26 a27).1, (jX a0 a1 a2 a3 a4 a5 a6 a7 a8 a9 a10 a11 a12 0 a27 a28 a29 a30 a31 a32 a33 a34 a35 a36 a37 a25 a39 a40).1, (jX a0 a1 a2 a3 a4 a5 a6 a7 a8 a9 a10 a11 a12 a13 a14 a28 a29 a30 a31 a32 a33 a34 a35 a36 a37 a25 a39 a40).1]) (rg := [i64J, i64J, i64J, i64J, i64J, i64J, i64J, i64J, i64J, i64J, i64J, i64J, i64J, u64J, u64J, i64J, i64J, i64J, i64J, i64J, i64J, u32J, u32J, u32J, u64J, u64J, u64J, u64J, i64J, i64J, i64J, i64J, i64J, i64J, u32J, u32J, u32J, u64J, u64J, u64J, u64J, i64J, i64J, i64J, i64J]) (args := [pJ, aJ, hJ, kJ (.var 38)])
    ⟨b0, b1, b2, b3, b4, b5, b6, b7, b8, b9, b10, b11, b12, b13, b14, b15, b16, b17, b18, b19, b20, b21, b22, b23, b24, b25, b26, b27, b28, b29, b30, b31, b32, b33, b34, b35, b36, b37, b38, b39, b40, jX_in .., jX_in .., jX_in .., jX_in .., trivial⟩ (cr := twiceC)
    (List.forall_mem_cons.2 ⟨known12, List.forall_mem_cons.2 ⟨knownJ (x := 41) (y := 0) b0 b1 b2 b3 b4 b5 b6 b7 b8 b9 b10 b11 b12 b13 b14 b15 b16 b17 b18 b19 b20 b21 b22 b23 b24 b25 b26 b27 rfl rfl, List.forall_mem_cons.2 ⟨knownJ (x := 42) (y := 1) b0 b1 b2 b3 b4 b5 b6 b7 b8 b9 b10 b11 b12 ⟨Int.le_refl 0, (by decide : (0 : Int) ≤ 18446744073709551615)⟩ b27 b15 b16 b17 b18 b19 b20 b21 b22 b23 b24 b25 b26 b27 rfl rfl, List.forall_mem_cons.2 ⟨knownJ (x := 43) (y := 2) b0 b1 b2 b3 b4 b5 b6 b7 b8 b9 b10 b11 b12 ⟨Int.le_refl 0, (by decide : (0 : Int) ≤ 18446744073709551615)⟩ b27 b28 b29 b30 b31 b32 b33 b34 b35 b36 b37 b25 b39 b40 rfl rfl, List.forall_mem_cons.2 ⟨knownJ (x := 44) (y := 3) b0 b1 b2 b3 b4 b5 b6 b7 b8 b9 b10 b11 b12 b13 b14 b28 b29 b30 b31 b32 b33 b34 b35 b36 b37 b25 b39 b40 rfl rfl, List.forall_mem_nil _⟩⟩⟩⟩⟩) twiceT twiceT_ok (Tree.whole_live (by kernel_rfl))
    (twiceT_val (fun h => jC_not h) (jC_none ..) (jC_not (jC_none ..)) (fun h => twice_dup h) (jC_none ..) (jC_not (jC_none ..))) w

end Go.Proofs.Ytmgfnejiienghaa
