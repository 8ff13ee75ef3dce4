/- Law 19: what is shown; LoopTurns, LoopSmooth. -/
import Derived.Test.YthhipnhnpjhaaaaEvS
namespace Go.Proofs.Ythhipnhnpjhaaaa
open Go Go.RowKit Ev
set_option linter.unusedVariables false
set_option linter.unusedSimpArgs false
set_option maxRecDepth 100000

theorem shown19 (w : World) : Calls Try.prog 19 #[] w fun e w' => e = .returned (.bool true) ∧ Below w.heap.size w w' :=
  law_any (is := []) (bs := []) (fs := []) (rg := []) (args := []) trivial (cr := []) (fun c hc => by cases hc) (.leaf (.bool (.lit true))) (n := 1000) (by kernel_rfl) rfl rfl w
theorem standard19 (w : World) : Calls Try.prog 20 #[] w fun e w' => e = .returned (stdS.den (envOf []) id) ∧ Below w.heap.size w w' :=
  law_any (is := []) (bs := []) (fs := []) (rg := []) (args := []) trivial (cr := []) (fun c hc => by cases hc) (.leaf stdS) (n := 1000) (by kernel_rfl) rfl rfl w
abbrev k19 : List (FuncId × List SV × SV) := [(19, [], .bool (.lit true)), (20, [], stdS)]
theorem k19_ok {ρ : Env} : ∀ c ∈ k19, Known Try.prog ρ c := by
  intro c hc
  simp only [k19, List.mem_cons, List.not_mem_nil, or_false] at hc
  rcases hc with rfl | rfl
  · exact fun φ w _ => shown19 w
  · exact fun φ w _ => standard19 w
theorem ediv_le0 {a q : Int} (h : a ≤ 0) (hq : 0 < q) : a / q ≤ 0 := by
  have : a / q < 1 := Int.ediv_lt_of_lt_mul hq (by omega)
  omega
theorem ap3_sign {a b c : Int} (hb : b ≤ 0) : (0 ≤ a → 0 ≤ apN 3 a b c) ∧ (a ≤ 0 → apN 3 a b c ≤ 0) := by
  simp only [apN, if_pos hb]
  have hp : (0 : Int) < 2 ^ (min 63 (-b).toNat) := Int.pow_pos (by decide)
  refine ⟨fun h => ?_, fun h => ?_⟩
  · have := Int.ediv_nonneg h (Int.le_of_lt hp)
    unfold sat; omega
  · have := ediv_le0 h hp
    unfold sat; omega
theorem ap3_pow {n : Int} (h : 4 ≤ n ∧ n ≤ 17) : 0 ≤ apN 3 4294967296 n 0 := by
  simp only [apN, if_neg (show ¬ n ≤ 0 by omega)]
  have hp : (0 : Int) < 2 ^ (min n.toNat 64) := Int.pow_pos (by decide)
  have := Int.mul_pos (show (0 : Int) < 4294967296 by decide) hp
  unfold sat; omega
theorem ap4_sign {g o c : Int} (hg : 0 ≤ g) : (0 ≤ o → 0 ≤ apN 4 g o c) ∧ (o ≤ 0 → apN 4 g o c ≤ 0) := by
  simp only [apN]
  refine ⟨fun h => ?_, fun h => ?_⟩
  · have := Int.ediv_nonneg (Int.mul_nonneg hg h) (show (0 : Int) ≤ 4294967296 by decide)
    unfold sat; omega
  · have := ediv_le0 (Int.mul_nonpos_of_nonneg_of_nonpos hg h) (show (0 : Int) < 4294967296 by decide)
    unfold sat; omega
def ltT : Tree :=
(.node (.cmp .lss (.var 0) (.lit 0))
 (.node (.cmp .lss (.lit 0) (.ap 3 (.ap 4 (.mn (.pl .mul (.ar .rem .u16 (.var 1) (.lit 2048)) (.lit 4294967296)) (.ap 3 (.lit 4294967296) (.mn (.mx (.var 2) (.lit 4)) (.lit 17)) (.lit 0))) (.var 0) (.lit 0)) (.pl .sub (.lit (-8)) (.pl .mul (.lit 2) (.mn (.mx (.var 2) (.lit 4)) (.lit 17)))) (.lit 0)))
 (.leaf (.bool (.lit false)))
 (.node (.cmp .eql (.ap 3 (.ap 4 (.mn (.lit 0) (.ap 3 (.lit 4294967296) (.mn (.mx (.var 2) (.lit 4)) (.lit 17)) (.lit 0))) (.var 0) (.lit 0)) (.pl .sub (.lit (-8)) (.pl .mul (.lit 2) (.mn (.mx (.var 2) (.lit 4)) (.lit 17)))) (.lit 0)) (.lit 0))
 (.leaf (.bool (.lit true)))
 (.leaf (.bool (.lit false)))))
 (.node (.cmp .lss (.ap 3 (.ap 4 (.mn (.pl .mul (.ar .rem .u16 (.var 1) (.lit 2048)) (.lit 4294967296)) (.ap 3 (.lit 4294967296) (.mn (.mx (.var 2) (.lit 4)) (.lit 17)) (.lit 0))) (.var 0) (.lit 0)) (.pl .sub (.lit (-8)) (.pl .mul (.lit 2) (.mn (.mx (.var 2) (.lit 4)) (.lit 17)))) (.lit 0)) (.lit 0))
 (.leaf (.bool (.lit false)))
 (.node (.cmp .lss (.lit 0) (.var 0))
 (.node (.cmp .eql (.ap 3 (.ap 4 (.mn (.lit 0) (.ap 3 (.lit 4294967296) (.mn (.mx (.var 2) (.lit 4)) (.lit 17)) (.lit 0))) (.var 0) (.lit 0)) (.pl .sub (.lit (-8)) (.pl .mul (.lit 2) (.mn (.mx (.var 2) (.lit 4)) (.lit 17)))) (.lit 0)) (.lit 0))
 (.leaf (.bool (.lit true)))
 (.leaf (.bool (.lit false))))
 (.node (.cmp .lss (.lit 0) (.ap 3 (.ap 4 (.mn (.pl .mul (.ar .rem .u16 (.var 1) (.lit 2048)) (.lit 4294967296)) (.ap 3 (.lit 4294967296) (.mn (.mx (.var 2) (.lit 4)) (.lit 17)) (.lit 0))) (.var 0) (.lit 0)) (.pl .sub (.lit (-8)) (.pl .mul (.lit 2) (.mn (.mx (.var 2) (.lit 4)) (.lit 17)))) (.lit 0)))
 (.leaf (.bool (.lit false)))
 (.node (.cmp .eql (.ap 3 (.ap 4 (.mn (.lit 0) (.ap 3 (.lit 4294967296) (.mn (.mx (.var 2) (.lit 4)) (.lit 17)) (.lit 0))) (.var 0) (.lit 0)) (.pl .sub (.lit (-8)) (.pl .mul (.lit 2) (.mn (.mx (.var 2) (.lit 4)) (.lit 17)))) (.lit 0)) (.lit 0))
 (.leaf (.bool (.lit true)))
 (.leaf (.bool (.lit false))))))))
theorem loopTurns_walk (o g p : Int) (ho : -2147483648 ≤ o ∧ o ≤ 2147483647) (hg : 0 ≤ g ∧ g ≤ 65535) (hp : 0 ≤ p ∧ p ≤ 255) (w : World) :
    Calls Try.prog 12 #[.int .i32 o, .int .u16 g, .int .u8 p] w fun e w' => e = .returned (.bool true) ∧ Below w.heap.size w w' := by
  refine law_any (bs := []) (fs := []) (is := [o, g, p]) (rg := [(-2147483648, 2147483647), (0, 65535), (0, 255)]) (args := [.int .i32 (.var 0), .int .u16 (.var 1), .int .u8 (.var 2)]) ⟨ho, hg, hp, trivial⟩ (cr := k19) k19_ok ltT (n := 1000) (by kernel_rfl) (Tree.whole_live (by kernel_rfl)) ?_ w
  simp only [ltT, Tree.val, BE.den, cmpI, SV.den, IE.den, List.getD_cons_zero, List.getD_cons_succ]
  have hn : 4 ≤ mnI (mxI p 4) 17 ∧ mnI (mxI p 4) 17 ≤ 17 := by unfold mnI mxI; split <;> split <;> omega
  generalize mnI (mxI p 4) 17 = n at hn
  have hP := ap3_pow hn
  generalize apN 3 4294967296 n 0 = P at hP
  have hG : 0 ≤ mnI (plI .mul (arI .rem .u16 g 2048) 4294967296) P := by
    have e : arI .rem .u16 g 2048 = g % 2048 := Int.tmod_eq_emod_of_nonneg hg.1
    rw [e]
    show 0 ≤ mnI (g % 2048 * 4294967296) P
    unfold mnI; split <;> omega
  generalize mnI (plI .mul (arI .rem .u16 g 2048) 4294967296) P = G at hG
  have h0 : mnI 0 P = 0 := by unfold mnI; split <;> omega
  rw [h0]
  have hk : plI .sub (-8) (plI .mul 2 n) ≤ 0 := by show -8 - 2 * n ≤ 0; omega
  generalize plI .sub (-8) (plI .mul 2 n) = k at hk
  have m0 : apN 4 0 o 0 = 0 := by simp only [apN, Int.zero_mul]; decide
  have s0 : apN 3 0 k 0 = 0 := by
    have := (ap3_sign (a := 0) (c := 0) hk).1 (by omega)
    have := (ap3_sign (a := 0) (c := 0) hk).2 (by omega)
    omega
  rw [m0, s0]
  have m1 := ap4_sign (o := o) (c := 0) hG
  have s1 := ap3_sign (a := apN 4 G o 0) (c := 0) hk
  generalize apN 4 G o 0 = M at *
  generalize apN 3 M k 0 = F at *
  by_cases c1 : o < 0
  · rw [decide_eq_true c1, cond_true, decide_eq_false (by omega), cond_false]; rfl
  · rw [decide_eq_false c1, cond_false, decide_eq_false (by omega), cond_false]
    by_cases c2 : 0 < o
    · rw [decide_eq_true c2, cond_true]; rfl
    · rw [decide_eq_false c2, cond_false, decide_eq_false (by omega), cond_false]; rfl
/-- a square, cut down -/
theorem sq_small {a : Int} (h : 0 ≤ a ∧ a ≤ 1099511627775) : apN 4 a a 0 = a * a / 4294967296 ∧ 0 ≤ a * a / 4294967296 ∧ a * a / 4294967296 ≤ 281474976710656 := by
  have h0 : 0 ≤ a * a := Int.mul_nonneg h.1 h.1
  have h1 : a * a ≤ 1099511627775 * 1099511627775 := Int.mul_le_mul h.2 h.2 h.1 (by decide)
  simp only [apN]
  unfold sat
  omega
theorem fSqrt_le {x m : Int} (hx : x ≤ 9223372036854775807) (hm : 0 ≤ m) (h : x * 4294967296 < (m + 1) * (m + 1)) : apN 9 x 0 0 ≤ m := by
  have e : apN 9 x 0 0 = sat (fSqrt x) := rfl
  rw [e]
  unfold fSqrt
  have h4 : (4 : Nat) ^ 64 = 340282366920938463463374607431768211456 := by decide
  have : isq (x.toNat * 4294967296) < m.toNat + 1 := by
    refine isq_lt (by rw [h4]; omega) ?_
    have e2 : (((m.toNat + 1) * (m.toNat + 1) : Nat) : Int) = (m + 1) * (m + 1) := by
      rw [Int.natCast_mul]
      have : ((m.toNat + 1 : Nat) : Int) = m + 1 := by omega
      rw [this]
    have hpos : 0 < (m + 1) * (m + 1) := Int.mul_pos (by omega) (by omega)
    rw [← e2] at h hpos
    generalize (m.toNat + 1) * (m.toNat + 1) = z at *
    omega
  generalize isq (x.toNat * 4294967296) = z at *
  unfold sat; omega
theorem smooth_le {a b : Int} (ha : 0 ≤ a ∧ a ≤ 1099511627775) (hb : 0 ≤ b ∧ b ≤ 1099511627775) : apN 9 (apN 1 (apN 4 a a 0) (apN 3 (apN 2 (apN 4 b b 0) (apN 4 a a 0) 0) (-2) 0) 0) 0 0 ≤ max a b := by
  obtain ⟨e1, l1, u1⟩ := sq_small ha
  obtain ⟨e2, l2, u2⟩ := sq_small hb
  rw [e1, e2]
  have e3 : apN 2 (b * b / 4294967296) (a * a / 4294967296) 0 = b * b / 4294967296 - a * a / 4294967296 := by
    simp only [apN]; unfold sat; omega
  rw [e3]
  have e4 : ∀ x : Int, -9223372036854775807 ≤ x → x ≤ 9223372036854775807 → apN 3 x (-2) 0 = x / 4 := by
    intro x h1 h2
    have : apN 3 x (-2) 0 = sat (x / 2 ^ (min 63 ((2 : Int)).toNat)) := rfl
    rw [this]
    show sat (x / 4) = x / 4
    unfold sat; omega
  rw [e4 _ (by omega) (by omega)]
  have hm : ∀ m : Int, a ≤ m → b ≤ m → a * a / 4294967296 * 4294967296 < (m + 1) * (m + 1) ∧ b * b / 4294967296 * 4294967296 < (m + 1) * (m + 1) := by
    intro m h1 h2
    have g1 : a * a < (m + 1) * (m + 1) := by
      have := Int.mul_le_mul (show a ≤ m by omega) (show a ≤ m by omega) ha.1 (by omega)
      have e : (m + 1) * (m + 1) = m * m + 2 * m + 1 := by rw [Int.add_mul, Int.mul_add]; omega
      omega
    have g2 : b * b < (m + 1) * (m + 1) := by
      have := Int.mul_le_mul (show b ≤ m by omega) (show b ≤ m by omega) hb.1 (by omega)
      have e : (m + 1) * (m + 1) = m * m + 2 * m + 1 := by rw [Int.add_mul, Int.mul_add]; omega
      omega
    omega
  obtain ⟨h1, h2⟩ := hm (max a b) (by omega) (by omega)
  generalize a * a / 4294967296 = A at *
  generalize b * b / 4294967296 = B at *
  have e5 : apN 1 A ((B - A) / 4) 0 = A + (B - A) / 4 := by simp only [apN]; unfold sat; omega
  rw [e5]
  refine fSqrt_le (by omega) (by omega) ?_
  generalize (max a b + 1) * (max a b + 1) = z at *
  omega
def lsT : Tree :=
(.node (.cmp .lss (.mx (.var 0) (.var 1)) (.ap 9 (.ap 1 (.ap 4 (.var 0) (.var 0) (.lit 0)) (.ap 3 (.ap 2 (.ap 4 (.var 1) (.var 1) (.lit 0)) (.ap 4 (.var 0) (.var 0) (.lit 0)) (.lit 0)) (.lit (-2)) (.lit 0)) (.lit 0)) (.lit 0) (.lit 0)))
 (.leaf (.bool (.lit false)))
 (.node (.cmp .lss (.ar .shl .i64 (.var 0) (.lit 8)) (.ap 9 (.ap 1 (.ap 4 (.ar .shl .i64 (.var 0) (.lit 8)) (.ar .shl .i64 (.var 0) (.lit 8)) (.lit 0)) (.ap 3 (.ap 2 (.ap 4 (.ar .shl .i64 (.var 0) (.lit 8)) (.ar .shl .i64 (.var 0) (.lit 8)) (.lit 0)) (.ap 4 (.ar .shl .i64 (.var 0) (.lit 8)) (.ar .shl .i64 (.var 0) (.lit 8)) (.lit 0)) (.lit 0)) (.lit (-2)) (.lit 0)) (.lit 0)) (.lit 0) (.lit 0)))
 (.leaf (.bool (.lit false)))
 (.leaf (.bool (.lit true)))))
theorem loopSmooth_walk (a b : Int) (ha : 0 ≤ a ∧ a ≤ 4294967295) (hb : 0 ≤ b ∧ b ≤ 4294967295) (w : World) :
    Calls Try.prog 10 #[.int .u32 a, .int .u32 b] w fun e w' => e = .returned (.bool true) ∧ Below w.heap.size w w' := by
  refine law_any (bs := []) (fs := []) (is := [a, b]) (rg := [(0, 4294967295), (0, 4294967295)]) (args := [.int .u32 (.var 0), .int .u32 (.var 1)]) ⟨ha, hb, trivial⟩ (cr := k19) k19_ok lsT (n := 1000) (by kernel_rfl) (Tree.whole_live (by kernel_rfl)) ?_ w
  simp only [lsT, Tree.val, BE.den, cmpI, SV.den, IE.den, List.getD_cons_zero, List.getD_cons_succ]
  have e8 : arI .shl .i64 a 8 = a * 256 := by
    show IntKind.i64.wrap (a * 256) = _
    rw [IntKind.wrap_i64]; omega
  rw [e8]
  have h1 := smooth_le (a := a) (b := b) (by omega) (by omega)
  have h2 := smooth_le (a := a * 256) (b := a * 256) (by omega) (by omega)
  have em : mxI a b = max a b := by unfold mxI; split <;> omega
  rw [em]
  generalize apN 9 (apN 1 (apN 4 a a 0) (apN 3 (apN 2 (apN 4 b b 0) (apN 4 a a 0) 0) (-2) 0) 0) 0 0 = x at *
  generalize apN 9 (apN 1 (apN 4 (a * 256) (a * 256) 0) (apN 3 (apN 2 (apN 4 (a * 256) (a * 256) 0) (apN 4 (a * 256) (a * 256) 0) 0) (-2) 0) 0) 0 0 = y at *
  rw [decide_eq_false (by omega), cond_false, decide_eq_false (by omega), cond_false]
end Go.Proofs.Ythhipnhnpjhaaaa
