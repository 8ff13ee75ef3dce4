/- The law ReachSlow, path by path. -/
import Derived.Test.YtmgfnejiienghaaRe
namespace Go.Proofs.Ytmgfnejiienghaa
open Go Go.RowKit Ev
set_option linter.unusedVariables false
set_option linter.unusedSimpArgs false
set_option maxRecDepth 100000

abbrev rsA : List SV := [reS, .int .u32 (.var 5), .int .u32 (.var 6)]
abbrev i64I : Int × Int := (-9223372036854775808, 9223372036854775807)
/-- no such state: each way in which it is none -/
theorem rs_out (r h p b n now draw : Int) (rg : List (Int × Int)) (hin : AllIn (envOf [r, h, p, b, n, now, draw] (ap := apN)).i rg 0)
    (hT : (Tree.leaf (.bool (.lit true))).check Try.prog { pc := [], cr := [(36, [], .bool (.lit true)), (37, [], stdS)] ++ crS, rg := rg, ar := arN, ct := conCt rg arN consN } 600 17 rsA = true) (w : World) :
    Calls Try.prog 17 #[.agg #[.int .u8 r, .int .i64 h, .int .i64 p, .int .i64 b, .int .i64 n], .int .u32 now, .int .u32 draw] w fun e w' => e = .returned (.bool true) ∧ Below w.heap.size w w' :=
  law_any (is := [r, h, p, b, n, now, draw]) (bs := []) (fs := []) hin (fun c hc => by
    simp only [List.mem_cons, List.not_mem_nil, or_false] at hc
    rcases hc with rfl | rfl
    · exact fun φ w => shown11 w
    · exact fun φ w => standard11 w) (.leaf (.bool (.lit true))) hT rfl rfl w
def rsT : Tree :=
(.node (.cmp .lss (.var 9) (.var 8))
 (.leaf (.bool (.lit false)))
 (.node (.cmp .lss (.var 7) (.var 1))
 (.leaf (.bool (.lit false)))
 (.node (.cmp .lss (.var 7) (.var 2))
 (.leaf (.bool (.lit false)))
 (.leaf (.bool (.cmp .eql (.var 0) (.var 0)))))))
abbrev rsL : SV := .agg [.int .u8 (.var 0), .int .i64 (.var 7), .int .i64 (.var 7), .int .i64 (.lit 0), .int .i64 (.var 4)]
abbrev rsC : List (FuncId × List SV × SV) := [(36, [], .bool (.lit true)), (37, [], stdS), (43, [stdS, reS], rsL),
  (40, [stdS, reS, .int .i64 (.var 5), .int .u32 (.var 6)], .agg [.int .u8 (.var 10), .int .i64 (.var 11), .int .i64 (.var 2), .int .i64 (.var 12), .int .i64 (.var 8)]),
  (40, [stdS, rsL, .int .i64 (.var 5), .int .u32 (.var 6)], .agg [.int .u8 (.var 10), .int .i64 (.var 13), .int .i64 (.var 7), .int .i64 (.lit 0), .int .i64 (.var 9)])]
abbrev rsR : List (Int × Int) := [(0, 255), (6, 10), (6, 10), (0, 8), i64I, (0, 4294967295), (0, 4294967295), (6, 10), i64I, i64I]
theorem rHost_in {r h b : Int} (h1 : 6 ≤ h ∧ h ≤ 10) : 6 ≤ rHost r h b ∧ rHost r h b ≤ 10 ∧ h ≤ rHost r h b ∧ rHost r h b ≤ h + 1 := by
  unfold rHost; split
  · omega
  · split <;> omega
theorem rNext_in (r h p b now d : Int) : -9223372036854775807 ≤ rNext r h p b now d ∧ rNext r h p b now d ≤ 9223372036854775807 := by
  unfold rNext; split <;> exact sat_in _
theorem two_mono {a b : Int} (h : 6 ≤ a) (h1 : a ≤ b) (h2 : b ≤ 10) : (2 : Int) ^ a.toNat ≤ 2 ^ b.toNat ∧ (2 : Int) ^ (a - 4).toNat ≤ 2 ^ (b - 4).toNat := by
  have : a = 6 ∨ a = 7 ∨ a = 8 ∨ a = 9 ∨ a = 10 := by omega
  have : b = 6 ∨ b = 7 ∨ b = 8 ∨ b = 9 ∨ b = 10 := by omega
  rcases ‹a = 6 ∨ _› with rfl | rfl | rfl | rfl | rfl <;> rcases ‹b = 6 ∨ _› with rfl | rfl | rfl | rfl | rfl <;> first | decide | omega
/-- the question behind 'too often' is no sooner -/
theorem slow_later (r h p b now d : Int) (h1 : 6 ≤ h ∧ h ≤ 10) (h2 : 6 ≤ p ∧ p ≤ 10) (n0 : 0 ≤ now ∧ now ≤ 4294967295) (d0 : 0 ≤ d ∧ d ≤ 4294967295) :
    rNext r h p b now d ≤ rNext r (min 10 (max h p + 1)) (min 10 (max h p + 1)) 0 now d := by
  have hz : ¬ (0 : Int) < 0 := by decide
  have hH := rHost_in (r := r) (b := b) h1
  have hH' := rHost_in (r := r) (h := min 10 (max h p + 1)) (b := 0) (by omega)
  unfold rNext
  rw [if_neg hz]
  generalize hx : min (rHost r (min 10 (max h p + 1)) 0) (min 10 (max h p + 1)) = x
  have hx6 : 6 ≤ x ∧ x ≤ 10 := by omega
  have ht := two_6_10 hx6
  have hq : 0 ≤ d * (2 : Int) ^ (x - 4).toNat := Int.mul_nonneg d0.1 (by omega)
  split
  · have e1 : sat (now + 8589934592) ≤ sat (now + 4294967296 * 2 ^ x.toNat) := sat_mono (by omega)
    have e2 : sat (now + 8589934592) = sat (sat (now + 8589934592) + 0) := by unfold sat; omega
    rw [e2]
    exact sat_mono (by omega)
  · generalize hy : min (rHost r h b) p = y
    have hy6 : 6 ≤ y ∧ y ≤ 10 := by omega
    have hm := two_mono hy6.1 (show y ≤ x by omega) hx6.2
    have e1 : sat (now + 4294967296 * 2 ^ y.toNat) ≤ sat (now + 4294967296 * 2 ^ x.toNat) := sat_mono (by omega)
    have e2 : d * 2 ^ (y - 4).toNat ≤ d * 2 ^ (x - 4).toNat := Int.mul_le_mul_of_nonneg_left hm.2 d0.1
    exact sat_mono (by omega)
theorem reachSlow_walk (r h p b n now draw : Int) (h0 : 0 ≤ r ∧ r ≤ 255) (h1 : -9223372036854775808 ≤ h ∧ h ≤ 9223372036854775807) (h2 : -9223372036854775808 ≤ p ∧ p ≤ 9223372036854775807) (h3 : -9223372036854775808 ≤ b ∧ b ≤ 9223372036854775807) (h4 : -9223372036854775808 ≤ n ∧ n ≤ 9223372036854775807) (h5 : 0 ≤ now ∧ now ≤ 4294967295) (h6 : 0 ≤ draw ∧ draw ≤ 4294967295) (w : World) :
    Calls Try.prog 17 #[.agg #[.int .u8 r, .int .i64 h, .int .i64 p, .int .i64 b, .int .i64 n], .int .u32 now, .int .u32 draw] w fun e w' => e = .returned (.bool true) ∧ Below w.heap.size w w' := by
  by_cases c1 : h ≤ 5
  · exact rs_out r h p b n now draw [(0, 255), (-9223372036854775808, 5), i64I, i64I, i64I, (0, 4294967295), (0, 4294967295)] ⟨h0, ⟨h1.1, c1⟩, h2, h3, h4, h5, h6, trivial⟩ (by kernel_rfl) w
  by_cases c2 : 11 ≤ h
  · exact rs_out r h p b n now draw [(0, 255), (11, 9223372036854775807), i64I, i64I, i64I, (0, 4294967295), (0, 4294967295)] ⟨h0, ⟨c2, h1.2⟩, h2, h3, h4, h5, h6, trivial⟩ (by kernel_rfl) w
  have k1 : 6 ≤ h ∧ h ≤ 10 := by omega
  by_cases c3 : p ≤ 5
  · exact rs_out r h p b n now draw [(0, 255), (6, 10), (-9223372036854775808, 5), i64I, i64I, (0, 4294967295), (0, 4294967295)] ⟨h0, k1, ⟨h2.1, c3⟩, h3, h4, h5, h6, trivial⟩ (by kernel_rfl) w
  by_cases c4 : 11 ≤ p
  · exact rs_out r h p b n now draw [(0, 255), (6, 10), (11, 9223372036854775807), i64I, i64I, (0, 4294967295), (0, 4294967295)] ⟨h0, k1, ⟨c4, h2.2⟩, h3, h4, h5, h6, trivial⟩ (by kernel_rfl) w
  have k2 : 6 ≤ p ∧ p ≤ 10 := by omega
  by_cases c5 : b ≤ -1
  · exact rs_out r h p b n now draw [(0, 255), (6, 10), (6, 10), (-9223372036854775808, -1), i64I, (0, 4294967295), (0, 4294967295)] ⟨h0, k1, k2, ⟨h3.1, c5⟩, h4, h5, h6, trivial⟩ (by kernel_rfl) w
  by_cases c6 : 9 ≤ b
  · exact rs_out r h p b n now draw [(0, 255), (6, 10), (6, 10), (9, 9223372036854775807), i64I, (0, 4294967295), (0, 4294967295)] ⟨h0, k1, k2, ⟨c6, h3.2⟩, h4, h5, h6, trivial⟩ (by kernel_rfl) w
  have k3 : 0 ≤ b ∧ b ≤ 8 := by omega
  generalize hs : min 10 (max h p + 1) = s
  have ks : 6 ≤ s ∧ s ≤ 10 := by omega
  have now64 : -9223372036854775808 ≤ now ∧ now ≤ 9223372036854775807 := by omega
  have hz8 : (0 : Int) ≤ 0 ∧ (0 : Int) ≤ 8 := by decide
  have n1 := rNext_in r h p b now draw
  have n2 := rNext_in r s s 0 now draw
  have hl := slow_later r h p b now draw k1 k2 h5 h6
  rw [hs] at hl
  refine law_any (is := [r, h, p, b, n, now, draw, s, rNext r h p b now draw, rNext r s s 0 now draw, rReg r, rHost r h b, rBurst b, rHost r s 0]) (bs := []) (fs := []) (rg := rsR) (args := rsA)
    ⟨h0, k1, k2, k3, h4, h5, h6, ks, ⟨by show -9223372036854775808 ≤ rNext r h p b now draw; omega, n1.2⟩, ⟨by show -9223372036854775808 ≤ rNext r s s 0 now draw; omega, n2.2⟩, trivial⟩ (cr := rsC) (fun c hc => ?_) rsT (n := 600) (by kernel_rfl) (Tree.whole_live (by kernel_rfl)) ?_ w
  · simp only [rsC, List.mem_cons, List.not_mem_nil, or_false] at hc
    rcases hc with rfl | rfl | rfl | rfl | rfl
    · exact fun φ w => shown11 w
    · exact fun φ w => standard11 w
    · intro φ w
      have := slow_any r h p b n h0 k1 k2 k3 h4 w
      rw [hs] at this
      exact this
    · exact fun φ w => sent_any r h p b n now draw h0 k1 k2 k3 h4 now64 h6 w
    · exact fun φ w => sent_any r s s 0 n now draw h0 ks ks hz8 h4 now64 h6 w
  · simp only [rsT, Tree.val, BE.den, cmpI, SV.den, IE.den, Bool.cond_decide, List.getD_cons_zero, List.getD_cons_succ, beq_self_eq_true]
    rw [if_neg (by omega), if_neg (by omega), if_neg (by omega)]
end Go.Proofs.Ytmgfnejiienghaa
