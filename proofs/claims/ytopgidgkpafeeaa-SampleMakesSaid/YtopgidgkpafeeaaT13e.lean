/- Law 13: SampleMakes. -/
import Derived.Test.YtopgidgkpafeeaaT13c
import Derived.Test.YtopgidgkpafeeaaT02m
namespace Go.Proofs.Ytopgidgkpafeeaa
open Go Go.RowKit Ev
set_option linter.unusedVariables false
set_option linter.unusedSimpArgs false
set_option maxRecDepth 100000
set_option maxHeartbeats 0

theorem diff2_any (a b : Int) (ha : 0 ≤ a ∧ a ≤ 18446744073709551615) (hb : 0 ≤ b ∧ b ≤ 18446744073709551615) (w : World) : Calls Try.prog 57 #[.int .u64 a, .int .u64 b] w fun e w' => e = .returned (.int .i64 (eDiff a b)) ∧ Below w.heap.size w w' :=
  law_any (bs := []) (fs := []) (is := [a, b]) (rg := [u64P, u64P]) (args := [.int .u64 (.var 0), .int .u64 (.var 1)]) ⟨ha, hb, trivial⟩ (cr := []) (fun c hc => by cases hc) (.node (.cmp .lss (.ar .sub .u64 (.var 0) (.var 1)) (.lit 9223372036854775808))
 (.leaf (.int .i64 (.ar .sub .u64 (.var 0) (.var 1))))
 (.node (.cmp .lss (.lit 9223372036854775807) (.ar .sub .u64 (.var 1) (.var 0)))
 (.leaf (.int .i64 (.lit (-9223372036854775807))))
 (.leaf (.int .i64 (.pl .sub (.lit 0) (.ar .sub .u64 (.var 1) (.var 0))))))) (n := 600) (by kernel_rfl) (Tree.whole_live (by kernel_rfl)) (by
    have e1 : arI .sub .u64 a b = (a - b) % 18446744073709551616 := by show IntKind.u64.wrap (a - b) = _; rw [IntKind.wrap_u64]
    have e2 : arI .sub .u64 b a = (b - a) % 18446744073709551616 := by show IntKind.u64.wrap (b - a) = _; rw [IntKind.wrap_u64]
    simp only [Tree.val, BE.den, cmpI, SV.den, IE.den, Bool.cond_decide, List.getD_cons_zero, List.getD_cons_succ, e1, e2, plI]
    unfold eDiff
    rw [IntKind.wrap_i64]
    split
    · congr 1; omega
    · split <;> (congr 1; omega)) w
def smT : Tree :=
(.node (.cmp .lss (.var 27) (.lit 0))
 (.leaf (.bool (.lit true)))
 (.node (.cmp .lss (.lit 4611686018427387904) (.var 27))
 (.leaf (.bool (.lit true)))
 (.node (.cmp .lss (.var 30) (.lit 0))
 (.leaf (.bool (.lit true)))
 (.node (.cmp .lss (.var 31) (.lit 0))
 (.leaf (.bool (.lit true)))
 (.node (.cmp .lss (.ar .sub .i64 (.var 32) (.ar .mul .i64 (.ar .quo .i64 (.var 32) (.lit 2)) (.lit 2))) (.lit 0))
 (.node (.cmp .lss (.ar .sub .i64 (.var 33) (.ar .mul .i64 (.ar .quo .i64 (.var 33) (.lit 2)) (.lit 2))) (.lit 0))
 (.node (.cmp .eql (.var 29) (.mx (.ar .add .i64 (.ar .add .i64 (.pl .add (.lit 0) (.ar .sub .i64 (.ar .quo .i64 (.var 32) (.lit 2)) (.lit 1))) (.ar .sub .i64 (.ar .quo .i64 (.var 33) (.lit 2)) (.lit 1))) (.ar .quo .i64 (.ar .add .i64 (.pl .add (.lit 0) (.pl .add (.ar .sub .i64 (.var 32) (.ar .mul .i64 (.ar .quo .i64 (.var 32) (.lit 2)) (.lit 2))) (.lit 2))) (.pl .add (.ar .sub .i64 (.var 33) (.ar .mul .i64 (.ar .quo .i64 (.var 33) (.lit 2)) (.lit 2))) (.lit 2))) (.lit 2))) (.lit (-9223372036854775807))))
 (.leaf (.bool (.lit true)))
 .dead)
 (.node (.cmp .eql (.var 29) (.mx (.ar .add .i64 (.ar .add .i64 (.pl .add (.lit 0) (.ar .sub .i64 (.ar .quo .i64 (.var 32) (.lit 2)) (.lit 1))) (.ar .quo .i64 (.var 33) (.lit 2))) (.ar .quo .i64 (.ar .add .i64 (.pl .add (.lit 0) (.pl .add (.ar .sub .i64 (.var 32) (.ar .mul .i64 (.ar .quo .i64 (.var 32) (.lit 2)) (.lit 2))) (.lit 2))) (.ar .sub .i64 (.var 33) (.ar .mul .i64 (.ar .quo .i64 (.var 33) (.lit 2)) (.lit 2)))) (.lit 2))) (.lit (-9223372036854775807))))
 (.leaf (.bool (.lit true)))
 .dead))
 (.node (.cmp .lss (.ar .sub .i64 (.var 33) (.ar .mul .i64 (.ar .quo .i64 (.var 33) (.lit 2)) (.lit 2))) (.lit 0))
 (.node (.cmp .eql (.var 29) (.mx (.ar .add .i64 (.ar .add .i64 (.pl .add (.lit 0) (.ar .quo .i64 (.var 32) (.lit 2))) (.ar .sub .i64 (.ar .quo .i64 (.var 33) (.lit 2)) (.lit 1))) (.ar .quo .i64 (.ar .add .i64 (.pl .add (.lit 0) (.ar .sub .i64 (.var 32) (.ar .mul .i64 (.ar .quo .i64 (.var 32) (.lit 2)) (.lit 2)))) (.pl .add (.ar .sub .i64 (.var 33) (.ar .mul .i64 (.ar .quo .i64 (.var 33) (.lit 2)) (.lit 2))) (.lit 2))) (.lit 2))) (.lit (-9223372036854775807))))
 (.leaf (.bool (.lit true)))
 .dead)
 (.node (.cmp .eql (.var 29) (.mx (.ar .add .i64 (.ar .add .i64 (.pl .add (.lit 0) (.ar .quo .i64 (.var 32) (.lit 2))) (.ar .quo .i64 (.var 33) (.lit 2))) (.ar .quo .i64 (.ar .add .i64 (.pl .add (.lit 0) (.ar .sub .i64 (.var 32) (.ar .mul .i64 (.ar .quo .i64 (.var 32) (.lit 2)) (.lit 2)))) (.ar .sub .i64 (.var 33) (.ar .mul .i64 (.ar .quo .i64 (.var 33) (.lit 2)) (.lit 2)))) (.lit 2))) (.lit (-9223372036854775807))))
 (.leaf (.bool (.lit true)))
 .dead)))))))
abbrev smA : List SV := [.agg [.int .i64 (.var 0), .int .i64 (.var 1), .int .i64 (.var 2), .int .i64 (.var 3), .int .i64 (.var 4), .int .i64 (.var 5), .int .i64 (.var 6), .int .i64 (.var 7), .int .i64 (.var 8), .int .i64 (.var 9), .int .i64 (.var 10), .int .i64 (.var 11)], .int .i64 (.var 12), .agg [.int .i64 (.var 13), .int .i64 (.var 14), .int .i64 (.var 15), .int .i64 (.var 16), .int .i64 (.var 17), .int .i64 (.var 18), .int .u32 (.var 19), .int .u32 (.var 20), .int .u32 (.var 21), .int .u64 (.var 22), .int .u64 (.var 23), .int .u64 (.var 24), .int .u64 (.var 25)], .int .u64 (.var 26), .int .i64 (.var 27), .int .i64 (.var 28)]
abbrev smR : List (Int × Int) := [i64R, i64R, i64R, i64R, i64R, i64R, i64R, i64R, i64R, i64R, i64R, i64R, i64R, i64R, i64R, i64R, i64R, i64R, i64R, (0, 4294967295), (0, 4294967295), (0, 4294967295), u64P, u64P, u64P, u64P, u64P, i64R, i64R, satR, satR, satR, satR, satR]
abbrev smK : List (FuncId × List SV × SV) := [(19, [], .bool (.lit true)), (52, [.agg [.int .u64 (.var 23), .int .u64 (.var 24), .int .u64 (.var 25), .int .u64 (.var 26)]], .int .i64 (.var 29)), (86, [.int .u64 (.var 26), .int .u64 (.var 23)], .int .i64 (.var 30)), (86, [.int .u64 (.var 25), .int .u64 (.var 24)], .int .i64 (.var 31)), (57, [.int .u64 (.var 26), .int .u64 (.var 23)], .int .i64 (.var 30)), (57, [.int .u64 (.var 25), .int .u64 (.var 24)], .int .i64 (.var 31)), (57, [.int .u64 (.var 24), .int .u64 (.var 23)], .int .i64 (.var 32)), (57, [.int .u64 (.var 25), .int .u64 (.var 26)], .int .i64 (.var 33))]
theorem sm_ok : smT.check Try.prog { pc := [], cr := smK ++ crS, rg := smR, ar := arN, ct := conCt smR arN consM, nz := true } 1000 3 smA = true := by kernel_rfl
theorem sm_q {x : Int} (h : -9223372036854775807 ≤ x ∧ x ≤ 9223372036854775807) : ∃ q r : Int, arI .quo .i64 x 2 = q ∧ arI .mul .i64 q 2 = 2 * q ∧ arI .sub .i64 x (2 * q) = r ∧ x = 2 * q + r ∧ -1 ≤ r ∧ r ≤ 1 ∧ (0 ≤ x → 0 ≤ r) ∧ (x ≤ 0 → r ≤ 0) := by
  have ht : x.tdiv 2 = (if x < 0 then -(-x / 2) else x / 2) := by
    split
    · have := Int.neg_tdiv (-x) 2
      have h2 : (-x).tdiv 2 = -x / 2 := Int.tdiv_eq_ediv_of_nonneg (by omega)
      rw [Int.neg_neg, h2] at this
      exact this
    · exact Int.tdiv_eq_ediv_of_nonneg (by omega)
  have hq : arI .quo .i64 x 2 = (if x < 0 then -(-x / 2) else x / 2) := by
    show IntKind.i64.wrap (x.tdiv 2) = _
    rw [ht, IntKind.wrap_i64]; split <;> omega
  generalize hb : (if x < 0 then -(-x / 2) else x / 2) = q at hq
  have hc : (x < 0 ∧ q = -(-x / 2)) ∨ (0 ≤ x ∧ q = x / 2) := by
    rw [← hb]; split <;> omega
  refine ⟨q, x - 2 * q, hq, ?_, ?_, by omega, by omega, by omega, by omega, by omega⟩
  · show IntKind.i64.wrap (q * 2) = _
    rw [IntKind.wrap_i64]; omega
  · show IntKind.i64.wrap (x - 2 * q) = _
    rw [IntKind.wrap_i64]; omega
theorem sm_mean {d e : Int} (hd : -9223372036854775807 ≤ d ∧ d ≤ 9223372036854775807) (he : -9223372036854775807 ≤ e ∧ e ≤ 9223372036854775807) {ρ : Env} (h27 : 0 ≤ ρ.i 27 ∧ ρ.i 27 ≤ 4611686018427387904) (h30 : 0 ≤ ρ.i 30) (h31 : 0 ≤ ρ.i 31) (h29 : ρ.i 29 = (d + e) / 2) (h32 : ρ.i 32 = d) (h33 : ρ.i 33 = e) : good ρ smT = true := by
  obtain ⟨q, r, a1, a2, a3, a4, a5, a6, a7, a8⟩ := sm_q hd
  obtain ⟨u, v, b1, b2, b3, b4, b5, b6, b7, b8⟩ := sm_q he
  have ad : ∀ x y : Int, -9223372036854775808 ≤ x + y → x + y ≤ 9223372036854775807 → arI .add .i64 x y = x + y := fun x y h1 h2 => by
    show IntKind.i64.wrap (x + y) = _
    rw [IntKind.wrap_i64]; omega
  have sb : ∀ x y : Int, -9223372036854775808 ≤ x - y → x - y ≤ 9223372036854775807 → arI .sub .i64 x y = x - y := fun x y h1 h2 => by
    show IntKind.i64.wrap (x - y) = _
    rw [IntKind.wrap_i64]; omega
  have qu : ∀ x : Int, 0 ≤ x → x ≤ 4 → arI .quo .i64 x 2 = x / 2 := fun x h1 h2 => by
    show IntKind.i64.wrap (x.tdiv 2) = _
    rw [Int.tdiv_eq_ediv_of_nonneg h1, IntKind.wrap_i64]; omega
  have n27 : ¬ ρ.i 27 < 0 := by omega
  have n27' : ¬ 4611686018427387904 < ρ.i 27 := by omega
  have n30 : ¬ ρ.i 30 < 0 := by omega
  have n31 : ¬ ρ.i 31 < 0 := by omega
  simp only [smT, good, BE.den, cmpI, IE.den, h29, h32, h33, a1, a2, a3, b1, b2, b3, plI, mxI_max, Int.zero_add, decide_eq_false n27, decide_eq_false n27', decide_eq_false n30, decide_eq_false n31, cond_false]
  by_cases r0 : r < 0 <;> by_cases v0 : v < 0
  · simp only [decide_eq_true r0, decide_eq_true v0, cond_true]
    rw [sb q 1 (by omega) (by omega), sb u 1 (by omega) (by omega), ad (q - 1) (u - 1) (by omega) (by omega), ad (r + 2) (v + 2) (by omega) (by omega), qu _ (by omega) (by omega), ad _ _ (by omega) (by omega)]
    rw [beq_iff_eq.2 (by omega), cond_true]
    simp only [Bool.cond_self]
  · simp only [decide_eq_true r0, decide_eq_false v0, cond_true, cond_false]
    rw [sb q 1 (by omega) (by omega), ad (q - 1) u (by omega) (by omega), ad (r + 2) v (by omega) (by omega), qu _ (by omega) (by omega), ad _ _ (by omega) (by omega)]
    rw [beq_iff_eq.2 (by omega), cond_true]
    simp only [Bool.cond_self]
  · simp only [decide_eq_false r0, decide_eq_true v0, cond_true, cond_false]
    rw [sb u 1 (by omega) (by omega), ad q (u - 1) (by omega) (by omega), ad r (v + 2) (by omega) (by omega), qu _ (by omega) (by omega), ad _ _ (by omega) (by omega)]
    rw [beq_iff_eq.2 (by omega), cond_true]
    simp only [Bool.cond_self]
  · simp only [decide_eq_false r0, decide_eq_false v0, cond_false]
    rw [ad q u (by omega) (by omega), ad r v (by omega) (by omega), qu _ (by omega) (by omega), ad _ _ (by omega) (by omega)]
    rw [beq_iff_eq.2 (by omega), cond_true]
    simp only [Bool.cond_self]
theorem sm_good {d e : Int} (hd : -9223372036854775807 ≤ d ∧ d ≤ 9223372036854775807) (he : -9223372036854775807 ≤ e ∧ e ≤ 9223372036854775807) {ρ : Env} (h29 : ρ.i 29 = (d + e) / 2) (h32 : ρ.i 32 = d) (h33 : ρ.i 33 = e) : good ρ smT = true := by
  by_cases h1 : ρ.i 27 < 0
  · show cond (decide (ρ.i 27 < 0)) true _ = true
    rw [decide_eq_true h1]; rfl
  by_cases h2 : 4611686018427387904 < ρ.i 27
  · show cond _ true (cond (decide (4611686018427387904 < ρ.i 27)) true _) = true
    rw [decide_eq_true h2]; simp only [cond_true, Bool.cond_self]
  by_cases h3 : ρ.i 30 < 0
  · show cond _ true (cond _ true (cond (decide (ρ.i 30 < 0)) true _)) = true
    rw [decide_eq_true h3]; simp only [cond_true, Bool.cond_self]
  by_cases h4 : ρ.i 31 < 0
  · show cond _ true (cond _ true (cond _ true (cond (decide (ρ.i 31 < 0)) true _))) = true
    rw [decide_eq_true h4]; simp only [cond_true, Bool.cond_self]
  exact sm_mean hd he (by omega) (by omega) (by omega) h29 h32 h33
theorem sampleMakes_walk (p0 p1 p2 p3 p4 p5 p6 p7 p8 p9 p10 p11 own h0 h1 h2 h3 h4 h5 h6 h7 h8 h9 h10 h11 h12 bk at0 tot : Int) (k0 : InI p0) (k1 : InI p1) (k2 : InI p2) (k3 : InI p3) (k4 : InI p4) (k5 : InI p5) (k6 : InI p6) (k7 : InI p7) (k8 : InI p8) (k9 : InI p9) (k10 : InI p10) (k11 : InI p11) (k12 : InI own) (k13 : InI h0) (k14 : InI h1) (k15 : InI h2) (k16 : InI h3) (k17 : InI h4) (k18 : InI h5) (k19 : 0 ≤ h6 ∧ h6 ≤ 4294967295) (k20 : 0 ≤ h7 ∧ h7 ≤ 4294967295) (k21 : 0 ≤ h8 ∧ h8 ≤ 4294967295) (k22 : 0 ≤ h9 ∧ h9 ≤ 18446744073709551615) (k23 : 0 ≤ h10 ∧ h10 ≤ 18446744073709551615) (k24 : 0 ≤ h11 ∧ h11 ≤ 18446744073709551615) (k25 : 0 ≤ h12 ∧ h12 ≤ 18446744073709551615) (k26 : 0 ≤ bk ∧ bk ≤ 18446744073709551615) (k27 : InI at0) (k28 : InI tot) (w : World) :
    Calls Try.prog 3 #[.agg #[.int .i64 p0, .int .i64 p1, .int .i64 p2, .int .i64 p3, .int .i64 p4, .int .i64 p5, .int .i64 p6, .int .i64 p7, .int .i64 p8, .int .i64 p9, .int .i64 p10, .int .i64 p11], .int .i64 own, .agg #[.int .i64 h0, .int .i64 h1, .int .i64 h2, .int .i64 h3, .int .i64 h4, .int .i64 h5, .int .u32 h6, .int .u32 h7, .int .u32 h8, .int .u64 h9, .int .u64 h10, .int .u64 h11, .int .u64 h12], .int .u64 bk, .int .i64 at0, .int .i64 tot] w fun e w' => e = .returned (.bool true) ∧ Below w.heap.size w w' := by
  have d0 := eDiff_in bk h10
  have d1 := eDiff_in h12 h11
  have d2 := eDiff_in h11 h10
  have d3 := eDiff_in h12 bk
  refine law_con (ρ := envOf [p0, p1, p2, p3, p4, p5, p6, p7, p8, p9, p10, p11, own, h0, h1, h2, h3, h4, h5, h6, h7, h8, h9, h10, h11, h12, bk, at0, tot, (eDiff h11 h10 + eDiff h12 bk) / 2, eDiff bk h10, eDiff h12 h11, eDiff h11 h10, eDiff h12 bk] (ap := apN)) (rg := smR) (ar := arN) (args := smA) ⟨k0, k1, k2, k3, k4, k5, k6, k7, k8, k9, k10, k11, k12, k13, k14, k15, k16, k17, k18, k19, k20, k21, k22, k23, k24, k25, k26, k27, k28, ⟨by show -9223372036854775807 ≤ (eDiff h11 h10 + eDiff h12 bk) / 2; omega, by show (eDiff h11 h10 + eDiff h12 bk) / 2 ≤ 9223372036854775807; omega⟩, d0, d1, d2, d3, trivial⟩ (arIn_N rfl) (consM_ok (numA_N rfl)) (cr := smK) (fun c hc => ?_) LpOk.none (xs := []) (fun _ _ h => by cases h) (nm := []) (fun p hp => by cases hp) (nz := true) smT (Tree.ok_of_check sm_ok) (sm_good (d := eDiff h11 h10) (e := eDiff h12 bk) d2 d3 rfl rfl rfl) w (ExtIn.none fun _ => rfl)
  simp only [smK, List.mem_cons, List.not_mem_nil, or_false] at hc
  rcases hc with rfl | rfl | rfl | rfl | rfl | rfl | rfl | rfl
  · exact fun φ w _ => shown13 w
  · exact fun φ w _ => offset_any h10 h11 h12 bk k23 k24 k25 k26 w
  · exact fun φ w _ => diff_any bk h10 k26 k23 w
  · exact fun φ w _ => diff_any h12 h11 k25 k24 w
  · exact fun φ w _ => diff2_any bk h10 k26 k23 w
  · exact fun φ w _ => diff2_any h12 h11 k25 k24 w
  · exact fun φ w _ => diff2_any h11 h10 k24 k23 w
  · exact fun φ w _ => diff2_any h12 bk k25 k26 w
end Go.Proofs.Ytopgidgkpafeeaa
