/- Law 18: CombineNear. -/
import Derived.Test.YtopgidgkpafeeaaEvT
namespace Go.Proofs.Ytopgidgkpafeeaa
open Go Go.RowKit Ev
set_option linter.unusedVariables false
set_option linter.unusedSimpArgs false
set_option maxRecDepth 100000

theorem shown18 (w : World) : Calls Try.prog 37 #[] w fun e w' => e = .returned (.bool true) ∧ Below w.heap.size w w' :=
  law_any (is := []) (bs := []) (fs := []) (rg := []) (args := []) trivial (cr := []) (fun c hc => by cases hc) (.leaf (.bool (.lit true))) (n := 2000) (by kernel_rfl) rfl rfl w
/-- a weight of a distance that is no great one -/
noncomputable def cbW (d : Int) : Int := max (apN 8 4294967296 (max d 21474836) 0) 1
theorem mxI_max (a b : Int) : mxI a b = max a b := by unfold mxI; split <;> omega
theorem mnI_min (a b : Int) : mnI a b = min a b := by unfold mnI; split <;> omega
theorem weight_any (d : Int) (hd : InI d) (w : World) : Calls Try.prog 39 #[.int .i64 d] w fun e w' => e = .returned (.int .i64 (cbW d)) ∧ Below w.heap.size w w' :=
  law_any (bs := []) (fs := []) (is := [d]) (rg := [i64R]) (args := [.int .i64 (.var 0)]) ⟨hd, trivial⟩ (cr := []) (fun c hc => by cases hc) (.leaf (.int .i64 (.mx (.ap 8 (.lit 4294967296) (.mx (.var 0) (.lit 21474836)) (.lit 0)) (.lit 1)))) (n := 600) (by kernel_rfl) rfl (by
    show Value.int .i64 (mxI (apN 8 4294967296 (mxI d 21474836) 0) 1) = _
    rw [mxI_max, mxI_max]; rfl) w
theorem cbW_eq {d : Int} (h : 0 ≤ d ∧ d ≤ 4294967295) : cbW d = 18446744073709551616 / max d 21474836 ∧ 4294967297 ≤ cbW d ∧ cbW d ≤ 858993478400 := by
  have hD : 21474836 ≤ max d 21474836 ∧ max d 21474836 ≤ 4294967295 := by omega
  unfold cbW
  generalize max d 21474836 = D at hD
  have h2 : 18446744073709551616 / D < 858993478401 := Int.ediv_lt_of_lt_mul (by omega) (by omega)
  have h3 : 4294967297 ≤ 18446744073709551616 / D := by
    rw [Int.le_ediv_iff_mul_le (by omega)]; omega
  have e : apN 8 4294967296 D 0 = 18446744073709551616 / D := by
    show sat (fDiv 4294967296 D) = _
    unfold fDiv
    rw [if_neg (by decide), if_neg (by omega), Int.fdiv_eq_ediv_of_nonneg _ (by omega)]
    have h1 : (4294967296 * 4294967296 : Int) = 18446744073709551616 := by decide
    rw [h1]
    unfold sat
    omega
  rw [e]
  omega
theorem cbW_mono {a b : Int} (ha : 0 ≤ a) (hab : a ≤ b) (hb : b ≤ 4294967295) : cbW b ≤ cbW a := by
  rw [(cbW_eq (d := a) ⟨ha, by omega⟩).1, (cbW_eq (d := b) ⟨by omega, hb⟩).1]
  have h1 : max a 21474836 ≤ max b 21474836 := by omega
  have h0 : 0 < max a 21474836 := by omega
  generalize max a 21474836 = A at h0 h1
  generalize max b 21474836 = B at h1
  rw [Int.le_ediv_iff_mul_le h0]
  have h2 : 0 ≤ 18446744073709551616 / B := Int.ediv_nonneg (by decide) (by omega)
  have h3 := Int.mul_le_mul_of_nonneg_left h1 h2
  have h4 : 18446744073709551616 / B * B ≤ 18446744073709551616 := Int.ediv_mul_le _ (by omega)
  omega
/-- the mean of two, weighed -/
noncomputable def cbM (x y a b : Int) : Int := apN 10 (apN 8 (apN 1 (apN 1 0 (apN 4 x a 0) 0) (apN 4 y b 0) 0) (apN 1 (apN 1 0 a 0) b 0) 0) (-1125899906842624) 1125899906842624
theorem mul_in {x w : Int} (hx : -2147483648 ≤ x ∧ x ≤ 2147483647) (hw : 0 ≤ w ∧ w ≤ 858993478400) : -2147483648 * w ≤ x * w ∧ x * w ≤ 2147483647 * w := by
  have h1 := Int.mul_le_mul_of_nonneg_right hx.1 hw.1
  have h2 := Int.mul_le_mul_of_nonneg_right hx.2 hw.1
  exact ⟨h1, h2⟩
theorem cbM_at {x y a b : Int} (hx : -2147483648 ≤ x ∧ x ≤ 2147483647) (hy : -2147483648 ≤ y ∧ y ≤ 2147483647) (ha : 4294967297 ≤ a ∧ a ≤ 858993478400) (hb : 4294967297 ≤ b ∧ b ≤ 858993478400) :
    a * (cbM x y a b - x) + b * (cbM x y a b - y) ≤ 0 ∧ 0 < a * (cbM x y a b - x + 2) + b * (cbM x y a b - y + 2) := by
  have hxa := mul_in hx (w := a) ⟨by omega, ha.2⟩
  have hyb := mul_in hy (w := b) ⟨by omega, hb.2⟩
  have e1 : apN 4 x a 0 = x * a / 4294967296 := by
    show sat (x * a / 4294967296) = _
    unfold sat; omega
  have e2 : apN 4 y b 0 = y * b / 4294967296 := by
    show sat (y * b / 4294967296) = _
    unfold sat; omega
  have e3 : apN 1 (apN 1 0 (apN 4 x a 0) 0) (apN 4 y b 0) 0 = x * a / 4294967296 + y * b / 4294967296 := by
    rw [e1, e2]
    show sat (sat (0 + x * a / 4294967296) + y * b / 4294967296) = _
    unfold sat; omega
  have e4 : apN 1 (apN 1 0 a 0) b 0 = a + b := by
    show sat (sat (0 + a) + b) = _
    unfold sat; omega
  unfold cbM
  rw [e3, e4]
  generalize hS : x * a / 4294967296 + y * b / 4294967296 = S
  have hT : 8589934594 ≤ a + b := by omega
  have e5 : apN 8 S (a + b) 0 = sat (S * 4294967296 / (a + b)) := by
    show sat (fDiv S (a + b)) = _
    unfold fDiv
    by_cases h0 : S = 0
    · subst h0; rw [if_pos rfl, Int.zero_mul, Int.zero_ediv]
    · rw [if_neg h0, if_neg (by omega), Int.fdiv_eq_ediv_of_nonneg _ (by omega)]
      unfold sat; omega
  have q1 : (a + b) * (S * 4294967296 / (a + b)) ≤ S * 4294967296 := Int.mul_ediv_self_le (by omega)
  have q2 : S * 4294967296 < (a + b) * (S * 4294967296 / (a + b)) + (a + b) := Int.lt_mul_ediv_self_add (by omega)
  have b1 : S * 4294967296 / (a + b) < 2147483648 * 2 := Int.ediv_lt_of_lt_mul (by omega) (by omega)
  have b2 : -(2147483648 * 4) ≤ S * 4294967296 / (a + b) := by
    rw [Int.le_ediv_iff_mul_le (by omega)]; omega
  rw [e5]
  generalize S * 4294967296 / (a + b) = q at q1 q2 b1 b2
  have e6 : apN 10 (sat q) (-1125899906842624) 1125899906842624 = q := by
    show sat (fClamp (sat q) (-1125899906842624) 1125899906842624) = q
    have : sat q = q := by unfold sat; omega
    rw [this]
    unfold fClamp sat
    rw [if_neg (by omega), if_neg (by omega)]
    omega
  rw [e6]
  rw [Int.add_mul] at q1 q2
  simp only [Int.mul_add, Int.mul_sub]
  rw [Int.mul_comm x a] at hS hxa
  rw [Int.mul_comm y b] at hS hyb
  omega
theorem cbM_in (x y a b : Int) : -1125899906842624 ≤ cbM x y a b ∧ cbM x y a b ≤ 1125899906842624 := by
  unfold cbM
  generalize apN 8 _ _ _ = q
  show -1125899906842624 ≤ sat (fClamp q (-1125899906842624) 1125899906842624) ∧ sat (fClamp q (-1125899906842624) 1125899906842624) ≤ 1125899906842624
  unfold fClamp sat
  split
  · omega
  · split <;> omega
/-- the mean lies near the nearer one -/
theorem cb_near {x y a b q : Int} (hb : 0 < b) (hab : b ≤ a) (h1 : a * (q - x) + b * (q - y) ≤ 0) (h2 : 0 < a * (q - x + 2) + b * (q - y + 2)) :
    (q ≤ x ∨ q ≤ y) ∧ (x - 2 < q ∨ y - 2 < q) ∧ (x ≤ q → q - x ≤ y - q) ∧ (q < x → x - q ≤ 1 ∨ x - q < q - y + 4) := by
  have ha : 0 < a := by omega
  refine ⟨?_, ?_, fun h => ?_, fun h => ?_⟩
  · by_cases h3 : q ≤ x
    · exact .inl h3
    · by_cases h4 : q ≤ y
      · exact .inr h4
      · have := Int.mul_pos ha (show 0 < q - x by omega)
        have := Int.mul_pos hb (show 0 < q - y by omega)
        omega
  · by_cases h3 : x - 2 < q
    · exact .inl h3
    · by_cases h4 : y - 2 < q
      · exact .inr h4
      · have := Int.mul_nonneg (Int.le_of_lt ha) (show 0 ≤ -(q - x + 2) by omega)
        have := Int.mul_nonneg (Int.le_of_lt hb) (show 0 ≤ -(q - y + 2) by omega)
        rw [Int.mul_neg] at *
        omega
  · by_cases h3 : q - x ≤ y - q
    · exact h3
    · have h4 := Int.mul_le_mul_of_nonneg_right hab (show 0 ≤ q - x by omega)
      have h5 := Int.mul_le_mul_of_nonneg_left (show 1 ≤ (q - x) + (q - y) by omega) (Int.le_of_lt hb)
      rw [Int.mul_add] at h5
      omega
  · by_cases h6 : x - q ≤ 1
    · exact .inl h6
    · by_cases h3 : x - q < q - y + 4
      · exact .inr h3
      · have h4 := Int.mul_le_mul_of_nonneg_right hab (show 0 ≤ x - q - 2 by omega)
        have h5 := Int.mul_le_mul_of_nonneg_left (show (q - y + 2) ≤ x - q - 2 by omega) (Int.le_of_lt hb)
        have e : a * (q - x + 2) = -(a * (x - q - 2)) := by rw [← Int.mul_neg]; congr 1; omega
        omega
abbrev cnR : List (Int × Int) := [(0, 4294967295), (0, 4294967295), (-2147483648, 2147483647), (-2147483648, 2147483647), (4294967297, 858993478400), (4294967297, 858993478400), (-1125899906842624, 1125899906842624)]
abbrev cnK : List (FuncId × List SV × SV) := [(37, [], .bool (.lit true)), (39, [.int .i64 (.mn (.var 0) (.var 1))], .int .i64 (.var 4)), (39, [.int .i64 (.mx (.var 0) (.var 1))], .int .i64 (.var 5)), (72, [.int .i64 (.ap 8 (.ap 1 (.ap 1 (.lit 0) (.ap 4 (.var 2) (.var 4) (.lit 0)) (.lit 0)) (.ap 4 (.var 3) (.var 5) (.lit 0)) (.lit 0)) (.ap 1 (.ap 1 (.lit 0) (.var 4) (.lit 0)) (.var 5) (.lit 0)) (.lit 0)), .int .i64 (.lit (-1125899906842624)), .int .i64 (.lit 1125899906842624)], .int .i64 (.var 6))]
def cnRest (e d : IE) : Tree := .node (.cmp .lss (.var 4) (.var 5)) (.leaf (.bool (.lit false))) (.node (.cmp .lss (.pl .add e (.lit 4)) d) (.leaf (.bool (.lit false))) (.node (.cmp .lss (.var 6) (.pl .sub (.mn (.var 2) (.var 3)) (.lit 2))) (.leaf (.bool (.lit false))) (.node (.cmp .lss (.mx (.var 2) (.var 3)) (.var 6)) (.leaf (.bool (.lit false))) (.leaf (.bool (.lit true))))))
abbrev cnD : IE := .pl .sub (.var 6) (.var 2)
abbrev cnE : IE := .pl .sub (.var 6) (.var 3)
def cnT : Tree := .node (.cmp .lss cnD (.lit 0)) (.node (.cmp .lss cnE (.lit 0)) (cnRest (.pl .sub (.lit 0) cnE) (.pl .sub (.lit 0) cnD)) (cnRest cnE (.pl .sub (.lit 0) cnD))) (.node (.cmp .lss cnE (.lit 0)) (cnRest (.pl .sub (.lit 0) cnE) cnD) (cnRest cnE cnD))
theorem cn_ok : cnT.check Try.prog { pc := [], cr := cnK ++ crS, rg := cnR, ar := arN, ct := conCt cnR arN consN } 1000 13 [.int .u32 (.var 0), .int .u32 (.var 1), .int .i32 (.var 2), .int .i32 (.var 3)] = true := by kernel_rfl
theorem combineNear_walk (a b x y : Int) (ha : 0 ≤ a ∧ a ≤ 4294967295) (hb : 0 ≤ b ∧ b ≤ 4294967295) (hx : -2147483648 ≤ x ∧ x ≤ 2147483647) (hy : -2147483648 ≤ y ∧ y ≤ 2147483647) (w : World) :
    Calls Try.prog 13 #[.int .u32 a, .int .u32 b, .int .i32 x, .int .i32 y] w fun e w' => e = .returned (.bool true) ∧ Below w.heap.size w w' := by
  obtain ⟨_, p1, p2⟩ := cbW_eq (d := min a b) (by omega)
  obtain ⟨_, q1, q2⟩ := cbW_eq (d := max a b) (by omega)
  have hmono := cbW_mono (a := min a b) (b := max a b) (by omega) (by omega) (by omega)
  obtain ⟨m1, m2⟩ := cbM_at hx hy ⟨p1, p2⟩ ⟨q1, q2⟩
  have m3 := cbM_in x y (cbW (min a b)) (cbW (max a b))
  have near := cb_near (by omega) hmono m1 m2
  refine law_any (bs := []) (fs := []) (is := [a, b, x, y, cbW (min a b), cbW (max a b), cbM x y (cbW (min a b)) (cbW (max a b))]) (rg := cnR) (args := [.int .u32 (.var 0), .int .u32 (.var 1), .int .i32 (.var 2), .int .i32 (.var 3)])
    ⟨ha, hb, hx, hy, ⟨p1, p2⟩, ⟨q1, q2⟩, m3, trivial⟩ (cr := cnK) (fun c hc => ?_) cnT cn_ok (Tree.whole_live (by kernel_rfl)) ?_ w
  · simp only [cnK, List.mem_cons, List.not_mem_nil, or_false] at hc
    rcases hc with rfl | rfl | rfl | rfl
    · exact fun φ w _ => shown18 w
    · intro φ w _
      show Calls _ _ #[.int .i64 (mnI a b)] w _
      rw [mnI_min]
      exact weight_any (min a b) ⟨by omega, by omega⟩ w
    · intro φ w _
      show Calls _ _ #[.int .i64 (mxI a b)] w _
      rw [mxI_max]
      exact weight_any (max a b) ⟨by omega, by omega⟩ w
    · intro φ w _
      have r := arN_ok 8 (-9223372036854775807, 9223372036854775807) rfl
      exact clamp_any (apN 8 (apN 1 (apN 1 0 (apN 4 x (cbW (min a b)) 0) 0) (apN 4 y (cbW (max a b)) 0) 0) (apN 1 (apN 1 0 (cbW (min a b)) 0) (cbW (max a b)) 0) 0) (-1125899906842624) 1125899906842624 ⟨by have := r (apN 1 (apN 1 0 (apN 4 x (cbW (min a b)) 0) 0) (apN 4 y (cbW (max a b)) 0) 0) (apN 1 (apN 1 0 (cbW (min a b)) 0) (cbW (max a b)) 0) 0; omega, by have := r (apN 1 (apN 1 0 (apN 4 x (cbW (min a b)) 0) 0) (apN 4 y (cbW (max a b)) 0) 0) (apN 1 (apN 1 0 (cbW (min a b)) 0) (cbW (max a b)) 0) 0; omega⟩ ⟨by decide, by decide⟩ ⟨by decide, by decide⟩ w
  · generalize cbM x y (cbW (min a b)) (cbW (max a b)) = q at near m3
    generalize cbW (min a b) = u at hmono
    generalize cbW (max a b) = v at hmono
    simp only [cnT, cnRest, Tree.val, BE.den, cmpI, SV.den, IE.den, Bool.cond_decide, List.getD_cons_zero, List.getD_cons_succ, plI, mxI_max, mnI_min]
    obtain ⟨n1, n2, n3, n4⟩ := near
    repeat' split
    all_goals first
      | rfl
      | (exfalso; omega)
end Go.Proofs.Ytopgidgkpafeeaa
