/- Law 13: the offset of a trip there and back. -/
import Derived.Test.YtopgidgkpafeeaaT13
import Derived.Test.YtopgidgkpafeeaaEvT
namespace Go.Proofs.Ytopgidgkpafeeaa
open Go Go.RowKit Ev
set_option linter.unusedVariables false
set_option linter.unusedSimpArgs false
set_option maxRecDepth 100000

/-- the difference of two times -/
def eDiff (a b : Int) : Int := max (IntKind.i64.wrap (a - b)) (-9223372036854775807)
theorem eDiff_in (a b : Int) : -9223372036854775807 ≤ eDiff a b ∧ eDiff a b ≤ 9223372036854775807 := by
  unfold eDiff; rw [IntKind.wrap_i64]; omega
theorem wr_u64 (x y : Int) : IntKind.i64.wrap (arI .sub .u64 x y) = IntKind.i64.wrap (x - y) := by
  show IntKind.i64.wrap (IntKind.u64.wrap (x - y)) = _
  rw [IntKind.wrap_u64, IntKind.wrap_i64, IntKind.wrap_i64]; omega
abbrev u64P : Int × Int := (0, 18446744073709551615)
theorem diff_any (a b : Int) (ha : 0 ≤ a ∧ a ≤ 18446744073709551615) (hb : 0 ≤ b ∧ b ≤ 18446744073709551615) (w : World) : Calls Try.prog 86 #[.int .u64 a, .int .u64 b] w fun e w' => e = .returned (.int .i64 (eDiff a b)) ∧ Below w.heap.size w w' :=
  law_any (bs := []) (fs := []) (is := [a, b]) (rg := [u64P, u64P]) (args := [.int .u64 (.var 0), .int .u64 (.var 1)]) ⟨ha, hb, trivial⟩ (cr := []) (fun c hc => by cases hc) (.leaf (.int .i64 (.mx (.wr .i64 (.ar .sub .u64 (.var 0) (.var 1))) (.lit (-9223372036854775807))))) (n := 600) (by kernel_rfl) rfl (by
    show Value.int .i64 (mxI (IntKind.i64.wrap (arI .sub .u64 a b)) (-9223372036854775807)) = _
    rw [wr_u64, mxI_le]; rfl) w
/-- the size of a number -/
def iSize (a : Int) : Int := if a < 0 then -a else a
theorem sizeD_any (a : Int) (ha : -9223372036854775807 ≤ a ∧ a ≤ 9223372036854775807) (w : World) : Calls Try.prog 88 #[.int .i64 a] w fun e w' => e = .returned (.tuple #[.int .u64 (iSize a), .bool (decide (a < 0))]) ∧ Below w.heap.size w w' :=
  law_any (bs := []) (fs := []) (is := [a]) (rg := [(-9223372036854775807, 9223372036854775807)]) (args := [.int .i64 (.var 0)]) ⟨ha, trivial⟩ (cr := []) (fun c hc => by cases hc) (.node (.cmp .lss (.var 0) (.lit 0)) (.leaf (.tuple [.int .u64 (.ar .sub .u64 (.lit 0) (.wr .u64 (.var 0))), .bool (.lit true)])) (.leaf (.tuple [.int .u64 (.var 0), .bool (.lit false)]))) (n := 600) (by kernel_rfl) (Tree.whole_live (by kernel_rfl)) (by
    simp only [Tree.val, BE.den, cmpI, SV.den, SV.denL, IE.den, Bool.cond_decide, List.getD_cons_zero]
    unfold iSize
    by_cases h : a < 0
    · rw [if_pos h, if_pos h, decide_eq_true h]
      have : arI .sub .u64 0 (IntKind.u64.wrap a) = -a := by
        show IntKind.u64.wrap (0 - IntKind.u64.wrap a) = -a
        rw [IntKind.wrap_u64, IntKind.wrap_u64]; omega
      rw [this]
    · rw [if_neg h, if_neg h, decide_eq_false h]) w
def ofT : Tree :=
(.node (.cmp .lss (.var 4) (.lit 0))
 (.node (.cmp .lss (.var 5) (.lit 0))
 (.node (.cmp .lss (.pl .add (.pl .add (.lit 0) (.var 6)) (.var 7)) (.pl .add (.lit 0) (.var 6)))
 (.node (.cmp .lss (.lit 0) (.ap 6 (.lit 1) (.pl .sub (.pl .add (.pl .add (.lit 0) (.var 6)) (.var 7)) (.lit 0)) (.lit 2)))
 (.node (.cmp .lss (.ap 5 (.lit 1) (.pl .sub (.pl .add (.pl .add (.lit 0) (.var 6)) (.var 7)) (.lit 0)) (.lit 2)) (.lit 9223372036854775807))
 (.leaf (.int .i64 (.ar .mul .i64 (.lit (-1)) (.mn (.pl .add (.ap 5 (.lit 1) (.pl .sub (.pl .add (.pl .add (.lit 0) (.var 6)) (.var 7)) (.lit 0)) (.lit 2)) (.lit 1)) (.lit 9223372036854775807)))))
 (.leaf (.int .i64 (.ar .mul .i64 (.lit (-1)) (.mn (.ap 5 (.lit 1) (.pl .sub (.pl .add (.pl .add (.lit 0) (.var 6)) (.var 7)) (.lit 0)) (.lit 2)) (.lit 9223372036854775807))))))
 (.leaf (.int .i64 (.ar .mul .i64 (.lit (-1)) (.mn (.ap 5 (.lit 1) (.pl .sub (.pl .add (.pl .add (.lit 0) (.var 6)) (.var 7)) (.lit 0)) (.lit 2)) (.lit 9223372036854775807))))))
 (.node (.cmp .lss (.lit 0) (.pl .add (.pl .add (.lit 0) (.var 6)) (.var 7)))
 (.node (.cmp .lss (.lit 0) (.ap 6 (.lit 0) (.pl .sub (.pl .add (.pl .add (.lit 0) (.var 6)) (.var 7)) (.lit 0)) (.lit 2)))
 (.node (.cmp .lss (.ap 5 (.lit 0) (.pl .sub (.pl .add (.pl .add (.lit 0) (.var 6)) (.var 7)) (.lit 0)) (.lit 2)) (.lit 9223372036854775807))
 (.leaf (.int .i64 (.ar .mul .i64 (.lit (-1)) (.mn (.pl .add (.ap 5 (.lit 0) (.pl .sub (.pl .add (.pl .add (.lit 0) (.var 6)) (.var 7)) (.lit 0)) (.lit 2)) (.lit 1)) (.lit 9223372036854775807)))))
 (.leaf (.int .i64 (.ar .mul .i64 (.lit (-1)) (.mn (.ap 5 (.lit 0) (.pl .sub (.pl .add (.pl .add (.lit 0) (.var 6)) (.var 7)) (.lit 0)) (.lit 2)) (.lit 9223372036854775807))))))
 (.leaf (.int .i64 (.ar .mul .i64 (.lit (-1)) (.mn (.ap 5 (.lit 0) (.pl .sub (.pl .add (.pl .add (.lit 0) (.var 6)) (.var 7)) (.lit 0)) (.lit 2)) (.lit 9223372036854775807))))))
 (.leaf (.int .i64 (.pl .mul (.lit 1) (.mn (.ap 5 (.lit 0) (.pl .sub (.lit 0) (.pl .add (.pl .add (.lit 0) (.var 6)) (.var 7))) (.lit 2)) (.lit 9223372036854775807)))))))
 (.node (.cmp .lss (.pl .add (.lit 0) (.var 7)) (.pl .add (.lit 0) (.var 6)))
 (.node (.cmp .lss (.pl .add (.lit 0) (.var 6)) (.pl .add (.lit 0) (.var 7)))
 (.node (.cmp .lss (.lit 0) (.ap 6 (.lit 18446744073709551615) (.ar .sub .u64 (.pl .add (.lit 0) (.var 6)) (.pl .add (.lit 0) (.var 7))) (.lit 2)))
 (.node (.cmp .lss (.ap 5 (.lit 18446744073709551615) (.ar .sub .u64 (.pl .add (.lit 0) (.var 6)) (.pl .add (.lit 0) (.var 7))) (.lit 2)) (.lit 9223372036854775807))
 (.leaf (.int .i64 (.ar .mul .i64 (.lit (-1)) (.mn (.pl .add (.ap 5 (.lit 18446744073709551615) (.ar .sub .u64 (.pl .add (.lit 0) (.var 6)) (.pl .add (.lit 0) (.var 7))) (.lit 2)) (.lit 1)) (.lit 9223372036854775807)))))
 (.leaf (.int .i64 (.ar .mul .i64 (.lit (-1)) (.mn (.ap 5 (.lit 18446744073709551615) (.ar .sub .u64 (.pl .add (.lit 0) (.var 6)) (.pl .add (.lit 0) (.var 7))) (.lit 2)) (.lit 9223372036854775807))))))
 (.leaf (.int .i64 (.ar .mul .i64 (.lit (-1)) (.mn (.ap 5 (.lit 18446744073709551615) (.ar .sub .u64 (.pl .add (.lit 0) (.var 6)) (.pl .add (.lit 0) (.var 7))) (.lit 2)) (.lit 9223372036854775807))))))
 (.node (.cmp .lss (.lit 0) (.ap 6 (.lit 0) (.ar .sub .u64 (.pl .add (.lit 0) (.var 6)) (.pl .add (.lit 0) (.var 7))) (.lit 2)))
 (.node (.cmp .lss (.ap 5 (.lit 0) (.ar .sub .u64 (.pl .add (.lit 0) (.var 6)) (.pl .add (.lit 0) (.var 7))) (.lit 2)) (.lit 9223372036854775807))
 (.leaf (.int .i64 (.ar .mul .i64 (.lit (-1)) (.mn (.pl .add (.ap 5 (.lit 0) (.ar .sub .u64 (.pl .add (.lit 0) (.var 6)) (.pl .add (.lit 0) (.var 7))) (.lit 2)) (.lit 1)) (.lit 9223372036854775807)))))
 (.leaf (.int .i64 (.ar .mul .i64 (.lit (-1)) (.mn (.ap 5 (.lit 0) (.ar .sub .u64 (.pl .add (.lit 0) (.var 6)) (.pl .add (.lit 0) (.var 7))) (.lit 2)) (.lit 9223372036854775807))))))
 (.leaf (.int .i64 (.ar .mul .i64 (.lit (-1)) (.mn (.ap 5 (.lit 0) (.ar .sub .u64 (.pl .add (.lit 0) (.var 6)) (.pl .add (.lit 0) (.var 7))) (.lit 2)) (.lit 9223372036854775807)))))))
 (.leaf (.int .i64 (.pl .mul (.lit 1) (.mn (.ap 5 (.lit 0) (.ar .sub .u64 (.pl .add (.lit 0) (.var 7)) (.pl .add (.lit 0) (.var 6))) (.lit 2)) (.lit 9223372036854775807)))))))
 (.node (.cmp .lss (.var 5) (.lit 0))
 (.node (.cmp .lss (.pl .add (.lit 0) (.var 6)) (.pl .add (.lit 0) (.var 7)))
 (.node (.cmp .lss (.pl .add (.lit 0) (.var 7)) (.pl .add (.lit 0) (.var 6)))
 (.node (.cmp .lss (.lit 0) (.ap 6 (.lit 18446744073709551615) (.ar .sub .u64 (.pl .add (.lit 0) (.var 7)) (.pl .add (.lit 0) (.var 6))) (.lit 2)))
 (.node (.cmp .lss (.ap 5 (.lit 18446744073709551615) (.ar .sub .u64 (.pl .add (.lit 0) (.var 7)) (.pl .add (.lit 0) (.var 6))) (.lit 2)) (.lit 9223372036854775807))
 (.leaf (.int .i64 (.ar .mul .i64 (.lit (-1)) (.mn (.pl .add (.ap 5 (.lit 18446744073709551615) (.ar .sub .u64 (.pl .add (.lit 0) (.var 7)) (.pl .add (.lit 0) (.var 6))) (.lit 2)) (.lit 1)) (.lit 9223372036854775807)))))
 (.leaf (.int .i64 (.ar .mul .i64 (.lit (-1)) (.mn (.ap 5 (.lit 18446744073709551615) (.ar .sub .u64 (.pl .add (.lit 0) (.var 7)) (.pl .add (.lit 0) (.var 6))) (.lit 2)) (.lit 9223372036854775807))))))
 (.leaf (.int .i64 (.ar .mul .i64 (.lit (-1)) (.mn (.ap 5 (.lit 18446744073709551615) (.ar .sub .u64 (.pl .add (.lit 0) (.var 7)) (.pl .add (.lit 0) (.var 6))) (.lit 2)) (.lit 9223372036854775807))))))
 (.node (.cmp .lss (.lit 0) (.ap 6 (.lit 0) (.ar .sub .u64 (.pl .add (.lit 0) (.var 7)) (.pl .add (.lit 0) (.var 6))) (.lit 2)))
 (.node (.cmp .lss (.ap 5 (.lit 0) (.ar .sub .u64 (.pl .add (.lit 0) (.var 7)) (.pl .add (.lit 0) (.var 6))) (.lit 2)) (.lit 9223372036854775807))
 (.leaf (.int .i64 (.ar .mul .i64 (.lit (-1)) (.mn (.pl .add (.ap 5 (.lit 0) (.ar .sub .u64 (.pl .add (.lit 0) (.var 7)) (.pl .add (.lit 0) (.var 6))) (.lit 2)) (.lit 1)) (.lit 9223372036854775807)))))
 (.leaf (.int .i64 (.ar .mul .i64 (.lit (-1)) (.mn (.ap 5 (.lit 0) (.ar .sub .u64 (.pl .add (.lit 0) (.var 7)) (.pl .add (.lit 0) (.var 6))) (.lit 2)) (.lit 9223372036854775807))))))
 (.leaf (.int .i64 (.ar .mul .i64 (.lit (-1)) (.mn (.ap 5 (.lit 0) (.ar .sub .u64 (.pl .add (.lit 0) (.var 7)) (.pl .add (.lit 0) (.var 6))) (.lit 2)) (.lit 9223372036854775807)))))))
 (.leaf (.int .i64 (.pl .mul (.lit 1) (.mn (.ap 5 (.lit 0) (.ar .sub .u64 (.pl .add (.lit 0) (.var 6)) (.pl .add (.lit 0) (.var 7))) (.lit 2)) (.lit 9223372036854775807))))))
 (.node (.cmp .lss (.pl .add (.pl .add (.lit 0) (.var 6)) (.var 7)) (.pl .add (.lit 0) (.var 6)))
 (.leaf (.int .i64 (.pl .mul (.lit 1) (.mn (.ap 5 (.lit 1) (.pl .sub (.pl .add (.pl .add (.lit 0) (.var 6)) (.var 7)) (.lit 0)) (.lit 2)) (.lit 9223372036854775807)))))
 (.leaf (.int .i64 (.pl .mul (.lit 1) (.mn (.ap 5 (.lit 0) (.pl .sub (.pl .add (.pl .add (.lit 0) (.var 6)) (.var 7)) (.lit 0)) (.lit 2)) (.lit 9223372036854775807))))))))
abbrev ofR : List (Int × Int) := [u64P, u64P, u64P, u64P, (-9223372036854775807, 9223372036854775807), (-9223372036854775807, 9223372036854775807), (0, 9223372036854775807), (0, 9223372036854775807)]
abbrev ofK : List (FuncId × List SV × SV) := [(86, [.int .u64 (.var 1), .int .u64 (.var 0)], .int .i64 (.var 4)), (86, [.int .u64 (.var 2), .int .u64 (.var 3)], .int .i64 (.var 5)), (88, [.int .i64 (.var 4)], .tuple [.int .u64 (.var 6), .bool (.cmp .lss (.var 4) (.lit 0))]), (88, [.int .i64 (.var 5)], .tuple [.int .u64 (.var 7), .bool (.cmp .lss (.var 5) (.lit 0))])]
theorem of_ok : ofT.check Try.prog { pc := [], cr := ofK ++ crS, rg := ofR, ar := arN, ct := conCt ofR arN consN } 1000 52 [.agg [.int .u64 (.var 0), .int .u64 (.var 1), .int .u64 (.var 2), .int .u64 (.var 3)]] = true := by kernel_rfl
theorem ap5_2 (h l : Int) (h0 : 0 ≤ h ∧ h ≤ 1) (l0 : 0 ≤ l ∧ l ≤ 18446744073709551615) : apN 5 h l 2 = (h * 18446744073709551616 + l) / 2 := by
  show (if h < 2 then max 0 (min ((h * 18446744073709551616 + l) / 2) 18446744073709551615) else 0) = _
  rw [if_pos (by omega)]; omega
theorem ap6_2 (h l : Int) (h0 : 0 ≤ h ∧ h ≤ 1) (l0 : 0 ≤ l ∧ l ≤ 18446744073709551615) : apN 6 h l 2 = (h * 18446744073709551616 + l) % 2 := by
  show (if h < 2 then max 0 (min ((h * 18446744073709551616 + l) % 2) 18446744073709551615) else 0) = _
  rw [if_pos (by omega)]; omega
theorem ofT_val (a r s b d e : Int) (hd : -9223372036854775807 ≤ d ∧ d ≤ 9223372036854775807) (he : -9223372036854775807 ≤ e ∧ e ≤ 9223372036854775807) : ofT.val (envOf [a, r, s, b, d, e, iSize d, iSize e] (ap := apN)) = .int .i64 ((d + e) / 2) := by
  have z1 : 0 ≤ iSize d ∧ iSize d ≤ 9223372036854775807 := by unfold iSize; split <;> omega
  have z2 : 0 ≤ iSize e ∧ iSize e ≤ 9223372036854775807 := by unfold iSize; split <;> omega
  have y1 : (d < 0 ∧ iSize d = -d) ∨ (0 ≤ d ∧ iSize d = d) := by unfold iSize; split <;> omega
  have y2 : (e < 0 ∧ iSize e = -e) ∨ (0 ≤ e ∧ iSize e = e) := by unfold iSize; split <;> omega
  generalize iSize d = x at *
  generalize iSize e = y at *
  have mn : ∀ a b : Int, mnI a b = min a b := fun a b => by unfold mnI; split <;> omega
  have w1 : ∀ z : Int, 0 ≤ z → z ≤ 9223372036854775807 → arI .mul .i64 (-1) z = -z := fun z h1 h2 => by
    show IntKind.i64.wrap (-1 * z) = -z
    rw [IntKind.wrap_i64]; omega
  have w2 : ∀ p q : Int, 0 ≤ q → q ≤ p → p ≤ 9223372036854775807 → arI .sub .u64 p q = p - q := fun p q h1 h2 h3 => by
    show IntKind.u64.wrap (p - q) = _
    rw [IntKind.wrap_u64]; omega
  simp only [ofT, Tree.val, BE.den, cmpI, SV.den, IE.den, Bool.cond_decide, List.getD_cons_zero, List.getD_cons_succ, plI, Int.zero_add, Int.sub_zero, mn]
  rw [if_neg (show ¬ x + y < x by omega), if_neg (show ¬ x + y < x by omega)]
  rcases y1 with ⟨h1, e1⟩ | ⟨h1, e1⟩ <;> rcases y2 with ⟨h2, e2⟩ | ⟨h2, e2⟩
  · rw [if_pos h1, if_pos h2, if_pos (show 0 < x + y by omega), ap6_2 0 (x + y) (by decide) (by omega), ap5_2 0 (x + y) (by decide) (by omega)]
    split
    · split
      · rw [w1 _ (by omega) (by omega)]; congr 1; omega
      · rw [w1 _ (by omega) (by omega)]; congr 1; omega
    · rw [w1 _ (by omega) (by omega)]; congr 1; omega
  · rw [if_pos h1, if_neg (by omega)]
    by_cases h3 : y < x
    · rw [if_pos h3, if_neg (by omega), w2 x y (by omega) (by omega) (by omega), ap6_2 0 (x - y) (by decide) (by omega), ap5_2 0 (x - y) (by decide) (by omega)]
      split
      · split
        · rw [w1 _ (by omega) (by omega)]; congr 1; omega
        · rw [w1 _ (by omega) (by omega)]; congr 1; omega
      · rw [w1 _ (by omega) (by omega)]; congr 1; omega
    · rw [if_neg h3, w2 y x (by omega) (by omega) (by omega), ap5_2 0 (y - x) (by decide) (by omega)]
      congr 1; omega
  · rw [if_neg (by omega), if_pos h2]
    by_cases h3 : x < y
    · rw [if_pos h3, if_neg (by omega), w2 y x (by omega) (by omega) (by omega), ap6_2 0 (y - x) (by decide) (by omega), ap5_2 0 (y - x) (by decide) (by omega)]
      split
      · split
        · rw [w1 _ (by omega) (by omega)]; congr 1; omega
        · rw [w1 _ (by omega) (by omega)]; congr 1; omega
      · rw [w1 _ (by omega) (by omega)]; congr 1; omega
    · rw [if_neg h3, w2 x y (by omega) (by omega) (by omega), ap5_2 0 (x - y) (by decide) (by omega)]
      congr 1; omega
  · rw [if_neg (by omega), if_neg (by omega), ap5_2 0 (x + y) (by decide) (by omega)]
    congr 1; omega
theorem offset_any (a r s b : Int) (ha : 0 ≤ a ∧ a ≤ 18446744073709551615) (hr : 0 ≤ r ∧ r ≤ 18446744073709551615) (hs : 0 ≤ s ∧ s ≤ 18446744073709551615) (hb : 0 ≤ b ∧ b ≤ 18446744073709551615) (w : World) :
    Calls Try.prog 52 #[.agg #[.int .u64 a, .int .u64 r, .int .u64 s, .int .u64 b]] w fun e w' => e = .returned (.int .i64 ((eDiff r a + eDiff s b) / 2)) ∧ Below w.heap.size w w' := by
  have d1 := eDiff_in r a
  have d2 := eDiff_in s b
  have z : ∀ x : Int, -9223372036854775807 ≤ x ∧ x ≤ 9223372036854775807 → 0 ≤ iSize x ∧ iSize x ≤ 9223372036854775807 := fun x h => by unfold iSize; split <;> omega
  refine law_any (bs := []) (fs := []) (is := [a, r, s, b, eDiff r a, eDiff s b, iSize (eDiff r a), iSize (eDiff s b)]) (rg := ofR) (args := [.agg [.int .u64 (.var 0), .int .u64 (.var 1), .int .u64 (.var 2), .int .u64 (.var 3)]]) ⟨ha, hr, hs, hb, d1, d2, z _ d1, z _ d2, trivial⟩ (cr := ofK) (fun c hc => ?_) ofT of_ok (Tree.whole_live (by kernel_rfl)) (ofT_val a r s b _ _ d1 d2) w
  simp only [ofK, List.mem_cons, List.not_mem_nil, or_false] at hc
  rcases hc with rfl | rfl | rfl | rfl
  · exact fun φ w _ => diff_any r a hr ha w
  · exact fun φ w _ => diff_any s b hs hb w
  · exact fun φ w _ => sizeD_any _ d1 w
  · exact fun φ w _ => sizeD_any _ d2 w
end Go.Proofs.Ytopgidgkpafeeaa
