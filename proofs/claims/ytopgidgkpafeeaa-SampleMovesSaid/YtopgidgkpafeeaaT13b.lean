/- Law 13: what moves. -/
import Derived.Test.YtopgidgkpafeeaaT13
namespace Go.Proofs.Ytopgidgkpafeeaa
open Go Go.RowKit Ev
set_option linter.unusedVariables false
set_option linter.unusedSimpArgs false
set_option maxRecDepth 100000

def smT : Tree :=
(.node (.cmp .eql (.ap 2 (.var 0) (.ap 2 (.var 3) (.lit 0) (.lit 0)) (.lit 0)) (.pl .sub (.var 0) (.var 3)))
 (.node (.cmp .eql (.ap 2 (.ap 2 (.ap 2 (.var 0) (.ap 2 (.var 3) (.lit 0) (.lit 0)) (.lit 0)) (.ap 2 (.lit 0) (.ap 3 (.ap 2 (.lit 0) (.var 1) (.lit 0)) (.lit (-1)) (.lit 0)) (.lit 0)) (.lit 0)) (.mn (.lit 68719476736) (.ap 1 (.var 2) (.ap 4 (.lit 64424) (.mx (.ap 2 (.var 4) (.var 4) (.lit 0)) (.lit 0)) (.lit 0)) (.lit 0))) (.lit 0)) (.ar .sub .i64 (.ap 2 (.ap 2 (.ap 2 (.var 0) (.ap 2 (.lit 0) (.lit 0) (.lit 0)) (.lit 0)) (.ap 2 (.lit 0) (.ap 3 (.ap 2 (.lit 0) (.var 1) (.lit 0)) (.lit (-1)) (.lit 0)) (.lit 0)) (.lit 0)) (.mn (.lit 68719476736) (.ap 1 (.var 2) (.ap 4 (.lit 64424) (.mx (.ap 2 (.var 4) (.var 4) (.lit 0)) (.lit 0)) (.lit 0)) (.lit 0))) (.lit 0)) (.var 3)))
 (.node (.cmp .eql (.ap 1 (.ap 1 (.ap 2 (.var 0) (.ap 2 (.var 3) (.lit 0) (.lit 0)) (.lit 0)) (.ap 2 (.lit 0) (.ap 3 (.ap 2 (.lit 0) (.var 1) (.lit 0)) (.lit (-1)) (.lit 0)) (.lit 0)) (.lit 0)) (.mn (.lit 68719476736) (.ap 1 (.var 2) (.ap 4 (.lit 64424) (.mx (.ap 2 (.var 4) (.var 4) (.lit 0)) (.lit 0)) (.lit 0)) (.lit 0))) (.lit 0)) (.ar .sub .i64 (.ap 1 (.ap 1 (.ap 2 (.var 0) (.ap 2 (.lit 0) (.lit 0) (.lit 0)) (.lit 0)) (.ap 2 (.lit 0) (.ap 3 (.ap 2 (.lit 0) (.var 1) (.lit 0)) (.lit (-1)) (.lit 0)) (.lit 0)) (.lit 0)) (.mn (.lit 68719476736) (.ap 1 (.var 2) (.ap 4 (.lit 64424) (.mx (.ap 2 (.var 4) (.var 4) (.lit 0)) (.lit 0)) (.lit 0)) (.lit 0))) (.lit 0)) (.var 3)))
 (.node (.cmp .lss (.ap 2 (.ap 2 (.ap 2 (.var 0) (.ap 2 (.lit 0) (.lit 0) (.lit 0)) (.lit 0)) (.ap 2 (.lit 0) (.ap 3 (.ap 2 (.lit 0) (.var 1) (.lit 0)) (.lit (-1)) (.lit 0)) (.lit 0)) (.lit 0)) (.mn (.lit 68719476736) (.ap 1 (.var 2) (.ap 4 (.lit 64424) (.mx (.ap 2 (.var 4) (.var 4) (.lit 0)) (.lit 0)) (.lit 0)) (.lit 0))) (.lit 0)) (.ap 2 (.ap 2 (.ap 2 (.var 0) (.ap 2 (.lit 0) (.lit 0) (.lit 0)) (.lit 0)) (.ap 2 (.lit 0) (.ap 3 (.ap 2 (.lit 0) (.var 1) (.lit 0)) (.lit (-1)) (.lit 0)) (.lit 0)) (.lit 0)) (.mn (.lit 68719476736) (.ap 1 (.var 2) (.ap 4 (.lit 64424) (.mx (.ap 2 (.pl .add (.var 4) (.pl .mul (.var 5) (.lit 1000))) (.var 4) (.lit 0)) (.lit 0)) (.lit 0)) (.lit 0))) (.lit 0)))
 (.leaf (.bool (.lit false)))
 (.node (.cmp .lss (.ap 1 (.ap 1 (.ap 2 (.var 0) (.ap 2 (.lit 0) (.lit 0) (.lit 0)) (.lit 0)) (.ap 2 (.lit 0) (.ap 3 (.ap 2 (.lit 0) (.var 1) (.lit 0)) (.lit (-1)) (.lit 0)) (.lit 0)) (.lit 0)) (.mn (.lit 68719476736) (.ap 1 (.var 2) (.ap 4 (.lit 64424) (.mx (.ap 2 (.pl .add (.var 4) (.pl .mul (.var 5) (.lit 1000))) (.var 4) (.lit 0)) (.lit 0)) (.lit 0)) (.lit 0))) (.lit 0)) (.ap 1 (.ap 1 (.ap 2 (.var 0) (.ap 2 (.lit 0) (.lit 0) (.lit 0)) (.lit 0)) (.ap 2 (.lit 0) (.ap 3 (.ap 2 (.lit 0) (.var 1) (.lit 0)) (.lit (-1)) (.lit 0)) (.lit 0)) (.lit 0)) (.mn (.lit 68719476736) (.ap 1 (.var 2) (.ap 4 (.lit 64424) (.mx (.ap 2 (.var 4) (.var 4) (.lit 0)) (.lit 0)) (.lit 0)) (.lit 0))) (.lit 0)))
 (.leaf (.bool (.lit false)))
 (.node (.cmp .lss (.var 0) (.ap 2 (.ap 2 (.ap 2 (.var 0) (.ap 2 (.lit 0) (.lit 0) (.lit 0)) (.lit 0)) (.ap 2 (.lit 0) (.ap 3 (.ap 2 (.lit 0) (.var 1) (.lit 0)) (.lit (-1)) (.lit 0)) (.lit 0)) (.lit 0)) (.mn (.lit 68719476736) (.ap 1 (.var 2) (.ap 4 (.lit 64424) (.mx (.ap 2 (.var 4) (.var 4) (.lit 0)) (.lit 0)) (.lit 0)) (.lit 0))) (.lit 0)))
 (.leaf (.bool (.lit false)))
 (.node (.cmp .lss (.ap 1 (.ap 1 (.ap 2 (.var 0) (.ap 2 (.lit 0) (.lit 0) (.lit 0)) (.lit 0)) (.ap 2 (.lit 0) (.ap 3 (.ap 2 (.lit 0) (.var 1) (.lit 0)) (.lit (-1)) (.lit 0)) (.lit 0)) (.lit 0)) (.mn (.lit 68719476736) (.ap 1 (.var 2) (.ap 4 (.lit 64424) (.mx (.ap 2 (.var 4) (.var 4) (.lit 0)) (.lit 0)) (.lit 0)) (.lit 0))) (.lit 0)) (.var 0))
 (.leaf (.bool (.lit false)))
 (.leaf (.bool (.cmp .eql (.mn (.lit 68719476736) (.ap 1 (.var 2) (.ap 4 (.lit 64424) (.mx (.ap 2 (.lit 4611686018427387904) (.var 4) (.lit 0)) (.lit 0)) (.lit 0)) (.lit 0))) (.lit 68719476736))))))))
 (.leaf (.bool (.lit false))))
 (.leaf (.bool (.lit false))))
 (.leaf (.bool (.lit false))))
theorem ap2 (a b c : Int) : apN 2 a b c = sat (a - b) := rfl
theorem ap1 (a b c : Int) : apN 1 a b c = sat (a + b) := rfl
theorem ap4 (a b c : Int) : apN 4 a b c = sat (a * b / 4294967296) := rfl
theorem ap3_half (x c : Int) : apN 3 x (-1) c = sat (x / 2) := rfl
theorem sampleMoves_walk (o d p : Int) (t : Int) (at' l : Int) (h0 : 0 ≤ o ∧ o ≤ 4294967295) (h1 : 0 ≤ d ∧ d ≤ 4294967295) (h2 : 0 ≤ p ∧ p ≤ 4294967295) (h3 : -2147483648 ≤ t ∧ t ≤ 2147483647) (h4 : 0 ≤ at' ∧ at' ≤ 4294967295) (h5 : 0 ≤ l ∧ l ≤ 4294967295) (w : World) :
    Calls Try.prog 6 #[.int .u32 o, .int .u32 d, .int .u32 p, .int .i32 t, .int .u32 at', .int .u32 l] w fun e w' => e = .returned (.bool true) ∧ Below w.heap.size w w' := by
  refine law_any (bs := []) (fs := []) (is := [o, d, p, t, at', l]) (rg := [(0, 4294967295), (0, 4294967295), (0, 4294967295), (-2147483648, 2147483647), (0, 4294967295), (0, 4294967295)]) (args := [.int .u32 (.var 0), .int .u32 (.var 1), .int .u32 (.var 2), .int .i32 (.var 3), .int .u32 (.var 4), .int .u32 (.var 5)])
    ⟨h0, h1, h2, h3, h4, h5, trivial⟩ (cr := k13) k13_ok smT (n := 600) (by kernel_rfl) (Tree.whole_live (by kernel_rfl)) ?_ w
  have eH : sat (0 - sat (sat (0 - d) / 2)) = -((-d) / 2) := by unfold sat; omega
  have eG0 : min 68719476736 (sat (p + sat (64424 * max (sat (at' - at')) 0 / 4294967296))) = p := by unfold sat; omega
  have eG1 : min 68719476736 (sat (p + sat (64424 * max (sat (at' + l * 1000 - at')) 0 / 4294967296))) = min 68719476736 (p + 64424 * (l * 1000) / 4294967296) := by unfold sat; omega
  have eGz : min 68719476736 (sat (p + sat (64424 * max (sat (4611686018427387904 - at')) 0 / 4294967296))) = 68719476736 := by unfold sat; omega
  have eM0 : sat (o - sat (0 - 0)) = o := by unfold sat; omega
  have eMt : sat (o - sat (t - 0)) = o - t := by unfold sat; omega
  have hH : 0 ≤ -((-d) / 2) ∧ -((-d) / 2) ≤ 4294967296 := by omega
  have hG1 : p ≤ min 68719476736 (p + 64424 * (l * 1000) / 4294967296) ∧ min 68719476736 (p + 64424 * (l * 1000) / 4294967296) ≤ 68719476736 := by omega
  simp only [smT, Tree.val, BE.den, cmpI, SV.den, IE.den, plI, List.getD_cons_zero, List.getD_cons_succ, ap1, ap2, ap3_half, ap4, mnI_le, mxI_le, eH, eG0, eG1, eGz, eM0, eMt]
  generalize -((-d) / 2) = H at hH
  generalize min 68719476736 (p + 64424 * (l * 1000) / 4294967296) = G at hG1
  have s1 : ∀ x : Int, -9223372036854775807 ≤ x → x ≤ 9223372036854775807 → sat x = x := fun x h h' => sat_of ⟨h, h'⟩
  rw [s1 (o - t - H) (by omega) (by omega), s1 (o - t - H - p) (by omega) (by omega), s1 (o - H) (by omega) (by omega), s1 (o - H - p) (by omega) (by omega), s1 (o - t + H) (by omega) (by omega), s1 (o - t + H + p) (by omega) (by omega), s1 (o + H) (by omega) (by omega), s1 (o + H + p) (by omega) (by omega), s1 (o - H - G) (by omega) (by omega), s1 (o + H + G) (by omega) (by omega)]
  have w1 : arI .sub .i64 (o - H - p) t = o - H - p - t := by show IntKind.i64.wrap _ = _; rw [IntKind.wrap_i64]; omega
  have w2 : arI .sub .i64 (o + H + p) t = o + H + p - t := by show IntKind.i64.wrap _ = _; rw [IntKind.wrap_i64]; omega
  rw [w1, w2]
  have b1 : (o - t == o - t) = true := beq_self_eq_true _
  have b2 : (o - t - H - p == o - H - p - t) = true := beq_iff_eq.2 (by omega)
  have b3 : (o - t + H + p == o + H + p - t) = true := beq_iff_eq.2 (by omega)
  rw [b1, b2, b3, decide_eq_false (show ¬ o - H - p < o - H - G by omega), decide_eq_false (show ¬ o + H + G < o + H + p by omega), decide_eq_false (show ¬ o < o - H - p by omega), decide_eq_false (show ¬ o + H + p < o by omega)]
  rfl
end Go.Proofs.Ytopgidgkpafeeaa
