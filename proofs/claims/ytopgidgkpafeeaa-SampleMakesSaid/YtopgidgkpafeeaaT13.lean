/- Law 13: what is standard, what is shown; a sample's age. -/
import Derived.Test.YtopgidgkpafeeaaEvS
namespace Go.Proofs.Ytopgidgkpafeeaa
open Go Go.RowKit Ev
set_option linter.unusedVariables false
set_option linter.unusedSimpArgs false
set_option maxRecDepth 100000

theorem shown13 (w : World) : Calls Try.prog 19 #[] w fun e w' => e = .returned (.bool true) ∧ Below w.heap.size w w' :=
  closed_call (args := []) (v := .bool (.lit true)) (by kernel_rfl) rfl w
theorem standard13 (w : World) : Calls Try.prog 20 #[] w fun e w' => e = .returned (stdS.den (envOf []) id) ∧ Below w.heap.size w w' :=
  closed_call (args := []) (v := stdS) (by kernel_rfl) rfl w
abbrev i64I : Int × Int := (-9223372036854775808, 9223372036854775807)
abbrev k13 : List (FuncId × List SV × SV) := [(19, [], .bool (.lit true)), (20, [], stdS)]
theorem k13_ok {ρ : Env} : ∀ c ∈ k13, Known Try.prog ρ c := by
  intro c hc
  simp only [k13, List.mem_cons, List.not_mem_nil, or_false] at hc
  rcases hc with rfl | rfl
  · exact fun φ w _ => shown13 w
  · exact fun φ w _ => standard13 w
def saT : Tree :=
(.node (.cmp .lss (.mn (.lit 68719476736) (.ap 1 (.var 2) (.ap 4 (.lit 64424) (.mx (.ap 2 (.mx (.var 5) (.var 6)) (.var 3) (.lit 0)) (.lit 0)) (.lit 0)) (.lit 0))) (.mn (.lit 68719476736) (.ap 1 (.var 2) (.ap 4 (.lit 64424) (.mx (.ap 2 (.mn (.var 5) (.var 6)) (.var 3) (.lit 0)) (.lit 0)) (.lit 0)) (.lit 0))))
 (.leaf (.bool (.lit false)))
 (.node (.cmp .eql (.mn (.lit 68719476736) (.ap 1 (.var 2) (.ap 4 (.lit 64424) (.mx (.ap 2 (.var 3) (.var 3) (.lit 0)) (.lit 0)) (.lit 0)) (.lit 0))) (.mn (.mx (.var 2) (.lit (-9223372036854775807))) (.lit 68719476736)))
 (.leaf (.bool (.lit true)))
 (.leaf (.bool (.lit false)))))
theorem mnI_le {a b : Int} : mnI a b = min a b := by unfold mnI; split <;> omega
theorem mxI_le {a b : Int} : mxI a b = max a b := by unfold mxI; split <;> omega
theorem sampleAges_walk (o d p at' t0 a b : Int) (h0 : -9223372036854775808 ≤ o ∧ o ≤ 9223372036854775807) (h1 : -9223372036854775808 ≤ d ∧ d ≤ 9223372036854775807) (h2 : -9223372036854775808 ≤ p ∧ p ≤ 9223372036854775807) (h3 : -9223372036854775808 ≤ at' ∧ at' ≤ 9223372036854775807) (h4 : -9223372036854775808 ≤ t0 ∧ t0 ≤ 9223372036854775807) (h5 : -9223372036854775808 ≤ a ∧ a ≤ 9223372036854775807) (h6 : -9223372036854775808 ≤ b ∧ b ≤ 9223372036854775807) (w : World) :
    Calls Try.prog 4 #[.agg #[.int .i64 o, .int .i64 d, .int .i64 p, .int .i64 at', .int .i64 t0], .int .i64 a, .int .i64 b] w fun e w' => e = .returned (.bool true) ∧ Below w.heap.size w w' := by
  refine law_any (bs := []) (fs := []) (is := [o, d, p, at', t0, a, b]) (rg := [i64I, i64I, i64I, i64I, i64I, i64I, i64I]) (args := [.agg [.int .i64 (.var 0), .int .i64 (.var 1), .int .i64 (.var 2), .int .i64 (.var 3), .int .i64 (.var 4)], .int .i64 (.var 5), .int .i64 (.var 6)])
    ⟨h0, h1, h2, h3, h4, h5, h6, trivial⟩ (cr := k13) k13_ok saT (n := 600) (by kernel_rfl) (Tree.whole_live (by kernel_rfl)) ?_ w
  simp only [saT, Tree.val, BE.den, cmpI, SV.den, IE.den, Bool.cond_decide, List.getD_cons_zero, List.getD_cons_succ, apN, mnI_le, mxI_le]
  rw [if_neg (by unfold sat; omega)]
  have : (min 68719476736 (sat (p + sat (64424 * max (sat (at' - at')) 0 / 4294967296))) == min (max p (-9223372036854775807)) 68719476736) = true := by
    rw [beq_iff_eq]; unfold sat; omega
  rw [this]; rfl
end Go.Proofs.Ytopgidgkpafeeaa
