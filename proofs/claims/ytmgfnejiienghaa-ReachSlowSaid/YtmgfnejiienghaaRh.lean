/- Law 11: what is standard, what is shown; the reference's powers. -/
import Derived.Test.YtmgfnejiienghaaEvS
namespace Go.Proofs.Ytmgfnejiienghaa
open Go Go.RowKit Ev
set_option linter.unusedVariables false
set_option maxRecDepth 100000

theorem shown11 (w : World) : Calls Try.prog 36 #[] w fun e w' => e = .returned (.bool true) ∧ Below w.heap.size w w' :=
  closed_call (args := []) (v := .bool (.lit true)) (by kernel_rfl) rfl w
theorem standard11 (w : World) : Calls Try.prog 37 #[] w fun e w' => e = .returned (stdS.den (envOf []) id) ∧ Below w.heap.size w w' :=
  closed_call (args := []) (v := stdS) (by kernel_rfl) rfl w
theorem refpow2 (w : World) : Calls Try.prog 42 #[.int .i64 2] w fun e w' => e = .returned (.int .i64 (4294967296 * 2 ^ 2)) ∧ Below w.heap.size w w' :=
  closed_call (args := [.int .i64 (.lit 2)]) (v := .int .i64 (.lit 17179869184)) (by kernel_rfl) rfl w
theorem refpow3 (w : World) : Calls Try.prog 42 #[.int .i64 3] w fun e w' => e = .returned (.int .i64 (4294967296 * 2 ^ 3)) ∧ Below w.heap.size w w' :=
  closed_call (args := [.int .i64 (.lit 3)]) (v := .int .i64 (.lit 34359738368)) (by kernel_rfl) rfl w
theorem refpow4 (w : World) : Calls Try.prog 42 #[.int .i64 4] w fun e w' => e = .returned (.int .i64 (4294967296 * 2 ^ 4)) ∧ Below w.heap.size w w' :=
  closed_call (args := [.int .i64 (.lit 4)]) (v := .int .i64 (.lit 68719476736)) (by kernel_rfl) rfl w
theorem refpow5 (w : World) : Calls Try.prog 42 #[.int .i64 5] w fun e w' => e = .returned (.int .i64 (4294967296 * 2 ^ 5)) ∧ Below w.heap.size w w' :=
  closed_call (args := [.int .i64 (.lit 5)]) (v := .int .i64 (.lit 137438953472)) (by kernel_rfl) rfl w
theorem refpow6 (w : World) : Calls Try.prog 42 #[.int .i64 6] w fun e w' => e = .returned (.int .i64 (4294967296 * 2 ^ 6)) ∧ Below w.heap.size w w' :=
  closed_call (args := [.int .i64 (.lit 6)]) (v := .int .i64 (.lit 274877906944)) (by kernel_rfl) rfl w
theorem refpow7 (w : World) : Calls Try.prog 42 #[.int .i64 7] w fun e w' => e = .returned (.int .i64 (4294967296 * 2 ^ 7)) ∧ Below w.heap.size w w' :=
  closed_call (args := [.int .i64 (.lit 7)]) (v := .int .i64 (.lit 549755813888)) (by kernel_rfl) rfl w
theorem refpow8 (w : World) : Calls Try.prog 42 #[.int .i64 8] w fun e w' => e = .returned (.int .i64 (4294967296 * 2 ^ 8)) ∧ Below w.heap.size w w' :=
  closed_call (args := [.int .i64 (.lit 8)]) (v := .int .i64 (.lit 1099511627776)) (by kernel_rfl) rfl w
theorem refpow9 (w : World) : Calls Try.prog 42 #[.int .i64 9] w fun e w' => e = .returned (.int .i64 (4294967296 * 2 ^ 9)) ∧ Below w.heap.size w w' :=
  closed_call (args := [.int .i64 (.lit 9)]) (v := .int .i64 (.lit 2199023255552)) (by kernel_rfl) rfl w
theorem refpow10 (w : World) : Calls Try.prog 42 #[.int .i64 10] w fun e w' => e = .returned (.int .i64 (4294967296 * 2 ^ 10)) ∧ Below w.heap.size w w' :=
  closed_call (args := [.int .i64 (.lit 10)]) (v := .int .i64 (.lit 4398046511104)) (by kernel_rfl) rfl w
theorem refpow_any (n : Int) (h0 : 2 ≤ n) (h1 : n ≤ 10) (w : World) : Calls Try.prog 42 #[.int .i64 n] w fun e w' => e = .returned (.int .i64 (4294967296 * 2 ^ n.toNat)) ∧ Below w.heap.size w w' := by
  have : n = 2 ∨ n = 3 ∨ n = 4 ∨ n = 5 ∨ n = 6 ∨ n = 7 ∨ n = 8 ∨ n = 9 ∨ n = 10 := by omega
  rcases this with rfl | rfl | rfl | rfl | rfl | rfl | rfl | rfl | rfl
  · exact refpow2 w
  · exact refpow3 w
  · exact refpow4 w
  · exact refpow5 w
  · exact refpow6 w
  · exact refpow7 w
  · exact refpow8 w
  · exact refpow9 w
  · exact refpow10 w
end Go.Proofs.Ytmgfnejiienghaa
