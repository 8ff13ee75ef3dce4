/- A checked evaluator: ways out; environments that differ in numbers and bools alone. -/
import Derived.Test.YthhipnhnpjhaaaaEvO
namespace Go.Proofs.Ythhipnhnpjhaaaa
open Go Go.RowKit
set_option linter.unusedVariables false
namespace Ev
def exBeq : Ex → Ex → Bool
  | .normal, .normal => true
  | .exit a, .exit b => Nat.beq a b
  | .ret, .ret => true
  | _, _ => false
theorem exBeq_eq {x y : Ex} (h : exBeq x y = true) : x = y := by
  cases x <;> cases y <;> simp_all [exBeq]
/-- they differ in numbers and bools alone -/
structure Env.like (ρ ρ' : Env) : Prop where
  a : ρ'.a = ρ.a
  f : ρ'.f = ρ.f
  s : ρ'.s = ρ.s
  x : ρ'.x = ρ.x
end Ev
end Go.Proofs.Ythhipnhnpjhaaaa
