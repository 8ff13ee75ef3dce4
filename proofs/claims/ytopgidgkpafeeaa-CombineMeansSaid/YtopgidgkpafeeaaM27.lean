/- What is standard, as the evaluator has it; the contracts of numbers. -/
import Derived.Test.YtopgidgkpafeeaaM23
import Derived.Test.YtopgidgkpafeeaaM26
namespace Go.Proofs.Ytopgidgkpafeeaa
open Go Go.RowKit Ev
set_option linter.unusedVariables false
set_option maxRecDepth 100000

def stdC : SV := .agg [.raw (.float .f64 4593671619917905920), .raw (.float .f64 4643985272004935680), .raw (.float .f64 4652007308841189376), .raw (.float .f64 4557750909289998844), .raw (.float .f64 4534972062662729065), .raw (.float .f64 4609434218613702656), .raw (.float .f64 4616189618054758400), .int .i64 (.lit 6), .int .i64 (.lit 10), .int .i64 (.lit 0), .int .i64 (.lit 1), .int .i64 (.lit 3)]
def stdS : SV := .agg [.int .i64 (.lit 536870912), .int .i64 (.lit 1288490188800), .int .i64 (.lit 4294967296000), .int .i64 (.lit 2147483), .int .i64 (.lit 64424), .int .i64 (.lit 6442450944), .int .i64 (.lit 17179869184), .int .i64 (.lit 6), .int .i64 (.lit 10), .int .i64 (.lit 0), .int .i64 (.lit 1), .int .i64 (.lit 3)]
def crS : List (FuncId × List SV × SV) := [(64, [], stdC), (63, [stdC], .tuple [stdS, .int .i64 (.lit 0), .int .i64 (.lit 0)])]
theorem crS_ok {ρ : Env} : ∀ c ∈ crS, ∀ φ w, ExtIn ρ w → Calls Try.prog c.1 (SV.denL ρ φ c.2.1).toArray w fun e w' => e = .returned (c.2.2.den ρ φ) ∧ Below w.heap.size w w' := by
  intro c hc φ w _
  simp only [crS, List.mem_cons, List.not_mem_nil, or_false] at hc
  rcases hc with rfl | rfl
  · exact standard_any w
  · have h := check_any stdCfg std_ok w
    rw [std_check] at h
    exact h
/-- a call without a variable in its arguments -/
theorem closed_call {f : FuncId} {args : List SV} {v : SV} (h : runFn Try.prog { pc := [], cr := crS } 1000 f args = .ok v) (hv : v.ids = []) (w : World) : Calls Try.prog f (SV.denL (envOf []) id args).toArray w fun e w' => e = .returned (v.den (envOf []) id) ∧ Below w.heap.size w w' :=
  tree_sound (P := Try.prog) mixed (ρ := envOf []) (.leaf v) (X := { pc := [], cr := crS }) (knows_env rfl trivial (fun f v h => by cases h)) ⟨crS_ok, fun pc _ f vs v h => (by cases h), fun f p u L h => (by cases h)⟩ ⟨h, hv⟩ rfl w
/-- a call that is known -/
def Known (P : Program) (ρ : Env) (c : FuncId × List SV × SV) : Prop := ∀ φ w, ExtIn ρ w → Calls P c.1 (SV.denL ρ φ c.2.1).toArray w fun e w' => e = .returned (c.2.2.den ρ φ) ∧ Below w.heap.size w w'
/-- a whole function by its tree, with what is standard, the numbers' contracts, and some calls that are known -/
theorem law_any {is : List Int} {bs : List Bool} {fs : List Nat} {rg : List (Int × Int)} (hin : AllIn (envOf is bs fs (ap := apN)).i rg 0) {cr : List (FuncId × List SV × SV)} (hcr : ∀ c ∈ cr, Known Try.prog (envOf is bs fs (ap := apN)) c)
    (T : Tree) {n : Nat} {f : FuncId} {args : List SV} (hT : T.check Try.prog { pc := [], cr := cr ++ crS, rg := rg, ar := arN, ct := conCt rg arN consN } n f args = true) (hl : T.live (envOf is bs fs (ap := apN)) = true) {v : Value} (hv : T.val (envOf is bs fs (ap := apN)) = v) (w : World) :
    Calls Try.prog f (SV.denL (envOf is bs fs (ap := apN)) id args).toArray w fun e w' => e = .returned v ∧ Below w.heap.size w w' := by
  have h := tree_sound (P := Try.prog) mixed (ρ := envOf is bs fs (ap := apN)) T (X := { pc := [], cr := cr ++ crS, rg := rg, ar := arN, ct := conCt rg arN consN }) (knows_env rfl hin arN_ok)
    ⟨fun c hc φ w hx => (by rcases List.mem_append.1 hc with hc | hc; exact hcr c hc φ w hx; exact crS_ok c hc φ w hx), fun pc hpc f vs v h _ φ w _ => conCt_ok hin.get0 arN_ok (consN_ok (numA_N rfl)) hpc h φ w, fun f p u L h => (by cases h)⟩
    (Tree.ok_of_check hT) hl w
  rw [hv] at h
  exact h
end Go.Proofs.Ytopgidgkpafeeaa
