/- A checked evaluator: a whole function, path by path. -/
import Derived.Test.YthhipnhnpjhaaaaEvR
import Derived.LoadGo3
namespace Go.Proofs.Ythhipnhnpjhaaaa
open Go Go.RowKit
set_option linter.unusedVariables false
namespace Ev

inductive Tree where
  | dead
  | leaf (v : SV)
  | node (c : BE) (t f : Tree)
def Tree.check (P : Program) (X : Ctx) (n : Nat) (f : FuncId) (args : List SV) : Tree → Bool
  | .dead => true
  | .leaf v =>
    match runFn P X n f args with
    | .ok u => u.beq v && v.ids.isEmpty
    | .error _ => false
  | .node c t e => t.check P { X with pc := (c, true) :: X.pc } n f args && e.check P { X with pc := (c, false) :: X.pc } n f args
/-- no path that cannot be is taken -/
def Tree.live (ρ : Env) : Tree → Bool
  | .dead => false
  | .leaf _ => true
  | .node c t e => cond (c.den ρ) (t.live ρ) (e.live ρ)
def Tree.val (ρ : Env) : Tree → Value
  | .dead => undef
  | .leaf v => v.den ρ id
  | .node c t e => cond (c.den ρ) (t.val ρ) (e.val ρ)
/-- an environment out of lists -/
abbrev envOf (is : List Int) (bs : List Bool := []) (fs : List Nat := []) (ss : List ByteArray := []) (ap : Nat → Int → Int → Int → Int := fun _ _ _ _ => 0) (xs : List (Option Ext) := []) : Env :=
  { i := fun n => is.getD n 0, b := fun n => bs.getD n false, f := fun n => fs.getD n 0, s := fun n => ss.getD n ⟨#[]⟩, a := ap, x := fun n => xs.getD n none }
theorem Knows.more {ρ : Env} {X : Ctx} {c : BE} {t : Bool} (h : Knows ρ X) (hc : c.den ρ = t) : Knows ρ { X with pc := (c, t) :: X.pc } :=
  ⟨fun d hd => (by rcases List.mem_cons.1 hd with rfl | hd; exact hc; exact h.pc d hd), h.rg, h.ar, h.xs, h.nm, h.ss, h.nb⟩
theorem KnowsC.more {P : Program} {ρ : Env} {E : List (Nat × Nat)} {X : Ctx} {c : BE} {t : Bool} (h : KnowsC P ρ E X) : KnowsC P ρ E { X with pc := (c, t) :: X.pc } := ⟨h.cr, h.ct, h.lp⟩
/-- each path of the tree is what the evaluator comes to (one theorem a path, if it is a great tree) -/
def Tree.Ok (P : Program) (X : Ctx) (n : Nat) (f : FuncId) (args : List SV) : Tree → Prop
  | .dead => True
  | .leaf v => runFn P X n f args = .ok v ∧ v.ids = []
  | .node c t e => t.Ok P { X with pc := (c, true) :: X.pc } n f args ∧ e.Ok P { X with pc := (c, false) :: X.pc } n f args
theorem Tree.ok_of_check {P : Program} {n : Nat} {f : FuncId} {args : List SV} : ∀ {T : Tree} {X : Ctx}, T.check P X n f args = true → T.Ok P X n f args
  | .dead, X, _ => trivial
  | .leaf v, X, h => by
    simp only [Tree.check] at h
    split at h
    · rename_i u hu
      simp only [Bool.and_eq_true] at h
      have hv := SV.beq_eq h.1
      subst hv
      exact ⟨hu, List.isEmpty_iff.1 h.2⟩
    · cases h
  | .node c t e, X, h => by
    simp only [Tree.check, Bool.and_eq_true] at h
    exact ⟨Tree.ok_of_check h.1, Tree.ok_of_check h.2⟩
theorem tree_soundX {P : Program} (hmix : P.follows .mixedOrders = true) {ρ : Env} {n : Nat} {f : FuncId} {args : List SV} : ∀ (T : Tree) {X : Ctx}, Knows ρ X → KnowsC P ρ [] X → T.Ok P X n f args → T.live ρ = true → ∀ (w : World), ExtIn ρ w →
    Calls P f (SV.denL ρ id args).toArray w fun e w' => e = .returned (T.val ρ) ∧ Below w.heap.size w w'
  | .dead, X, hX, hC, h, hl, w, hx => by cases hl
  | .leaf v, X, hX, hC, h, _, w, hx => by
    refine (run_sound hmix hX hC h.1 id w hx).mono ?_
    rintro e w' ⟨⟨φ', rfl⟩, hb⟩
    refine ⟨?_, hb⟩
    rw [den_congr ρ id φ' v (fun b hb => by rw [h.2] at hb; cases hb)]
    rfl
  | .node c t e, X, hX, hC, h, hl, w, hx => by
    simp only [Tree.live] at hl
    simp only [Tree.val]
    cases hc : c.den ρ with
    | true => exact tree_soundX hmix t (X := { X with pc := (c, true) :: X.pc }) (hX.more hc) (hC.more) h.1 (by rw [hc] at hl; exact hl) w hx
    | false => exact tree_soundX hmix e (X := { X with pc := (c, false) :: X.pc }) (hX.more hc) (hC.more) h.2 (by rw [hc] at hl; exact hl) w hx
theorem tree_sound {P : Program} (hmix : P.follows .mixedOrders = true) {ρ : Env} {n : Nat} {f : FuncId} {args : List SV} (T : Tree) {X : Ctx} (hX : Knows ρ X) (hC : KnowsC P ρ [] X) (hT : T.Ok P X n f args) (hl : T.live ρ = true) (w : World) (hx : ∀ j, ρ.x j = none := by exact fun _ => rfl) :
    Calls P f (SV.denL ρ id args).toArray w fun e w' => e = .returned (T.val ρ) ∧ Below w.heap.size w w' := tree_soundX hmix T hX hC hT hl w (ExtIn.none hx)
/-- a tree without dead ends -/
def Tree.whole : Tree → Bool
  | .dead => false
  | .leaf _ => true
  | .node _ t e => t.whole && e.whole
theorem Tree.whole_live {ρ : Env} : ∀ {T : Tree}, T.whole = true → T.live ρ = true
  | .dead, h => by cases h
  | .leaf _, _ => rfl
  | .node c t e, h => by
    simp only [Tree.whole, Bool.and_eq_true] at h
    simp only [Tree.live, Tree.whole_live h.1, Tree.whole_live h.2]
    cases c.den ρ <;> rfl
theorem knowsC_none {P : Program} {ρ : Env} {E : List (Nat × Nat)} {X : Ctx} (hcr : X.cr = []) (hct : X.ct = fun _ _ _ => none) (hlp : X.lp = fun _ _ _ => none) : KnowsC P ρ E X :=
  ⟨fun c hc => (by rw [hcr] at hc; cases hc), fun pc _ f vs v h => (by rw [hct] at h; cases h), fun f p u L h => (by rw [hlp] at h; cases h)⟩
end Ev
end Go.Proofs.Ythhipnhnpjhaaaa
