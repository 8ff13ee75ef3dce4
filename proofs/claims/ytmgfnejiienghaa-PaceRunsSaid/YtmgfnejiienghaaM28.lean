/- Several texts in one. -/
import Derived.Test.YtmgfnejiienghaaM27
import Derived.LoadGo3
/- A checked evaluator: a whole function, path by path. -/
namespace Go.Proofs.Ytmgfnejiienghaa
open Go Go.RowKit
set_option linter.unusedVariables false
namespace Ev

inductive Tree where
  | dead
  | leaf (v : SV)
  | node (c : BE) (t f : Tree)
def Tree.check (P : Program) (X : Ctx) (n : Nat) (f : FuncId) (args : List SV) : Tree → Bool
  | .dead => true
  | .leaf v =>
    match runFn P X n f args with
    | .ok u => u.beq v && v.ids.isEmpty
    | .error _ => false
  | .node c t e => t.check P { X with pc := (c, true) :: X.pc } n f args && e.check P { X with pc := (c, false) :: X.pc } n f args
/-- no path that cannot be is taken -/
def Tree.live (ρ : Env) : Tree → Bool
  | .dead => false
  | .leaf _ => true
  | .node c t e => cond (c.den ρ) (t.live ρ) (e.live ρ)
def Tree.val (ρ : Env) : Tree → Value
  | .dead => undef
  | .leaf v => v.den ρ id
  | .node c t e => cond (c.den ρ) (t.val ρ) (e.val ρ)
/-- an environment out of lists -/
abbrev envOf (is : List Int) (bs : List Bool := []) (fs : List Nat := []) (ss : List ByteArray := []) (ap : Nat → Int → Int → Int → Int := fun _ _ _ _ => 0) (xs : List (Option Ext) := []) : Env :=
  { i := fun n => is.getD n 0, b := fun n => bs.getD n false, f := fun n => fs.getD n 0, s := fun n => ss.getD n ⟨#[]⟩, a := ap, x := fun n => xs.getD n none }
theorem Knows.more {ρ : Env} {X : Ctx} {c : BE} {t : Bool} (h : Knows ρ X) (hc : c.den ρ = t) : Knows ρ { X with pc := (c, t) :: X.pc } :=
  ⟨fun d hd => (by rcases List.mem_cons.1 hd with rfl | hd; exact hc; exact h.pc d hd), h.rg, h.ar, h.xs, h.nm, h.ss, h.nb⟩
theorem KnowsC.more {P : Program} {ρ : Env} {E : List (Nat × Nat)} {X : Ctx} {c : BE} {t : Bool} (h : KnowsC P ρ E X) : KnowsC P ρ E { X with pc := (c, t) :: X.pc } := ⟨h.cr, h.ct, h.lp⟩
/-- each path of the tree is what the evaluator comes to (one theorem a path, if it is a great tree) -/
def Tree.Ok (P : Program) (X : Ctx) (n : Nat) (f : FuncId) (args : List SV) : Tree → Prop
  | .dead => True
  | .leaf v => runFn P X n f args = .ok v ∧ v.ids = []
  | .node c t e => t.Ok P { X with pc := (c, true) :: X.pc } n f args ∧ e.Ok P { X with pc := (c, false) :: X.pc } n f args
theorem Tree.ok_of_check {P : Program} {n : Nat} {f : FuncId} {args : List SV} : ∀ {T : Tree} {X : Ctx}, T.check P X n f args = true → T.Ok P X n f args
  | .dead, X, _ => trivial
  | .leaf v, X, h => by
    simp only [Tree.check] at h
    split at h
    · rename_i u hu
      simp only [Bool.and_eq_true] at h
      have hv := SV.beq_eq h.1
      subst hv
      exact ⟨hu, List.isEmpty_iff.1 h.2⟩
    · cases h
  | .node c t e, X, h => by
    simp only [Tree.check, Bool.and_eq_true] at h
    exact ⟨Tree.ok_of_check h.1, Tree.ok_of_check h.2⟩
theorem tree_soundX {P : Program} (hmix : P.follows .mixedOrders = true) {ρ : Env} {n : Nat} {f : FuncId} {args : List SV} : ∀ (T : Tree) {X : Ctx}, Knows ρ X → KnowsC P ρ [] X → T.Ok P X n f args → T.live ρ = true → ∀ (w : World), ExtIn ρ w →
    Calls P f (SV.denL ρ id args).toArray w fun e w' => e = .returned (T.val ρ) ∧ Below w.heap.size w w'
  | .dead, X, hX, hC, h, hl, w, hx => by cases hl
  | .leaf v, X, hX, hC, h, _, w, hx => by
    refine (run_sound hmix hX hC h.1 id w hx).mono ?_
    rintro e w' ⟨⟨φ', rfl⟩, hb⟩
    refine ⟨?_, hb⟩
    rw [den_congr ρ id φ' v (fun b hb => by rw [h.2] at hb; cases hb)]
    rfl
  | .node c t e, X, hX, hC, h, hl, w, hx => by
    simp only [Tree.live] at hl
    simp only [Tree.val]
    cases hc : c.den ρ with
    | true => exact tree_soundX hmix t (X := { X with pc := (c, true) :: X.pc }) (hX.more hc) (hC.more) h.1 (by rw [hc] at hl; exact hl) w hx
    | false => exact tree_soundX hmix e (X := { X with pc := (c, false) :: X.pc }) (hX.more hc) (hC.more) h.2 (by rw [hc] at hl; exact hl) w hx
theorem tree_sound {P : Program} (hmix : P.follows .mixedOrders = true) {ρ : Env} {n : Nat} {f : FuncId} {args : List SV} (T : Tree) {X : Ctx} (hX : Knows ρ X) (hC : KnowsC P ρ [] X) (hT : T.Ok P X n f args) (hl : T.live ρ = true) (w : World) (hx : ∀ j, ρ.x j = none := by exact fun _ => rfl) :
    Calls P f (SV.denL ρ id args).toArray w fun e w' => e = .returned (T.val ρ) ∧ Below w.heap.size w w' := tree_soundX hmix T hX hC hT hl w (ExtIn.none hx)
/-- a tree without dead ends -/
def Tree.whole : Tree → Bool
  | .dead => false
  | .leaf _ => true
  | .node _ t e => t.whole && e.whole
theorem Tree.whole_live {ρ : Env} : ∀ {T : Tree}, T.whole = true → T.live ρ = true
  | .dead, h => by cases h
  | .leaf _, _ => rfl
  | .node c t e, h => by
    simp only [Tree.whole, Bool.and_eq_true] at h
    simp only [Tree.live, Tree.whole_live h.1, Tree.whole_live h.2]
    cases c.den ρ <;> rfl
theorem knowsC_none {P : Program} {ρ : Env} {E : List (Nat × Nat)} {X : Ctx} (hcr : X.cr = []) (hct : X.ct = fun _ _ _ => none) (hlp : X.lp = fun _ _ _ => none) : KnowsC P ρ E X :=
  ⟨fun c hc => (by rw [hcr] at hc; cases hc), fun pc _ f vs v h => (by rw [hct] at h; cases h), fun f p u L h => (by rw [hlp] at h; cases h)⟩
end Ev
end Go.Proofs.Ytmgfnejiienghaa
/- A checked evaluator: pieces of a function, and the heads of loops. -/
namespace Go.Proofs.Ytmgfnejiienghaa
open Go Go.RowKit
set_option linter.unusedVariables false
namespace Ev
variable {P : Program} {ρ : Env} {E : List (Nat × Nat)} {D : List Deferred} {w0 : World} {φ φ0 : Nat → Nat} {st st0 : Store} {w : World}

/-- the piece of code at a place of a function -/
def runC (P : Program) (X : Ctx) (n : Nat) (f : FuncId) (p : List Nat) (u k : Nat) (s : St) : Except Err (Ex × St) :=
  match evCode P X n f p (codeAt P f p) none u k s with
  | .ok (e, _) s' _ _ => .ok (e, s')
  | .err e => .error e
/-- a piece of code, path by path -/
inductive CT where
  | dead
  | leaf (e : Ex) (s : St)
  | node (c : BE) (t f : CT)
def CT.Ok (P : Program) (X : Ctx) (n : Nat) (f : FuncId) (p : List Nat) (u k : Nat) (s : St) : CT → Prop
  | .dead => True
  | .leaf e s' => runC P X n f p u k s = .ok (e, s')
  | .node b t e => t.Ok P { X with pc := (b, true) :: X.pc } n f p u k s ∧ e.Ok P { X with pc := (b, false) :: X.pc } n f p u k s
/-- where a piece comes to -/
def CT.at (ρ : Env) : CT → Option (Ex × St)
  | .dead => none
  | .leaf e s => some (e, s)
  | .node b t f => cond (b.den ρ) (t.at ρ) (f.at ρ)
theorem piece_sound (hmix : P.follows .mixedOrders = true) {n : Nat} {f : FuncId} {p : List Nat} {c : Code} (hcp : codeAt P f p = c) {u k : Nat} {s : St} : ∀ (T : CT) {X : Ctx}, Knows ρ X → KnowsC P ρ E X → T.Ok P X n f p u k s → ∀ {a : Act} {w : World}, RelF P ρ E D w0 φ0 st0 s a w →
    ∀ {Q : Exit → Act → World → Prop} {e : Ex} {s' : St}, T.at ρ = some (e, s') → (∀ a' w' x, RelX P ρ E D w0 φ0 st0 s' e a' w' x → Q x a' w') → c.wpIn (FW none) 0 P Q a w
  | .dead, X, hX, hC, h, a, w, hr, Q, e, s', hat, hQ => by cases hat
  | .leaf e0 s0, X, hX, hC, h, a, w, hr, Q, e, s', hat, hQ => by
    cases hat
    simp only [CT.Ok] at h
    unfold runC at h
    split at h
    · rename_i h1
      cases h
      exact (ev_sound hmix hX hC n).1 _ _ _ none _ _ _ _ _ _ _ _ hcp (by rw [← hcp]; exact h1) D w0 φ0 st0 a w none rfl hr Q hQ
    · cases h
  | .node b t e', X, hX, hC, h, a, w, hr, Q, e, s', hat, hQ => by
    simp only [CT.at] at hat
    cases hb : b.den ρ with
    | true => rw [hb] at hat; exact piece_sound hmix hcp t (X := { X with pc := (b, true) :: X.pc }) (hX.more hb) hC.more h.1 hr hat hQ
    | false => rw [hb] at hat; exact piece_sound hmix hcp e' (X := { X with pc := (b, false) :: X.pc }) (hX.more hb) hC.more h.2 hr hat hQ

/-! another environment for the same state -/
def IE.subst (es : List IE) : IE → IE
  | .lit n => .lit n
  | .var i => es.getD i (.lit 0)
  | .ar op k a b => .ar op k (a.subst es) (b.subst es)
  | .wr k a => .wr k (a.subst es)
  | .mn a b => .mn (a.subst es) (b.subst es)
  | .mx a b => .mx (a.subst es) (b.subst es)
  | .pl op a b => .pl op (a.subst es) (b.subst es)
  | .ap f a b c => .ap f (a.subst es) (b.subst es) (c.subst es)
  | .tab l i => .tab l (i.subst es)
def BE.subst (es : List IE) (bs : List BE) : BE → BE
  | .lit b => .lit b
  | .var i => bs.getD i (.lit false)
  | .cmp op a b => .cmp op (a.subst es) (b.subst es)
  | .not a => .not (a.subst es bs)
  | .and a b => .and (a.subst es bs) (b.subst es bs)
  | .eqb a b => .eqb (a.subst es bs) (b.subst es bs)
/-- blocks keep their names -/
def pi (ps : List (Nat × Nat)) (b : Nat) : Nat := b
mutual
def SV.subst (es : List IE) (bs : List BE) (ps : List (Nat × Nat)) : SV → SV
  | .int k e => .int k (e.subst es)
  | .bool b => .bool (b.subst es bs)
  | .raw v => .raw v
  | .flt k n => .flt k n
  | .str n => .str n
  | .any => .any
  | .ptr b off => .ptr b off
  | .slice b off n c => .slice b off n c
  | .func f a c => .func f (SV.substL es bs ps a) (SV.substL es bs ps c)
  | .iface t v => .iface t (v.subst es bs ps)
  | .agg cs => .agg (SV.substL es bs ps cs)
  | .tuple cs => .tuple (SV.substL es bs ps cs)
  | .xs j => .xs j
  | .xp j e c => .xp j (e.subst es) c
  | .sl b sz n d => .sl b sz n d
  | .bts l => .bts (l.map (IE.subst es))
  | .mp b => .mp b
  | .yld b => .yld b
  | .mark k f p d => .mark k f p d
  | .panv v => .panv (v.subst es bs ps)
  | .pv b off sz n e c => .pv b off sz n (e.subst es) c
def SV.substL (es : List IE) (bs : List BE) (ps : List (Nat × Nat)) : List SV → List SV
  | [] => []
  | v :: vs => v.subst es bs ps :: SV.substL es bs ps vs
end
/-- the environment behind the substitution -/
def Env.to (ρ : Env) (es : List IE) (bs : List BE) : Env :=
  { ρ with i := fun i => (es.getD i (.lit 0)).den ρ, b := fun i => (bs.getD i (.lit false)).den ρ }
theorem IE.subst_den (es : List IE) (bs : List BE) : ∀ e : IE, (e.subst es).den ρ = e.den (ρ.to es bs)
  | .lit n => rfl
  | .var i => rfl
  | .ar op k a b => by simp only [IE.subst, IE.den, IE.subst_den es bs a, IE.subst_den es bs b]
  | .wr k a => by simp only [IE.subst, IE.den, IE.subst_den es bs a]
  | .mn a b => by simp only [IE.subst, IE.den, IE.subst_den es bs a, IE.subst_den es bs b]
  | .mx a b => by simp only [IE.subst, IE.den, IE.subst_den es bs a, IE.subst_den es bs b]
  | .pl op a b => by simp only [IE.subst, IE.den, IE.subst_den es bs a, IE.subst_den es bs b]
  | .ap f a b c => by simp only [IE.subst, IE.den, IE.subst_den es bs a, IE.subst_den es bs b, IE.subst_den es bs c]; rfl
  | .tab l i => by simp only [IE.subst, IE.den, IE.subst_den es bs i]
theorem BE.subst_den (es : List IE) (bs : List BE) : ∀ e : BE, (e.subst es bs).den ρ = e.den (ρ.to es bs)
  | .lit b => rfl
  | .var i => rfl
  | .cmp op a b => by simp only [BE.subst, BE.den, IE.subst_den es bs a, IE.subst_den es bs b]
  | .not a => by simp only [BE.subst, BE.den, BE.subst_den es bs a]
  | .and a b => by simp only [BE.subst, BE.den, BE.subst_den es bs a, BE.subst_den es bs b]
  | .eqb a b => by simp only [BE.subst, BE.den, BE.subst_den es bs a, BE.subst_den es bs b]
theorem substs_den (es : List IE) (bs : List BE) (l : List IE) : (l.map (IE.subst es)).map (IE.den ρ) = l.map (IE.den (ρ.to es bs)) := by
  rw [List.map_map]
  apply List.map_congr_left
  intro e _
  exact IE.subst_den es bs e
mutual
theorem SV.subst_den (es : List IE) (bs : List BE) (ps : List (Nat × Nat)) (φ : Nat → Nat) : ∀ v : SV, (v.subst es bs ps).den ρ φ = v.den (ρ.to es bs) φ
  | .int k e => by simp only [SV.subst, SV.den, IE.subst_den es bs e]
  | .bool b => by simp only [SV.subst, SV.den, BE.subst_den es bs b]
  | .raw v => rfl
  | .flt k n => rfl
  | .str n => rfl
  | .any => rfl
  | .ptr b off => rfl
  | .slice b off n c => rfl
  | .func f a c => by simp only [SV.subst, SV.den, SV.substL_den es bs ps φ a, SV.substL_den es bs ps φ c]
  | .iface t v => by simp only [SV.subst, SV.den, SV.subst_den es bs ps φ v]
  | .agg cs => by simp only [SV.subst, SV.den, SV.substL_den es bs ps φ cs]
  | .tuple cs => by simp only [SV.subst, SV.den, SV.substL_den es bs ps φ cs]
  | .xs j => rfl
  | .xp j e c => by simp only [SV.subst, SV.den, IE.subst_den es bs e]; rfl
  | .sl .. => rfl
  | .bts l => by simp only [SV.subst, SV.den, substs_den es bs l]
  | .mp _ => rfl
  | .yld _ => rfl
  | .mark .. => rfl
  | .panv _ => rfl
  | .pv b off sz n e c => by simp only [SV.subst, SV.den, IE.subst_den es bs e]
theorem SV.substL_den (es : List IE) (bs : List BE) (ps : List (Nat × Nat)) (φ : Nat → Nat) : ∀ l : List SV, SV.denL ρ φ (SV.substL es bs ps l) = SV.denL (ρ.to es bs) φ l
  | [] => rfl
  | v :: l => by simp only [SV.substL, SV.denL, SV.subst_den es bs ps φ v, SV.substL_den es bs ps φ l]
end
theorem substL_eq (es : List IE) (bs : List BE) (ps : List (Nat × Nat)) : ∀ l : List SV, SV.substL es bs ps l = l.map (SV.subst es bs ps)
  | [] => rfl
  | v :: l => by simp only [SV.substL, List.map_cons, substL_eq es bs ps l]
theorem bcOf_subst (es : List IE) (bs : List BE) (ps : List (Nat × Nat)) : ∀ cs : List SV, bcOf (SV.substL es bs ps cs) = match bcOf cs with
    | .row => .row
    | .map l => .map (SV.substL es bs ps l)
    | .dfr x => .dfr x
    | .recd m f p d k i l => .recd m f p d k i (SV.substL es bs ps l)
    | .bad => .bad
  | [] => rfl
  | v :: cs => by
    cases v <;> try rfl
    rename_i m f p d
    simp only [SV.substL, SV.subst, bcOf]
    split <;> try rfl
    cases cs with
    | nil => rfl
    | cons u cs => cases u <;> rfl
theorem isAny_subst {es : List IE} {bs : List BE} {ps : List (Nat × Nat)} {v : SV} (h : v.subst es bs ps = .any) : v = .any := by
  cases v <;> simp [SV.subst] at h ⊢
theorem objOk.subst {es : List IE} {bs : List BE} {ps : List (Nat × Nat)} {φ : Nat → Nat} {b : Nat} {B C : Blk} {o : Obj} (hty : B.ty = C.ty) (hc : SV.substL es bs ps B.cells = C.cells) (h : objOk P ρ φ b C o) : objOk P (ρ.to es bs) φ b B o := by
  unfold objOk at h ⊢
  rw [← hc, bcOf_subst] at h
  cases hbc : bcOf B.cells with
  | row =>
    rw [hbc] at h
    simp only at h ⊢
    rw [SV.substL_den, ← hty] at h
    exact h
  | map l =>
    rw [hbc] at h
    simp only at h ⊢
    rw [SV.substL_den] at h
    exact h
  | dfr x => rw [hbc] at h; cases x <;> exact h
  | bad => rw [hbc] at h; exact h
  | recd m f p d k i l =>
    rw [hbc] at h
    simp only at h ⊢
    obtain ⟨g, qs, as1, body, vs, f0, h1, h2, h3⟩ := h
    refine ⟨g, qs, as1, body, vs, f0, h1, ⟨by rw [h2.1, substL_eq]; simp, fun t v hv => ?_⟩, h3⟩
    rcases h2.2 t (v.subst es bs ps) (by rw [substL_eq, List.getElem?_map, hv]; rfl) with e | e
    · exact .inl (isAny_subst e)
    · exact .inr (by rw [e, SV.subst_den])
/-- the temporaries of the head, one by one: nothing is said of it, or it is what the other state has -/
def tmFits (es : List IE) (bs : List BE) (ps : List (Nat × Nat)) : List SV → List SV → Bool
  | [], [] => true
  | v :: vs, u :: us => (isAny u || (u.subst es bs ps).beq v && !isAny v) && tmFits es bs ps vs us
  | _, _ => false
def stFits (es : List IE) (bs : List BE) (ps : List (Nat × Nat)) (st : Store) : Store → Bool
  | [] => true
  | (b, B) :: r =>
    (match Store.get st (pi ps b) with
     | some C => Nat.beq B.ty C.ty && SV.beqL (SV.substL es bs ps B.cells) C.cells
     | none => false) && stFits es bs ps st r
def distinct : List Nat → Bool
  | [] => true
  | a :: l => l.all (fun b => !Nat.beq a b) && distinct l
/-- may the state s be seen as the head's state h? -/
def fitsB (es : List IE) (bs : List BE) (ps : List (Nat × Nat)) (s h : St) : Bool :=
  s.m.df.isEmpty && h.m.df.isEmpty && tmFits es bs ps s.m.all h.m.all && stFits es bs ps s.st h.st && distinct (h.st.map fun p => pi ps p.1) && distinct (h.st.map (·.1))
  && h.m.all.all (fun v => v.ids.all fun c => (Store.get h.st c).isSome) && h.st.all (fun p => (SV.idsL p.2.cells).all fun c => (Store.get h.st c).isSome)
theorem distinct_spec : ∀ {l : List Nat}, distinct l = true → l.Nodup
  | [], _ => List.nodup_nil
  | a :: l, h => by
    simp only [distinct, Bool.and_eq_true, List.all_eq_true, Bool.not_eq_true'] at h
    refine List.nodup_cons.2 ⟨fun hm => ?_, distinct_spec h.2⟩
    have := h.1 a hm
    simp at this
theorem get_mem : ∀ {st : Store} {b : Nat} {B : Blk}, Store.get st b = some B → (b, B) ∈ st
  | [], b, B, h => by simp [Store.get] at h
  | (c, C) :: st, b, B, h => by
    rw [Store.get_cons] at h
    split at h
    · rename_i hc; subst hc; cases h; simp
    · exact List.mem_cons_of_mem _ (get_mem h)
theorem stFits_spec {es : List IE} {bs : List BE} {ps : List (Nat × Nat)} {st : Store} : ∀ {h : Store}, stFits es bs ps st h = true → ∀ p ∈ h, ∃ C, Store.get st (pi ps p.1) = some C ∧ p.2.ty = C.ty ∧ SV.substL es bs ps p.2.cells = C.cells
  | [], _, p, hp => by cases hp
  | (b, B) :: r, hf, p, hp => by
    simp only [stFits, Bool.and_eq_true] at hf
    rcases List.mem_cons.1 hp with rfl | hp
    · cases hg : Store.get st (pi ps b) with
      | none => simp [hg] at hf
      | some C =>
        simp only [hg, Bool.and_eq_true, Nat.beq_eq] at hf
        exact ⟨C, rfl, hf.1.1, SV.beqL_eq hf.1.2⟩
    · exact stFits_spec hf.2 p hp
theorem tmFits_spec {es : List IE} {bs : List BE} {ps : List (Nat × Nat)} : ∀ {vs us : List SV}, tmFits es bs ps vs us = true → vs.length = us.length ∧ ∀ (t : Nat) u, us[t]? = some u → u = .any ∨ ∃ v, vs[t]? = some v ∧ u.subst es bs ps = v ∧ v ≠ .any
  | [], [], _ => ⟨rfl, fun t u h => by simp at h⟩
  | [], _ :: _, h => by simp [tmFits] at h
  | _ :: _, [], h => by simp [tmFits] at h
  | v :: vs, u :: us, h => by
    simp only [tmFits, Bool.and_eq_true, Bool.or_eq_true, Bool.not_eq_true'] at h
    obtain ⟨h1, h2⟩ := tmFits_spec h.2
    refine ⟨by simp [h1], fun t x hx => ?_⟩
    cases t with
    | zero =>
      simp only [List.getElem?_cons_zero, Option.some.injEq] at hx
      subst hx
      rcases h.1 with h3 | h3
      · left; cases u <;> simp_all [isAny]
      · right
        refine ⟨v, by simp, SV.beq_eq h3.1, fun e => ?_⟩
        subst e; simp [isAny] at h3
    | succ t => simpa using h2 t x (by simpa using hx)
theorem RelF.fits {s h : St} {a : Act} (es : List IE) (bs : List BE) (ps : List (Nat × Nat)) (hr : RelF P ρ E D w0 φ0 st0 s a w) (hf : fitsB es bs ps s h = true) (h0 : st0.all (fun p => (Store.get h.st p.1).isSome && Nat.beq (pi ps p.1) p.1) = true) (hE : ∀ p ∈ ps, ∀ e ∈ E, p.1 ≠ e.1 ∧ p.2 ≠ e.1) : RelF P (ρ.to es bs) E D w0 φ0 st0 h a w := by
  obtain ⟨φ, hs, ht⟩ := hr
  simp only [fitsB, Tm.all_eq, Bool.and_eq_true] at hf
  obtain ⟨⟨⟨⟨⟨⟨⟨d1, d2⟩, f1⟩, f2⟩, f3⟩, f4⟩, f5⟩, f6⟩ := hf
  obtain ⟨t1, t2⟩ := tmFits_spec f1
  have hst := stFits_spec f2
  have h0' : ∀ b, (Store.get st0 b).isSome → (Store.get h.st b).isSome := by
    intro b hb
    obtain ⟨B, hB⟩ := Option.isSome_iff_exists.1 hb
    have := List.all_eq_true.1 h0 (b, B) (get_mem hB)
    simp only [Bool.and_eq_true] at this
    exact this.1
  have hsome : ∀ b, (Store.get h.st b).isSome → (Store.get s.st b).isSome := fun b hb => by
    obtain ⟨B, hB⟩ := Option.isSome_iff_exists.1 hb
    obtain ⟨C, h1, _⟩ := hst (b, B) (get_mem hB)
    rw [show s.st.get b = some C from h1]; rfl
  have hdf : s.m.df = [] := List.isEmpty_iff.1 d1
  have hdf2 : h.m.df = [] := List.isEmpty_iff.1 d2
  refine ⟨φ, ⟨⟨fun b B hb => ?_, fun b B hb c hc => ?_, fun b hb => hs.rel.nz b (hsome b hb), fun b c B C hb hc n1 n2 e => ?_, fun b hb => hs.rel.own b (hsome b hb), hs.rel.os, hs.rel.tape, hs.rel.output, hs.rel.size, hs.rel.fr, hs.rel.xt, fun j B hB b hb => hs.rel.xd j B hB b (hsome b hb)⟩, hs.ext, h0'⟩,
    ⟨by rw [ht.len, t1], by rw [hdf2]; have := ht.df; rw [hdf] at this; exact this, fun t u hu => ?_, fun t u hu c hc => ?_, fun d hd => by rw [hdf2] at hd; cases hd⟩⟩
  · obtain ⟨C, h1, h2, h3⟩ := hst (b, B) (get_mem hb)
    obtain ⟨o, h4, h5⟩ := hs.rel.bl b C h1
    exact ⟨o, h4, h5.subst h2 h3⟩
  · exact List.all_eq_true.1 (List.all_eq_true.1 f6 (b, B) (get_mem hb)) c hc
  · obtain ⟨B', h1, _, h3⟩ := hst (b, B) (get_mem hb)
    obtain ⟨C', h2, _, h4⟩ := hst (c, C) (get_mem hc)
    refine hs.rel.inj b c B' C' h1 h2 (fun e0 => n1 ?_) (fun e0 => n2 ?_) e
    · simp only at h3
      rw [e0, substL_eq] at h3; exact List.map_eq_nil_iff.1 h3
    · simp only at h4
      rw [e0, substL_eq] at h4; exact List.map_eq_nil_iff.1 h4
  · rcases t2 t u hu with h1 | ⟨v, h1, h2, h3⟩
    · exact .inl h1
    · right
      have := (ht.tm t v h1).resolve_left h3
      rw [this, ← h2, SV.subst_den]
  · exact List.all_eq_true.1 (List.all_eq_true.1 f5 u (List.mem_of_getElem? hu)) c hc
/-- a loop, round by round -/
theorem wpIn_loop_ind {F : Fence} {n : Nat} {c : Code} {Q : Exit → Act → World → Prop} (I : Nat → Act → World → Prop) (round : ∀ m a w, I m a w → c.wpIn F n P (Exit.then (fun a' w' => ∃ m', m' < m ∧ I m' a' w') Q) a w) {m : Nat} {a : Act} {w : World} (h : I m a w) : (Code.loop c).wpIn F n P Q a w := by
  intro b k cs hro hb hr
  have key : ∀ j m a w, m < j → I m a w →
      ∃ e a' w', Q e a' w' ∧ ArrivesIn (Machine.fenced P F) P (lone (b.atR a (.code c :: .inLoop c :: k)) cs w) b k cs e a' w' := by
    intro j
    induction j with
    | zero => intro m a w hm; omega
    | succ j ih =>
      intro m a w hm hI
      obtain ⟨e, a₁, w₁, hq, harr⟩ := round m a w hI b (.inLoop c :: k) cs hro hb hr
      cases e with
      | normal =>
        obtain ⟨m', hlt, hI'⟩ := hq
        obtain ⟨e₂, a₂, w₂, hq₂, harr₂⟩ := ih m' a₁ w₁ (by omega) hI'
        exact ⟨e₂, a₂, w₂, hq₂, .of_steps (StepsIn.trans harr (.one (fenced_calm hb hr rfl) stepR_inLoop)) harr₂⟩
      | exit id => exact ⟨_, a₁, w₁, hq, .pass (x := .inLoop c) rfl (fun _ _ => .inl (by simp)) harr⟩
      | goto l => exact ⟨_, a₁, w₁, hq, .pass (x := .inLoop c) rfl (fun _ _ => .inl (by simp)) harr⟩
      | ret => exact ⟨_, a₁, w₁, hq, .pass (x := .inLoop c) rfl (fun _ _ => .inl (by simp)) harr⟩
      | panic ch => exact ⟨_, a₁, w₁, hq, .pass (x := .inLoop c) rfl (fun _ _ => .inl (by simp)) harr⟩
      | outgrown => exact ⟨_, a₁, w₁, hq, .pass (x := .inLoop c) rfl (fun _ _ => .inl (by simp)) harr⟩
  obtain ⟨e, a', w', hq, harr⟩ := key (m + 1) m a w (by omega) h
  exact ⟨e, a', w', hq, .of_steps (.one (fenced_calm hb hr rfl) stepR_loop) harr⟩
/-- the kinds of blocks stay -/
def sameKinds : List (Nat × Blk) → List (Nat × Blk) → Bool
  | (_, B) :: l, (_, C) :: m => (headIs B.cells == headIs C.cells) && sameKinds l m
  | _, _ => true
/-- what a loop's sum must be for its proof to look at the loop's own blocks alone -/
def LoopSum.own (L : LoopSum) : Bool :=
  sameIds L.bl L.bl' && sameKinds L.bl L.bl' && (L.bl.all fun p => !p.2.cells.isEmpty) && distinct (L.bl.map (·.1)) && (L.tm.all fun v => v.ids.all fun c => (Store.get L.bl c).isSome) && (L.bl.all fun p => (SV.idsL p.2.cells).all fun c => (Store.get L.bl c).isSome)
theorem kinds_spec : ∀ {l m : List (Nat × Blk)}, sameIds l m = true → sameKinds l m = true → (l.map (·.1)).Nodup → ∀ b B C, (b, B) ∈ l → (b, C) ∈ m → headIs B.cells = headIs C.cells ∧ B.ty = C.ty
  | [], _, _, _, _, b, B, C, h, _ => by cases h
  | (b1, B1) :: l, [], h, _, _, b, B, C, _, k => by cases k
  | (b1, B1) :: l, (c1, C1) :: m, h, hk, hn, b, B, C, h1, h2 => by
    simp only [sameIds, Bool.and_eq_true, Nat.beq_eq] at h
    simp only [sameKinds, Bool.and_eq_true, beq_iff_eq] at hk
    obtain ⟨⟨e1, e2⟩, e3⟩ := h
    simp only [List.map_cons, List.nodup_cons] at hn
    have hm : ∀ {x : Nat} {X : Blk}, (x, X) ∈ m → ∃ Y, (x, Y) ∈ l := by
      intro x X hx
      obtain ⟨q, hq, e⟩ := (sameIds_mem e3 x).1 ⟨(x, X), hx, rfl⟩
      exact ⟨q.2, by rw [← e]; exact hq⟩
    rcases List.mem_cons.1 h1 with h1 | h1 <;> rcases List.mem_cons.1 h2 with h2 | h2
    · cases h1; cases h2; exact ⟨hk.1, e2⟩
    · cases h1
      obtain ⟨Y, hY⟩ := hm h2
      exact absurd (List.mem_map.2 ⟨_, hY, rfl⟩) hn.1
    · cases h2
      exact absurd (List.mem_map.2 ⟨_, h1, rfl⟩) (by rw [e1] at hn; exact hn.1)
    · exact kinds_spec e3 hk.2 hn.2 b B C h1 h2
theorem Agr.symm {φ φ' : Nat → Nat} {b : Nat} (h : Agr φ φ' b) : Agr φ' φ b := ⟨h.1.symm, h.2.symm⟩
theorem objOk_row {φ : Nat → Nat} {b : Nat} {B : Blk} {o : Obj} (h : objOk P ρ φ b B o) (hc : ∃ c t fr, o = .cells c t fr) : headIs B.cells = false := by
  obtain ⟨c, t, fr, rfl⟩ := hc
  cases hh : headIs B.cells with
  | false => rfl
  | true =>
    exfalso
    unfold objOk at h
    cases hbc : bcOf B.cells with
    | row =>
      cases hcs : B.cells with
      | nil => rw [hcs] at hh; cases hh
      | cons v l =>
        rw [hcs] at hh hbc
        cases v <;> try (simp [headIs] at hh; done)
        simp only [bcOf] at hbc
        split at hbc <;> try (cases hbc; done)
        unfold recOf at hbc
        split at hbc <;> cases hbc
    | map l => rw [hbc] at h; obtain ⟨_, _, h, _⟩ := h; cases h
    | dfr x => rw [hbc] at h; cases x <;> cases h
    | bad => rw [hbc] at h; exact h
    | recd m f p d k i l => rw [hbc] at h; obtain ⟨_, _, _, _, _, _, _, _, h⟩ := h; cases h
theorem get_of_mem : ∀ {l : List (Nat × Blk)} {b : Nat} {B : Blk}, (l.map (·.1)).Nodup → (b, B) ∈ l → Store.get l b = some B
  | [], b, B, _, h => by cases h
  | (c, C) :: l, b, B, hn, h => by
    rw [List.map_cons, List.nodup_cons] at hn
    rw [Store.get_cons]
    rcases List.mem_cons.1 h with h | h
    · cases h; rw [if_pos rfl]
    · rw [if_neg (fun e => hn.1 (by subst e; exact List.mem_map.2 ⟨_, h, rfl⟩))]
      exact get_of_mem hn.2 h
theorem setAll_here : ∀ {l : List (Nat × Blk)} {st : Store} {b : Nat} {B : Blk}, (l.map (·.1)).Nodup → (∀ p ∈ l, (Store.get st p.1).isSome) → (b, B) ∈ l → (setAll st l).get b = some B
  | [], st, b, B, _, _, h => by cases h
  | (c, C) :: l, st, b, B, hn, h1, h => by
    rw [List.map_cons, List.nodup_cons] at hn
    have hc := h1 (c, C) (by simp)
    have h1' : ∀ p ∈ l, (Store.get (Store.set st c C) p.1).isSome := fun p hp => by
      rw [Store.get_set st c p.1 C hc]; split
      · rfl
      · exact h1 p (by simp [hp])
    simp only [setAll]
    rcases List.mem_cons.1 h with h | h
    · cases h
      rw [setAll_get h1' (fun p hp e => hn.1 (List.mem_map.2 ⟨p, hp, e⟩)), Store.get_set st c c C hc, if_pos rfl]
    · exact setAll_here hn.2 h1' h
theorem sameIds_fst : ∀ {l m : List (Nat × Blk)}, sameIds l m = true → l.map (·.1) = m.map (·.1)
  | [], [], _ => rfl
  | [], _ :: _, h => by simp [sameIds] at h
  | _ :: _, [], h => by simp [sameIds] at h
  | (b, B) :: l, (c, C) :: m, h => by
    simp only [sameIds, Bool.and_eq_true, Nat.beq_eq] at h
    simp [h.1.1, sameIds_fst h.2]
theorem lp_frame {c : Code} {L : LoopSum} (hown : L.own = true)
    (hloop : ∀ (w1 : World) (φ1 : Nat → Nat) (a : Act) (D : List Deferred), RelF P ρ (L.bl.map fun p => (p.1, φ1 p.1)) D w1 φ1 L.bl ⟨Tm.ofL L.tm, L.bl⟩ a w1 → ∀ Q : Exit → Act → World → Prop, (∀ a' w', RelF P ρ (L.bl.map fun p => (p.1, φ1 p.1)) D w1 φ1 L.bl ⟨Tm.ofL L.tm', L.bl'⟩ a' w' → Q L.ex.to a' w') → (Code.loop c).wpIn (FW none) 0 P Q a w1) :
    LoopGoes P ρ E L c := by
  intro st hbl D w0 φ0 st0 a w hr Q hQ
  simp only [LoopSum.own, Bool.and_eq_true, List.all_eq_true, Bool.not_eq_true', List.isEmpty_eq_false_iff] at hown
  obtain ⟨⟨⟨⟨⟨o1, ok⟩, one⟩, o2⟩, o3⟩, o4⟩ := hown
  have hnd : (L.bl.map (·.1)).Nodup := distinct_spec o2
  have hnd' : (L.bl'.map (·.1)).Nodup := by rw [← sameIds_fst o1]; exact hnd
  obtain ⟨φ, hs, ht⟩ := hr
  have hin : ∀ b B, Store.get L.bl b = some B → Store.get st b = some B := fun b B hb => hbl (b, B) (get_mem hb)
  have hin' : ∀ b, (Store.get L.bl b).isSome → (Store.get st b).isSome := fun b hb => by
    obtain ⟨B, hB⟩ := Option.isSome_iff_exists.1 hb
    rw [hin b B hB]; rfl
  refine hloop w φ a D ⟨φ, ⟨⟨fun b B hb => hs.rel.bl b B (hin b B hb), fun b B hb c hc => o4 (b, B) (get_mem hb) c hc, fun b hb => hs.rel.nz b (hin' b hb), fun b c B C hb hc n1 n2 e => hs.rel.inj b c B C (hin b B hb) (hin c C hc) n1 n2 e, fun b hb => .inr ?_, rfl, rfl, rfl, Nat.le_refl _, fun _ _ _ => rfl, hs.rel.xt, fun j B hB b hb => hs.rel.xd j B hB b (hin' b hb)⟩, fun _ _ => Agr.refl _ _, fun _ h => h⟩, ⟨ht.len, ht.df, ht.tm, fun t v hv c hc => o3 v (List.mem_of_getElem? hv) c hc, fun d hd => by cases hd⟩⟩ Q (fun a' w' hr' => hQ a' w' ?_)
  · obtain ⟨B, hB⟩ := Option.isSome_iff_exists.1 hb
    exact ⟨(b, φ b), List.mem_map.2 ⟨(b, B), get_mem hB, rfl⟩, rfl⟩
  · obtain ⟨φ', hs', ht'⟩ := hr'
    have hids : ∀ b, (Store.get L.bl' b).isSome → (Store.get L.bl b).isSome := fun b hb => by
      obtain ⟨B, hB⟩ := Option.isSome_iff_exists.1 hb
      obtain ⟨q, hq, e⟩ := (sameIds_mem o1 b).1 ⟨(b, B), get_mem hB, rfl⟩
      obtain ⟨q1, q2⟩ := q
      simp only at e
      subst e
      rw [get_of_mem hnd hq]; rfl
    have heq : ∀ b, (Store.get L.bl' b).isSome → Agr φ' φ b := fun b hb => (hs'.ext b (hids b hb)).symm
    have hall : ∀ p ∈ L.bl', (Store.get st p.1).isSome := fun p hp => by
      obtain ⟨q, hq, e⟩ := (sameIds_mem o1 p.1).1 ⟨p, hp, rfl⟩
      rw [← e, hbl q hq]; rfl
    have hsome : ∀ b, ((setAll st L.bl').get b).isSome = (Store.get st b).isSome := fun b => setAll_some hall
    have hcase : ∀ b B, (setAll st L.bl').get b = some B → (Store.get L.bl' b = some B) ∨ (Store.get st b = some B ∧ ∀ p ∈ L.bl, p.1 ≠ b) := by
      intro b B hb
      by_cases hm : ∃ p ∈ L.bl', p.1 = b
      · obtain ⟨⟨q1, q2⟩, hq, e⟩ := hm
        simp only at e
        subst e
        rw [setAll_here hnd' hall hq] at hb
        cases hb
        exact .inl (get_of_mem hnd' hq)
      · have hno : ∀ p ∈ L.bl', p.1 ≠ b := fun p hp e => hm ⟨p, hp, e⟩
        rw [setAll_get hall hno] at hb
        exact .inr ⟨hb, fun p hp e => hm ((sameIds_mem o1 b).2 ⟨p, hp, e⟩)⟩
    refine ⟨φ, ⟨⟨fun b B hb => ?_, fun b B hb c hc => ?_, fun b hb => hs.rel.nz b (by rw [hsome] at hb; exact hb), fun b c B C hb hc n1 n2 e => ?_, fun b hb => ?_, hs'.rel.os.trans hs.rel.os, hs'.rel.tape.trans hs.rel.tape, hs'.rel.output.trans hs.rel.output, Nat.le_trans hs.rel.size hs'.rel.size, fun k hk he => ?_, hs'.rel.xt, fun j B hB b hb => (by rw [hsome] at hb; exact hs.rel.xd j B hB b hb)⟩, hs.ext, fun b hb => ?_⟩, ⟨ht'.len, ht'.df, fun t v hv => ?_, fun t v hv c hc => ?_, fun d hd => by cases hd⟩⟩
    · rcases hcase b B hb with h | ⟨h, hno⟩
      · obtain ⟨o, h1, h2⟩ := hs'.rel.bl b B h
        have hb' := heq b (by rw [h]; rfl)
        exact ⟨o, by rw [hb'.1]; exact h1, h2.congr hb' (fun c hc => heq c (hs'.rel.cl b B h c hc))⟩
      · obtain ⟨o, h1, h2⟩ := hs.rel.bl b B h
        have hlt : φ b < w.heap.size := (Array.getElem?_eq_some_iff.1 h1).1
        by_cases hal : ∃ p ∈ L.bl, φ p.1 = φ b
        · -- nothing is said of it but what it is
          obtain ⟨p, hp, e⟩ := hal
          have hBe : B.cells = [] := Classical.byContradiction fun hne => hno p hp (hs.rel.inj p.1 b p.2 B (hbl p hp) h (one p hp) hne e)
          obtain ⟨rest, fr, k1, k2, k3⟩ := hs.rel.row h (by rw [hBe]; rfl)
          obtain ⟨o1', k4, k5⟩ := hs.rel.bl p.1 p.2 (hbl p hp)
          rw [e] at k4
          rw [k1] at k4
          have hrow := objOk_row k5 ⟨_, _, _, (Option.some.inj k4).symm⟩
          obtain ⟨rest1, fr1, k6, k7, _⟩ := hs.rel.row (hbl p hp) hrow
          rw [e, k1] at k6
          simp only [Option.some.injEq, Obj.cells.injEq] at k6
          obtain ⟨e1, e2, _⟩ := k6
          have hcap : φ (capK b) = φ (capK p.1) := by
            rw [← k2, ← k7]
            have := congrArg Array.size e1
            simpa using this
          obtain ⟨q, hq, eq⟩ := (sameIds_mem o1 p.1).2 ⟨p, hp, rfl⟩
          obtain ⟨q1, Q1⟩ := q
          simp only at eq
          subst eq
          have hk2 := kinds_spec o1 ok hnd p.1 p.2 Q1 (by exact hp) hq
          have hg' := get_of_mem hnd' hq
          obtain ⟨rest2, fr2, m1, m2, m3⟩ := hs'.rel.row hg' (by rw [← hk2.1]; exact hrow)
          have hag := heq p.1 (by rw [hg']; rfl)
          rw [← hag.1, e] at m1
          refine ⟨_, m1, ?_⟩
          unfold objOk
          rw [hBe, show bcOf [] = .row from rfl]
          simp only
          refine ⟨SV.denL ρ φ' Q1.cells ++ rest2, fr2, by rw [e2, hk2.2]; rfl, ?_, ?_⟩
          · rw [hcap, hag.2]; simpa [SV.denL] using m2
          · rw [hcap, hag.2]; exact m3
        · refine ⟨o, ?_, h2⟩
          rw [hs'.rel.fr (φ b) hlt (fun e he heq' => ?_)]
          · exact h1
          · obtain ⟨p, hp, rfl⟩ := List.mem_map.1 he
            exact hal ⟨p, hp, heq'⟩
    · rw [hsome]
      rcases hcase b B hb with h | ⟨h, _⟩
      · exact hin' c (hids c (hs'.rel.cl b B h c hc))
      · exact hs.rel.cl b B h c hc
    · have ne : ∀ b B, (setAll st L.bl').get b = some B → B.cells ≠ [] → ∃ B0, Store.get st b = some B0 ∧ B0.cells ≠ [] := by
        intro b B hb hn
        rcases hcase b B hb with h | ⟨h, _⟩
        · obtain ⟨B0, hB0⟩ := Option.isSome_iff_exists.1 (hids b (by rw [h]; rfl))
          exact ⟨B0, hin b B0 hB0, one (b, B0) (get_mem hB0)⟩
        · exact ⟨B, h, hn⟩
      obtain ⟨B0, hB0, n1'⟩ := ne b B hb n1
      obtain ⟨C0, hC0, n2'⟩ := ne c C hc n2
      exact hs.rel.inj b c B0 C0 hB0 hC0 n1' n2' e
    · rw [hsome] at hb
      exact hs.rel.own b hb
    · rw [hs'.rel.fr k (Nat.lt_of_lt_of_le hk hs.rel.size) (fun e hem heq' => ?_)]
      · exact hs.rel.fr k hk he
      · obtain ⟨p, hp, rfl⟩ := List.mem_map.1 hem
        simp only at heq'
        rcases hs.rel.own p.1 (by rw [hbl p hp]; rfl) with h1 | ⟨e', h1, h2⟩
        · omega
        · exact he e' h1 (by rw [h2, heq'])
    · rw [hsome]; exact hs.dom b hb
    · rcases ht'.tm t v hv with h1 | h1
      · exact .inl h1
      · right
        rw [h1, den_congr ρ φ' φ v (fun c hc => heq c (ht'.cl t v hv c hc))]
    · rw [hsome]
      exact hin' c (hids c (ht'.cl t v hv c hc))
/-- a function's beginning and end -/
theorem fn_start {f : FuncId} {fn : Func} {c : Code} {args : List SV} {R : Ending → World → Prop} (hf : P.funcs[f]? = some fn) (hb : fn.body = some c) (hids : SV.idsL args = []) (hx : ExtIn ρ w)
    (h : ∀ a, RelF P ρ [] [] w id [] ⟨Tm.ofL (args ++ List.replicate (fn.ntmps - args.length) (SV.raw undef)), []⟩ a w → c.wpIn (FW none) 0 P (bodyPostM (FW none) 0 P fn R) a w) : Calls P f (SV.denL ρ id args).toArray w R := by
  refine calls_FW (r := none) (n := 0) (callsIn_of_wp_marks hf hb trivial (h _ ⟨id, Step.refl ⟨fun b B hb => (by simp [Store.get] at hb), fun b B hb => (by simp [Store.get] at hb), fun b hb => (by simp [Store.get] at hb), fun b c B C hb => (by simp [Store.get] at hb), fun b hb => (by simp [Store.get] at hb), rfl, rfl, rfl, Nat.le_refl _, fun _ _ _ => rfl, hx, fun j B hB b hb => (by simp [Store.get] at hb)⟩,
    ⟨by show _ = (args ++ List.replicate (fn.ntmps - args.length) (SV.raw undef)).length; simp [denL_length], rfl, fun t u hu => .inr ?_, fun t u hu d hd => ?_, fun d hd => by cases hd⟩⟩))
  all_goals replace hu : (args ++ List.replicate (fn.ntmps - args.length) (SV.raw undef))[t]? = some u := hu
  · rw [List.getElem?_append] at hu
    rw [Array.getElem?_append]
    simp only [List.size_toArray, denL_length]
    split at hu
    · rename_i hlt
      rw [if_pos hlt]
      simp [denL_map, hu]
    · rename_i hlt
      rw [if_neg hlt]
      rw [List.getElem?_replicate] at hu
      split at hu
      · rename_i hlt2
        cases hu
        simp [hlt2, SV.den]
      · cases hu
  · rw [List.getElem?_append] at hu
    split at hu
    · have := mem_idsL.2 ⟨u, List.mem_of_getElem? hu, hd⟩
      rw [hids] at this; cases this
    · rw [List.getElem?_replicate] at hu
      split at hu
      · cases hu; simp [SV.ids] at hd
      · cases hu
def resS (P : Program) (fn : Func) (s : St) : Option SV :=
  match evResults P fn.results.toList s with
  | .ok vs _ _ _ => some (oneOf vs)
  | .err _ => none
theorem fn_end {fn : Func} {s : St} {v : SV} {a : Act} {w' : World} {V : Value} {x : Exit} (hx : x = .normal ∨ x = .ret) (hr : RelF P ρ [] [] w φ0 st0 s a w') (hdf : s.m.df = []) (hres : resS P fn s = some v) (hids : v.ids = []) (hv : v.den ρ id = V) :
    bodyPostM (FW none) 0 P fn (fun e w' => e = .returned V ∧ Below w.heap.size w w') x a w' := by
  unfold resS at hres
  split at hres
  · rename_i vs s' r wl h
    cases hres
    obtain ⟨φ, hs, ht⟩ := hr
    have hrun := results_run h hs.rel ht
    have hd : a.defers = [] := by have := ht.df; rw [hdf] at this; exact this
    have hb : LeavesInM (FW none) 0 P fn a.tmps (fun e w' => e = .returned V ∧ Below w.heap.size w w') a.defers .returning w' := by
      rw [hd]
      refine ⟨_, hrun, ?_, ⟨hs.rel.os, hs.rel.tape, hs.rel.output, hs.rel.size, fun k hk => hs.rel.fr k hk (by simp)⟩⟩
      rw [den_congr ρ id φ _ (fun b hb => by rw [hids] at hb; cases hb), hv]
    rcases hx with rfl | rfl <;> exact hb
  · cases hres
end Ev
end Go.Proofs.Ytmgfnejiienghaa
/- A checked evaluator: environments that agree where they are asked. -/
namespace Go.Proofs.Ytmgfnejiienghaa
open Go Go.RowKit
set_option linter.unusedVariables false
namespace Ev
variable {P : Program} {ρ ρ' : Env} {E : List (Nat × Nat)} {D : List Deferred} {w0 : World} {φ φ0 : Nat → Nat} {st st0 : Store} {w : World}

def IE.vb (n : Nat) : IE → Bool
  | .lit _ => true
  | .var i => Nat.blt i n
  | .ar _ _ a b => a.vb n && b.vb n
  | .wr _ a => a.vb n
  | .mn a b => a.vb n && b.vb n
  | .mx a b => a.vb n && b.vb n
  | .pl _ a b => a.vb n && b.vb n
  | .ap _ a b c => a.vb n && b.vb n && c.vb n
  | .tab _ i => i.vb n
def BE.vb (n m : Nat) : BE → Bool
  | .lit _ => true
  | .var i => Nat.blt i m
  | .cmp _ a b => a.vb n && b.vb n
  | .not a => a.vb n m
  | .and a b => a.vb n m && b.vb n m
  | .eqb a b => a.vb n m && b.vb n m
mutual
def SV.vb (n m : Nat) : SV → Bool
  | .int _ e => e.vb n
  | .bool b => b.vb n m
  | .func _ a c => SV.vbL n m a && SV.vbL n m c
  | .iface _ v => v.vb n m
  | .agg cs => SV.vbL n m cs
  | .tuple cs => SV.vbL n m cs
  | .xp _ e _ => e.vb n
  | .bts l => l.all (IE.vb n)
  | .panv v => v.vb n m
  | .pv _ _ _ _ e _ => e.vb n
  | _ => true
def SV.vbL (n m : Nat) : List SV → Bool
  | [] => true
  | v :: vs => v.vb n m && SV.vbL n m vs
end
/-- they agree on the first n numbers and m bools, and on all else -/
structure Env.eqTo (ρ ρ' : Env) (n m : Nat) : Prop where
  i : ∀ j, j < n → ρ'.i j = ρ.i j
  b : ∀ j, j < m → ρ'.b j = ρ.b j
  a : ρ'.a = ρ.a
  f : ρ'.f = ρ.f
  s : ρ'.s = ρ.s
  x : ρ'.x = ρ.x
section
variable {n m : Nat} (hE : ρ.eqTo ρ' n m)
include hE
theorem IE.vb_den : ∀ {e : IE}, e.vb n = true → e.den ρ' = e.den ρ
  | .lit _, _ => rfl
  | .var i, h => hE.i i (by simpa [IE.vb, Nat.blt_eq] using h)
  | .ar op k a b, h => by
    simp only [IE.vb, Bool.and_eq_true] at h
    simp only [IE.den, IE.vb_den h.1, IE.vb_den h.2]
  | .wr k a, h => by
    simp only [IE.vb] at h
    simp only [IE.den, IE.vb_den h]
  | .mn a b, h => by
    simp only [IE.vb, Bool.and_eq_true] at h
    simp only [IE.den, IE.vb_den h.1, IE.vb_den h.2]
  | .mx a b, h => by
    simp only [IE.vb, Bool.and_eq_true] at h
    simp only [IE.den, IE.vb_den h.1, IE.vb_den h.2]
  | .pl op a b, h => by
    simp only [IE.vb, Bool.and_eq_true] at h
    simp only [IE.den, IE.vb_den h.1, IE.vb_den h.2]
  | .ap f a b c, h => by
    simp only [IE.vb, Bool.and_eq_true] at h
    simp only [IE.den, IE.vb_den h.1.1, IE.vb_den h.1.2, IE.vb_den h.2, hE.a]
  | .tab l i, h => by
    simp only [IE.vb] at h
    simp only [IE.den, IE.vb_den h]
theorem BE.vb_den : ∀ {e : BE}, e.vb n m = true → e.den ρ' = e.den ρ
  | .lit _, _ => rfl
  | .var i, h => hE.b i (by simpa [BE.vb, Nat.blt_eq] using h)
  | .cmp op a b, h => by
    simp only [BE.vb, Bool.and_eq_true] at h
    simp only [BE.den, IE.vb_den hE h.1, IE.vb_den hE h.2]
  | .not a, h => by
    simp only [BE.vb] at h
    simp only [BE.den, BE.vb_den h]
  | .and a b, h => by
    simp only [BE.vb, Bool.and_eq_true] at h
    simp only [BE.den, BE.vb_den h.1, BE.vb_den h.2]
  | .eqb a b, h => by
    simp only [BE.vb, Bool.and_eq_true] at h
    simp only [BE.den, BE.vb_den h.1, BE.vb_den h.2]
end
mutual
theorem SV.vb_den {n m : Nat} (hE : ρ.eqTo ρ' n m) (φ : Nat → Nat) : ∀ {v : SV}, v.vb n m = true → v.den ρ' φ = v.den ρ φ
  | .int k e, h => by simp only [SV.vb] at h; simp only [SV.den, IE.vb_den hE h]
  | .bool b, h => by simp only [SV.vb] at h; simp only [SV.den, BE.vb_den hE h]
  | .raw _, _ => rfl
  | .flt k j, _ => by simp only [SV.den, hE.f]
  | .str j, _ => by simp only [SV.den, hE.s]
  | .any, _ => rfl
  | .ptr _ _, _ => rfl
  | .slice _ _ _ _, _ => rfl
  | .func f a c, h => by
    simp only [SV.vb, Bool.and_eq_true] at h
    simp only [SV.den, SV.vbL_den hE φ h.1, SV.vbL_den hE φ h.2]
  | .iface t v, h => by simp only [SV.vb] at h; simp only [SV.den, SV.vb_den hE φ h]
  | .agg cs, h => by simp only [SV.vb] at h; simp only [SV.den, SV.vbL_den hE φ h]
  | .tuple cs, h => by simp only [SV.vb] at h; simp only [SV.den, SV.vbL_den hE φ h]
  | .xs j, _ => by simp only [SV.den, hE.x]
  | .xp j e c, h => by simp only [SV.vb] at h; simp only [SV.den, hE.x, IE.vb_den hE h]
  | .sl .., _ => rfl
  | .bts l, h => by
    simp only [SV.vb, List.all_eq_true] at h
    simp only [SV.den]
    congr 2
    exact List.map_congr_left fun e he => IE.vb_den hE (h e he)
  | .mp _, _ => rfl
  | .yld _, _ => rfl
  | .mark .., _ => rfl
  | .panv _, _ => rfl
  | .pv b off sz k e c, h => by simp only [SV.vb] at h; simp only [SV.den, IE.vb_den hE h]
theorem SV.vbL_den {n m : Nat} (hE : ρ.eqTo ρ' n m) (φ : Nat → Nat) : ∀ {l : List SV}, SV.vbL n m l = true → SV.denL ρ' φ l = SV.denL ρ φ l
  | [], _ => rfl
  | v :: l, h => by
    simp only [SV.vbL, Bool.and_eq_true] at h
    simp only [SV.denL, SV.vb_den hE φ h.1, SV.vbL_den hE φ h.2]
end
def St.vb (n m : Nat) (s : St) : Bool := SV.vbL n m s.m.all && s.st.all fun p => SV.vbL n m p.2.cells
theorem vbL_mem {n m : Nat} : ∀ {l : List SV}, SV.vbL n m l = true → ∀ v ∈ l, v.vb n m = true
  | [], _, v, hv => by cases hv
  | u :: l, h, v, hv => by
    simp only [SV.vbL, Bool.and_eq_true] at h
    rcases List.mem_cons.1 hv with rfl | hv
    · exact h.1
    · exact vbL_mem h.2 v hv
theorem objOk.env {n m : Nat} {φ : Nat → Nat} {b : Nat} {B : Blk} {o : Obj} (hE : ρ.eqTo ρ' n m) (hv : SV.vbL n m B.cells = true) (h : objOk P ρ φ b B o) : objOk P ρ' φ b B o := by
  unfold objOk at h ⊢
  cases hbc : bcOf B.cells with
  | row =>
    rw [hbc] at h
    simp only at h ⊢
    rw [SV.vbL_den hE φ hv]; exact h
  | map l =>
    rw [hbc] at h
    simp only at h ⊢
    obtain ⟨f, p, d, e⟩ := bcOf_map hbc
    rw [e] at hv
    simp only [SV.vbL, Bool.and_eq_true] at hv
    rw [SV.vbL_den hE φ hv.2]; exact h
  | dfr x => rw [hbc] at h; cases x <;> exact h
  | bad => rw [hbc] at h; exact h
  | recd k f p d k1 i l =>
    rw [hbc] at h
    simp only at h ⊢
    obtain ⟨q, e, hcs⟩ := bcOf_rec hbc
    rw [hcs] at hv
    simp only [SV.vbL, Bool.and_eq_true] at hv
    obtain ⟨g, qs, as1, body, vs, f0, h1, h2, h3⟩ := h
    exact ⟨g, qs, as1, body, vs, f0, h1, ⟨h2.1, fun t v ht => (h2.2 t v ht).imp id (fun h4 => by rw [SV.vb_den hE φ (vbL_mem hv.2.2 v (List.mem_of_getElem? ht))]; exact h4)⟩, h3⟩
theorem RelF.env {n m : Nat} {s : St} {a : Act} (hr : RelF P ρ E D w0 φ0 st0 s a w) (hdf : s.m.df = []) (hv : s.vb n m = true) (hE : ρ.eqTo ρ' n m) : RelF P ρ' E D w0 φ0 st0 s a w := by
  simp only [St.vb, Tm.all_eq, Bool.and_eq_true, List.all_eq_true] at hv
  obtain ⟨φ, hs, ht⟩ := hr
  exact ⟨φ, ⟨⟨fun b B hb => (by obtain ⟨o, h1, h2⟩ := hs.rel.bl b B hb; exact ⟨o, h1, h2.env hE (hv.2 _ (get_mem hb))⟩), hs.rel.cl, hs.rel.nz, hs.rel.inj, hs.rel.own, hs.rel.os, hs.rel.tape, hs.rel.output, hs.rel.size, hs.rel.fr, fun j B hB => hs.rel.xt j B (by rw [← Env.y_congr hE.x]; exact hB), fun j B hB => hs.rel.xd j B (by rw [← Env.y_congr hE.x]; exact hB)⟩, hs.ext, hs.dom⟩,
    ⟨ht.len, (by have := ht.df; rw [hdf] at this ⊢; exact this), fun t v h => (ht.tm t v h).imp id (fun h2 => by rw [SV.vb_den hE φ (vbL_mem hv.1 v (List.mem_of_getElem? h))]; exact h2), ht.cl, ht.dcl⟩⟩
/-- seen as the head's state, in whatever environment has there what is wanted -/
theorem RelF.goes {s h : St} {a : Act} (es : List IE) (bs : List BE) (ps : List (Nat × Nat)) (hr : RelF P ρ E D w0 φ0 st0 s a w) (hf : fitsB es bs ps s h = true) (h0 : st0.all (fun p => (Store.get h.st p.1).isSome && Nat.beq (pi ps p.1) p.1) = true) (hE : ∀ p ∈ ps, ∀ e ∈ E, p.1 ≠ e.1 ∧ p.2 ≠ e.1)
    (hv : h.vb es.length bs.length = true) (hi : ∀ i e, es[i]? = some e → ρ'.i i = e.den ρ) (hb : ∀ i e, bs[i]? = some e → ρ'.b i = e.den ρ) (ha : ρ'.a = ρ.a) (hff : ρ'.f = ρ.f) (hss : ρ'.s = ρ.s) (hxx : ρ'.x = ρ.x := by rfl) : RelF P ρ' E D w0 φ0 st0 h a w :=
  (hr.fits es bs ps hf h0 hE).env (by simp only [fitsB, Bool.and_eq_true] at hf; exact List.isEmpty_iff.1 hf.1.1.1.1.1.1.2) hv ⟨fun j hj => (hi j es[j] (by simp [hj])).trans (by simp [Env.to, hj]), fun j hj => (hb j bs[j] (by simp [hj])).trans (by simp [Env.to, hj]), ha, hff, hss, hxx⟩
/-- the bounds hold of the numbers from the i-th on -/
def AllIn (f : Nat → Int) : List (Int × Int) → Nat → Prop
  | [], _ => True
  | v :: vs, i => (v.1 ≤ f i ∧ f i ≤ v.2) ∧ AllIn f vs (i + 1)
theorem AllIn.get {f : Nat → Int} : ∀ {vs : List (Int × Int)} {k : Nat}, AllIn f vs k → ∀ (i : Nat) v, vs[i]? = some v → v.1 ≤ f (k + i) ∧ f (k + i) ≤ v.2
  | [], k, _, i, v, h => by simp at h
  | u :: vs, k, hI, i, v, h => by
    cases i with
    | zero => simp at h; subst h; exact hI.1
    | succ i => have := hI.2.get i v (by simpa using h); rwa [show k + (i + 1) = k + 1 + i by omega]
theorem AllIn.get0 {f : Nat → Int} {vs : List (Int × Int)} (h : AllIn f vs 0) (i : Nat) (v : Int × Int) (hv : vs[i]? = some v) : v.1 ≤ f i ∧ f i ≤ v.2 := by have := h.get i v hv; rwa [Nat.zero_add] at this
theorem knows_env {X : Ctx} (hpc : X.pc = []) (hr : AllIn ρ.i X.rg 0) (ha : ∀ (f : Nat) v, X.ar[f]? = some v → ∀ a b c, v.1 ≤ ρ.a f a b c ∧ ρ.a f a b c ≤ v.2) (hxs : ∀ (j : Nat) d, X.xs[j]? = some d → XOk ρ d (ρ.x j) := by intro _ _ h; cases h) (hnm : ∀ p ∈ X.nm, p.1.den ρ = p.2.den ρ := by intro _ h; cases h) (hss : ∀ (j : Nat) d, X.ss[j]? = some d → SOk ρ d (ρ.s j) := by intro _ _ h; cases h) (hnb : ∀ p ∈ X.nb, p.1.den ρ = ρ.b p.2 := by intro _ h; cases h) : Knows ρ X :=
  ⟨fun c hc => (by rw [hpc] at hc; cases hc), fun i v h => (by have := hr.get i v h; rwa [Nat.zero_add] at this), ha, hxs, hnm, hss, hnb⟩

/-! contracts of functions of whole numbers -/
structure Con where
  f : FuncId
  ks : List IntKind
  out : List IE → SV
def argsOf (X : Ctx) : List IntKind → List SV → Option (List IE)
  | [], [] => some []
  | k :: ks, .int l e :: vs => if decide (k = l) && fits X k e then (argsOf X ks vs).map (e :: ·) else none
  | _, _ => none
def conFind (X : Ctx) (f : FuncId) (vs : List SV) : List Con → Option SV
  | [] => none
  | c :: cs => if Nat.beq c.f f then (argsOf X c.ks vs).map c.out else conFind X f vs cs
def conCt (rg ar : List (Int × Int)) (cs : List Con) (pc : List (BE × Bool)) (f : FuncId) (vs : List SV) : Option SV := conFind { pc := pc, rg := rg, ar := ar } f vs cs
def InK : List IntKind → List Int → Prop
  | [], [] => True
  | k :: ks, x :: xs => (k.min ≤ x ∧ x ≤ k.max) ∧ InK ks xs
  | _, _ => False
def intVs : List IntKind → List Int → List Value
  | k :: ks, x :: xs => .int k x :: intVs ks xs
  | _, _ => []
theorem argsOf_ok {X : Ctx} (hX : Knows ρ X) : ∀ {ks : List IntKind} {vs : List SV} {es : List IE}, argsOf X ks vs = some es → InK ks (es.map (IE.den ρ)) ∧ ∀ φ, SV.denL ρ φ vs = intVs ks (es.map (IE.den ρ))
  | [], [], es, h => by simp only [argsOf, Option.some.injEq] at h; subst h; exact ⟨trivial, fun _ => rfl⟩
  | [], _ :: _, es, h => by simp [argsOf] at h
  | k :: ks, [], es, h => by simp [argsOf] at h
  | k :: ks, v :: vs, es, h => by
    cases v <;> simp only [argsOf, reduceCtorEq] at h
    rename_i l e
    split at h
    · rename_i hc
      simp only [Bool.and_eq_true, decide_eq_true_eq] at hc
      obtain ⟨rfl, hf⟩ := hc
      simp only [Option.map_eq_some_iff] at h
      obtain ⟨es', h1, rfl⟩ := h
      obtain ⟨h2, h3⟩ := argsOf_ok hX h1
      exact ⟨⟨fits_ok hX hf, h2⟩, fun φ => by simp only [SV.denL, SV.den, List.map_cons, intVs, h3]⟩
    · cases h
/-- a contract is kept -/
def Con.holds (P : Program) (ρ : Env) (c : Con) : Prop :=
  ∀ es : List IE, InK c.ks (es.map (IE.den ρ)) → ∀ φ w, Calls P c.f (intVs c.ks (es.map (IE.den ρ))).toArray w fun e w' => e = .returned ((c.out es).den ρ φ) ∧ Below w.heap.size w w'
theorem conCt_ok {rg ar : List (Int × Int)} {cs : List Con} (hrg : ∀ (i : Nat) v, rg[i]? = some v → v.1 ≤ ρ.i i ∧ ρ.i i ≤ v.2) (har : ∀ (f : Nat) v, ar[f]? = some v → ∀ a b c, v.1 ≤ ρ.a f a b c ∧ ρ.a f a b c ≤ v.2)
    (hcs : ∀ c ∈ cs, c.holds P ρ) {pc : List (BE × Bool)} (hpc : ∀ c ∈ pc, c.1.den ρ = c.2) {f : FuncId} {vs : List SV} {v : SV} (h : conCt rg ar cs pc f vs = some v) (φ : Nat → Nat) (w : World) :
    Calls P f (SV.denL ρ φ vs).toArray w fun e w' => e = .returned (v.den ρ φ) ∧ Below w.heap.size w w' := by
  have key : ∀ cs : List Con, (∀ c ∈ cs, c.holds P ρ) → conFind { pc := pc, rg := rg, ar := ar } f vs cs = some v → Calls P f (SV.denL ρ φ vs).toArray w fun e w' => e = .returned (v.den ρ φ) ∧ Below w.heap.size w w' := by
    intro cs
    induction cs with
    | nil => intro _ hh; cases hh
    | cons c cs ih =>
      intro hcs hh
      simp only [conFind] at hh
      by_cases hf : Nat.beq c.f f = true
      · rw [if_pos hf] at hh
        have hf : c.f = f := by simpa using hf
        subst hf
        obtain ⟨es, h1, rfl⟩ := Option.map_eq_some_iff.1 hh
        obtain ⟨h2, h3⟩ := argsOf_ok (ρ := ρ) (X := { pc := pc, rg := rg, ar := ar }) ⟨hpc, hrg, har, fun j d hd => by simp at hd, fun p hp => by simp at hp, fun j d hd => by simp at hd, fun p hp => by simp at hp⟩ h1
        rw [h3 φ]
        exact hcs c (by simp) es h2 φ w
      · rw [if_neg hf] at hh
        exact ih (fun d hd => hcs d (by simp [hd])) hh
  exact key cs hcs h
end Ev
end Go.Proofs.Ytmgfnejiienghaa
/- A checked evaluator: ways out; environments that differ in numbers and bools alone. -/
namespace Go.Proofs.Ytmgfnejiienghaa
open Go Go.RowKit
set_option linter.unusedVariables false
namespace Ev
def exBeq : Ex → Ex → Bool
  | .normal, .normal => true
  | .exit a, .exit b => Nat.beq a b
  | .ret, .ret => true
  | _, _ => false
theorem exBeq_eq {x y : Ex} (h : exBeq x y = true) : x = y := by
  cases x <;> cases y <;> simp_all [exBeq]
/-- they differ in numbers and bools alone -/
structure Env.like (ρ ρ' : Env) : Prop where
  a : ρ'.a = ρ.a
  f : ρ'.f = ρ.f
  s : ρ'.s = ρ.s
  x : ρ'.x = ρ.x
end Ev
end Go.Proofs.Ytmgfnejiienghaa
/- A checked evaluator: a loop by its rounds, each told by the numbers and bools that are there behind it. -/
namespace Go.Proofs.Ytmgfnejiienghaa
open Go Go.RowKit
set_option linter.unusedVariables false
namespace Ev
variable {P : Program} {ρ ρ' : Env} {E : List (Nat × Nat)} {D : List Deferred} {w0 : World} {φ φ0 : Nat → Nat} {st st0 : Store} {w : World}

/-- a round, path by path: what the head's variables are next; or what the law's variables are, where the loop is left -/
inductive RT where
  | dead
  | go (es : List IE) (bs : List BE)
  | stop (es : List IE) (bs : List BE)
  | node (c : BE) (t f : RT)
def RT.check (P : Program) (X : Ctx) (n : Nat) (f : FuncId) (p : List Nat) (u : Nat) (H : St) (ex : Ex) (O : St) : RT → Bool
  | .dead => true
  | .go es bs =>
    (match runC P X n f p u 0 H with
     | .ok (.normal, s') => fitsB es bs [] s' H
     | _ => false) && H.vb es.length bs.length
  | .stop es bs =>
    (match runC P X n f p u 0 H with
     | .ok (e', s') => exBeq e' ex && fitsB es bs [] s' O
     | _ => false) && O.vb es.length bs.length
  | .node b t e => t.check P { X with pc := (b, true) :: X.pc } n f p u H ex O && e.check P { X with pc := (b, false) :: X.pc } n f p u H ex O
def dens (ρ : Env) (es : List IE) : List Int := es.map (IE.den ρ)
def bdens (ρ : Env) (bs : List BE) : List Bool := bs.map (BE.den ρ)
/-- what is there behind the round, if it goes on -/
def RT.next (ρ : Env) : RT → Option (List Int × List Bool)
  | .go es bs => some (dens ρ es, bdens ρ bs)
  | .node c t f => cond (c.den ρ) (t.next ρ) (f.next ρ)
  | _ => none
/-- what is there where the loop is left -/
def RT.out (ρ : Env) : RT → Option (List Int × List Bool)
  | .stop es bs => some (dens ρ es, bdens ρ bs)
  | .node c t f => cond (c.den ρ) (t.out ρ) (f.out ρ)
  | _ => none
/-- an environment has these numbers and bools, from the first one on -/
def Env.has (ρ : Env) (is : List Int) (bs : List Bool) : Prop := (∀ i x, is[i]? = some x → ρ.i i = x) ∧ (∀ i x, bs[i]? = some x → ρ.b i = x)
theorem envOf_has (is : List Int) (bs : List Bool) (fs : List Nat) (ss : List ByteArray) (ap : Nat → Int → Int → Int → Int) (xs : List (Option Ext)) : (envOf is bs fs ss ap xs).has is bs :=
  ⟨fun i x h => by show is.getD i 0 = x; rw [List.getD_eq_getElem?_getD, h]; rfl, fun i x h => by show bs.getD i false = x; rw [List.getD_eq_getElem?_getD, h]; rfl⟩
theorem Env.has_left {is js : List Int} {bs cs : List Bool} (h : ρ.has (is ++ js) (bs ++ cs)) : ρ.has is bs :=
  ⟨fun i x hx => h.1 i x (by rw [List.getElem?_append_left (List.getElem?_eq_some_iff.1 hx).1]; exact hx), fun i x hx => h.2 i x (by rw [List.getElem?_append_left (List.getElem?_eq_some_iff.1 hx).1]; exact hx)⟩
theorem rt_go (hmix : P.follows .mixedOrders = true) {n : Nat} {f : FuncId} {p : List Nat} {c : Code} (hcp : codeAt P f p = c) {u : Nat} {H O : St} {ex : Ex} (hst : st0.all (fun q => (Store.get H.st q.1).isSome) = true) :
    ∀ (T : RT) {X : Ctx}, Knows ρ X → KnowsC P ρ E X → T.check P X n f p u H ex O = true → ∀ {a : Act} {w : World}, RelF P ρ E D w0 φ0 st0 H a w → ρ.like ρ' → ∀ {is bs}, T.next ρ = some (is, bs) → ρ'.has is bs →
    ∀ {Q : Exit → Act → World → Prop}, (∀ a' w', RelF P ρ' E D w0 φ0 st0 H a' w' → Q .normal a' w') → c.wpIn (FW none) 0 P Q a w
  | .dead, X, hX, hC, h, a, w, hr, hl, is, bs, hg, hh, Q, hQ => by cases hg
  | .stop _ _, X, hX, hC, h, a, w, hr, hl, is, bs, hg, hh, Q, hQ => by cases hg
  | .go es bs, X, hX, hC, h, a, w, hr, hl, is, bs', hg, hh, Q, hQ => by
    cases hg
    simp only [RT.check, Bool.and_eq_true] at h
    obtain ⟨h1, h3⟩ := h
    unfold runC at h1
    split at h1
    · rename_i s' hs'
      split at hs'
      · rename_i h4
        cases hs'
        refine (ev_sound hmix hX hC n).1 _ _ _ none _ _ _ .normal _ _ _ _ hcp (by rw [← hcp]; exact h4) D w0 φ0 st0 a w none rfl hr Q (fun a' w' x hr' => ?_)
        have hF := hr'.relF
        obtain ⟨_, _, _, hx⟩ := hr'
        obtain rfl : x = .normal := hx
        refine hQ a' w' ?_
        exact hF.goes es bs [] h1 (by
          rw [List.all_eq_true] at hst ⊢
          intro q hq
          have := hst q hq
          simp only [Bool.and_eq_true]
          exact ⟨this, by simp [pi]⟩) (by simp) h3 (fun i e he => hh.1 i _ (by simp [dens, he])) (fun i e he => hh.2 i _ (by simp [bdens, he])) hl.a hl.f hl.s hl.x
      · cases hs'
    · cases h1
  | .node b t e, X, hX, hC, h, a, w, hr, hl, is, bs, hg, hh, Q, hQ => by
    simp only [RT.check, Bool.and_eq_true] at h
    simp only [RT.next] at hg
    cases hb : b.den ρ with
    | true => rw [hb] at hg; exact rt_go hmix hcp hst t (X := { X with pc := (b, true) :: X.pc }) (hX.more hb) hC.more h.1 hr hl hg hh hQ
    | false => rw [hb] at hg; exact rt_go hmix hcp hst e (X := { X with pc := (b, false) :: X.pc }) (hX.more hb) hC.more h.2 hr hl hg hh hQ
theorem rt_stop (hmix : P.follows .mixedOrders = true) {n : Nat} {f : FuncId} {p : List Nat} {c : Code} (hcp : codeAt P f p = c) {u : Nat} {H O : St} {ex : Ex} (hst : st0.all (fun q => (Store.get O.st q.1).isSome) = true) :
    ∀ (T : RT) {X : Ctx}, Knows ρ X → KnowsC P ρ E X → T.check P X n f p u H ex O = true → ∀ {a : Act} {w : World}, RelF P ρ E D w0 φ0 st0 H a w → ρ.like ρ' → ∀ {is bs}, T.out ρ = some (is, bs) → ρ'.has is bs →
    ∀ {Q : Exit → Act → World → Prop}, (∀ a' w', RelF P ρ' E D w0 φ0 st0 O a' w' → Q ex.to a' w') → c.wpIn (FW none) 0 P Q a w
  | .dead, X, hX, hC, h, a, w, hr, hl, is, bs, hg, hh, Q, hQ => by cases hg
  | .go _ _, X, hX, hC, h, a, w, hr, hl, is, bs, hg, hh, Q, hQ => by cases hg
  | .stop es bs, X, hX, hC, h, a, w, hr, hl, is, bs', hg, hh, Q, hQ => by
    cases hg
    simp only [RT.check, Bool.and_eq_true] at h
    obtain ⟨h1, h3⟩ := h
    unfold runC at h1
    split at h1
    · rename_i e' s' hs'
      split at hs'
      · rename_i h4
        cases hs'
        simp only [Bool.and_eq_true] at h1
        have he := exBeq_eq h1.1
        subst he
        refine (ev_sound hmix hX hC n).1 _ _ _ none _ _ _ _ _ _ _ _ hcp (by rw [← hcp]; exact h4) D w0 φ0 st0 a w none rfl hr Q (fun a' w' x hr' => ?_)
        have hF := hr'.relF
        obtain ⟨_, _, _, hx⟩ := hr'
        have hx : x = e'.to := by
          cases e' with
          | pan v => simp [exBeq] at h1
          | _ => exact hx
        subst hx
        refine hQ a' w' ?_
        exact hF.goes es bs [] h1.2 (by
          rw [List.all_eq_true] at hst ⊢
          intro q hq
          have := hst q hq
          simp only [Bool.and_eq_true]
          exact ⟨this, by simp [pi]⟩) (by simp) h3 (fun i e he => hh.1 i _ (by simp [dens, he])) (fun i e he => hh.2 i _ (by simp [bdens, he])) hl.a hl.f hl.s hl.x
      · cases hs'
    · cases h1
  | .node b t e, X, hX, hC, h, a, w, hr, hl, is, bs, hg, hh, Q, hQ => by
    simp only [RT.check, Bool.and_eq_true] at h
    simp only [RT.out] at hg
    cases hb : b.den ρ with
    | true => rw [hb] at hg; exact rt_stop hmix hcp hst t (X := { X with pc := (b, true) :: X.pc }) (hX.more hb) hC.more h.1 hr hl hg hh hQ
    | false => rw [hb] at hg; exact rt_stop hmix hcp hst e (X := { X with pc := (b, false) :: X.pc }) (hX.more hb) hC.more h.2 hr hl hg hh hQ
/-- what a loop's sum must be, as the kernel reckons it: entry, rounds, way out -/
def lpB (P : Program) (X : Ctx) (n : Nat) (f : FuncId) (p : List Nat) (u : Nat) (L : LoopSum) (H : St) (T : RT) (es : List IE) (bs : List BE) : Bool :=
  L.own && (L.bl.all (fun q => (Store.get H.st q.1).isSome)) && (L.bl.all (fun q => (Store.get L.bl' q.1).isSome)) && T.check P X n f (0 :: p) u H L.ex ⟨L.tm', L.bl'⟩
  && fitsB es bs [] ⟨L.tm, L.bl⟩ H && H.vb es.length bs.length && (match L.ex with | .normal => false | .pan _ => false | _ => true)
/-- another environment, with other numbers and bools alone -/
def Env.on (ρ : Env) (is : List Int) (bs : List Bool) : Env := { ρ with i := fun n => is.getD n 0, b := fun n => bs.getD n false }
theorem Env.on_has (ρ : Env) (is : List Int) (bs : List Bool) : (ρ.on is bs).has is bs :=
  ⟨fun i x h => by show is.getD i 0 = x; rw [List.getD_eq_getElem?_getD, h]; rfl, fun i x h => by show bs.getD i false = x; rw [List.getD_eq_getElem?_getD, h]; rfl⟩
theorem Env.on_like (ρ : Env) (is : List Int) (bs : List Bool) : ρ.like (ρ.on is bs) := ⟨rfl, rfl, rfl, rfl⟩
/-- a loop's sum by what holds at its head: of the numbers and bools that are there, and a measure that gets less -/
theorem rt_lp (hmix : P.follows .mixedOrders = true) {L : LoopSum} {n : Nat} {f : FuncId} {p : List Nat} {u : Nat} {H : St} {T : RT} {X : Ctx} {es : List IE} {bs : List BE} (hB : lpB P X n f p u L H T es bs = true) {c : Code} (hc : codeAt P f p = .loop c)
    (J : Nat → List Int → List Bool → Prop) (hX : ∀ m is bs, J m is bs → Knows (ρ.on is bs) X) (hC : ∀ m is bs, J m is bs → ∀ E, KnowsC P (ρ.on is bs) E X)
    (h0 : ∃ m, J m (dens ρ es) (bdens ρ bs)) (hstep : ∀ m is bs, J m is bs → (∃ is' bs' m', T.next (ρ.on is bs) = some (is', bs') ∧ m' < m ∧ J m' is' bs') ∨ (∃ is' bs', T.out (ρ.on is bs) = some (is', bs') ∧ ρ.has is' bs'))
    : LoopGoes P ρ E L c := by
  simp only [lpB, Bool.and_eq_true] at hB
  obtain ⟨⟨⟨⟨⟨⟨hown, hHs⟩, hLs⟩, hT⟩, hf0⟩, hv0⟩, hne⟩ := hB
  have hcp : codeAt P f (0 :: p) = c := by simp only [codeAt, hc, child]
  refine lp_frame hown (fun w1 φ1 a D hr1 Q hQ1 => ?_)
  have al : ∀ {t : Store}, L.bl.all (fun q => (Store.get t q.1).isSome) = true → L.bl.all (fun q => (Store.get t q.1).isSome && Nat.beq (pi [] q.1) q.1) = true := by
    intro t ht
    rw [List.all_eq_true] at ht ⊢
    intro q hq
    simp only [Bool.and_eq_true]
    exact ⟨ht q hq, by simp [pi]⟩
  obtain ⟨m0, hJ0⟩ := h0
  have hh := ρ.on_has (dens ρ es) (bdens ρ bs)
  have hr2 := hr1.goes (ρ' := ρ.on (dens ρ es) (bdens ρ bs)) es bs [] hf0 (al hHs) (by simp) hv0 (fun i e he => hh.1 i _ (by simp [dens, he])) (fun i e he => hh.2 i _ (by simp [bdens, he])) rfl rfl rfl rfl
  refine wpIn_loop_ind (fun m a w => ∃ is bs, J m is bs ∧ RelF P (ρ.on is bs) (L.bl.map fun p => (p.1, φ1 p.1)) D w1 φ1 L.bl H a w) ?_ (m := m0) ⟨_, _, hJ0, hr2⟩
  rintro m a w ⟨is, bs', hJ, hr⟩
  rcases hstep m is bs' hJ with ⟨is', bs'', m', h1, hlt, hJ'⟩ | ⟨is', bs'', h1, h2⟩
  · exact rt_go hmix hcp hHs T (ρ' := ρ.on is' bs'') (hX m is bs' hJ) (hC m is bs' hJ _) hT hr ⟨rfl, rfl, rfl, rfl⟩ h1 (ρ.on_has is' bs'') (fun a' w' hr' => ⟨m', hlt, is', bs'', hJ', hr'⟩)
  · refine rt_stop hmix hcp hLs T (ρ' := ρ) (hX m is bs' hJ) (hC m is bs' hJ _) hT hr ⟨rfl, rfl, rfl, rfl⟩ h1 h2 (fun a' w' hr' => ?_)
    have := hQ1 a' w' hr'
    cases hex : L.ex with
    | normal => rw [hex] at hne; cases hne
    | pan v => rw [hex] at hne; cases hne
    | exit i => rw [hex] at this; exact this
    | ret => rw [hex] at this; exact this
theorem has_of {is : List Int} {bs : List Bool} (hi : ∀ i x, is[i]? = some x → ρ.i i = x) (hb : bs = []) : ρ.has is bs := ⟨hi, fun i x h => by rw [hb] at h; simp at h⟩
/-- an environment out of lists has what stands ahead in them -/
theorem envOf_has_pre {is js : List Int} {bs cs : List Bool} {fs : List Nat} {ss : List ByteArray} {ap : Nat → Int → Int → Int → Int} {xs : List (Option Ext)} (hi : is <+: js) (hb : bs <+: cs) : (envOf js cs fs ss ap xs).has is bs := by
  obtain ⟨r, rfl⟩ := hi
  obtain ⟨s, rfl⟩ := hb
  exact Env.has_left (envOf_has (is ++ r) (bs ++ s) fs ss ap xs)
end Ev
end Go.Proofs.Ytmgfnejiienghaa
