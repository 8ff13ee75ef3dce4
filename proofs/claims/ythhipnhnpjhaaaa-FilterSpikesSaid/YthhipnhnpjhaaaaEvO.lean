/- A checked evaluator: environments that agree where they are asked. -/
import Derived.Test.YthhipnhnpjhaaaaEvN
namespace Go.Proofs.Ythhipnhnpjhaaaa
open Go Go.RowKit
set_option linter.unusedVariables false
namespace Ev
variable {P : Program} {ρ ρ' : Env} {E : List (Nat × Nat)} {D : List Deferred} {w0 : World} {φ φ0 : Nat → Nat} {st st0 : Store} {w : World}

def IE.vb (n : Nat) : IE → Bool
  | .lit _ => true
  | .var i => Nat.blt i n
  | .ar _ _ a b => a.vb n && b.vb n
  | .wr _ a => a.vb n
  | .mn a b => a.vb n && b.vb n
  | .mx a b => a.vb n && b.vb n
  | .pl _ a b => a.vb n && b.vb n
  | .ap _ a b c => a.vb n && b.vb n && c.vb n
  | .tab _ i => i.vb n
def BE.vb (n m : Nat) : BE → Bool
  | .lit _ => true
  | .var i => Nat.blt i m
  | .cmp _ a b => a.vb n && b.vb n
  | .not a => a.vb n m
  | .and a b => a.vb n m && b.vb n m
  | .eqb a b => a.vb n m && b.vb n m
mutual
def SV.vb (n m : Nat) : SV → Bool
  | .int _ e => e.vb n
  | .bool b => b.vb n m
  | .func _ a c => SV.vbL n m a && SV.vbL n m c
  | .iface _ v => v.vb n m
  | .agg cs => SV.vbL n m cs
  | .tuple cs => SV.vbL n m cs
  | .xp _ e _ => e.vb n
  | .bts l => l.all (IE.vb n)
  | .panv v => v.vb n m
  | _ => true
def SV.vbL (n m : Nat) : List SV → Bool
  | [] => true
  | v :: vs => v.vb n m && SV.vbL n m vs
end
/-- they agree on the first n numbers and m bools, and on all else -/
structure Env.eqTo (ρ ρ' : Env) (n m : Nat) : Prop where
  i : ∀ j, j < n → ρ'.i j = ρ.i j
  b : ∀ j, j < m → ρ'.b j = ρ.b j
  a : ρ'.a = ρ.a
  f : ρ'.f = ρ.f
  s : ρ'.s = ρ.s
  x : ρ'.x = ρ.x
section
variable {n m : Nat} (hE : ρ.eqTo ρ' n m)
include hE
theorem IE.vb_den : ∀ {e : IE}, e.vb n = true → e.den ρ' = e.den ρ
  | .lit _, _ => rfl
  | .var i, h => hE.i i (by simpa [IE.vb, Nat.blt_eq] using h)
  | .ar op k a b, h => by
    simp only [IE.vb, Bool.and_eq_true] at h
    simp only [IE.den, IE.vb_den h.1, IE.vb_den h.2]
  | .wr k a, h => by
    simp only [IE.vb] at h
    simp only [IE.den, IE.vb_den h]
  | .mn a b, h => by
    simp only [IE.vb, Bool.and_eq_true] at h
    simp only [IE.den, IE.vb_den h.1, IE.vb_den h.2]
  | .mx a b, h => by
    simp only [IE.vb, Bool.and_eq_true] at h
    simp only [IE.den, IE.vb_den h.1, IE.vb_den h.2]
  | .pl op a b, h => by
    simp only [IE.vb, Bool.and_eq_true] at h
    simp only [IE.den, IE.vb_den h.1, IE.vb_den h.2]
  | .ap f a b c, h => by
    simp only [IE.vb, Bool.and_eq_true] at h
    simp only [IE.den, IE.vb_den h.1.1, IE.vb_den h.1.2, IE.vb_den h.2, hE.a]
  | .tab l i, h => by
    simp only [IE.vb] at h
    simp only [IE.den, IE.vb_den h]
theorem BE.vb_den : ∀ {e : BE}, e.vb n m = true → e.den ρ' = e.den ρ
  | .lit _, _ => rfl
  | .var i, h => hE.b i (by simpa [BE.vb, Nat.blt_eq] using h)
  | .cmp op a b, h => by
    simp only [BE.vb, Bool.and_eq_true] at h
    simp only [BE.den, IE.vb_den hE h.1, IE.vb_den hE h.2]
  | .not a, h => by
    simp only [BE.vb] at h
    simp only [BE.den, BE.vb_den h]
  | .and a b, h => by
    simp only [BE.vb, Bool.and_eq_true] at h
    simp only [BE.den, BE.vb_den h.1, BE.vb_den h.2]
  | .eqb a b, h => by
    simp only [BE.vb, Bool.and_eq_true] at h
    simp only [BE.den, BE.vb_den h.1, BE.vb_den h.2]
end
mutual
theorem SV.vb_den {n m : Nat} (hE : ρ.eqTo ρ' n m) (φ : Nat → Nat) : ∀ {v : SV}, v.vb n m = true → v.den ρ' φ = v.den ρ φ
  | .int k e, h => by simp only [SV.vb] at h; simp only [SV.den, IE.vb_den hE h]
  | .bool b, h => by simp only [SV.vb] at h; simp only [SV.den, BE.vb_den hE h]
  | .raw _, _ => rfl
  | .flt k j, _ => by simp only [SV.den, hE.f]
  | .str j, _ => by simp only [SV.den, hE.s]
  | .any, _ => rfl
  | .ptr _ _, _ => rfl
  | .slice _ _ _ _, _ => rfl
  | .func f a c, h => by
    simp only [SV.vb, Bool.and_eq_true] at h
    simp only [SV.den, SV.vbL_den hE φ h.1, SV.vbL_den hE φ h.2]
  | .iface t v, h => by simp only [SV.vb] at h; simp only [SV.den, SV.vb_den hE φ h]
  | .agg cs, h => by simp only [SV.vb] at h; simp only [SV.den, SV.vbL_den hE φ h]
  | .tuple cs, h => by simp only [SV.vb] at h; simp only [SV.den, SV.vbL_den hE φ h]
  | .xs j, _ => by simp only [SV.den, hE.x]
  | .xp j e c, h => by simp only [SV.vb] at h; simp only [SV.den, hE.x, IE.vb_den hE h]
  | .sl .., _ => rfl
  | .bts l, h => by
    simp only [SV.vb, List.all_eq_true] at h
    simp only [SV.den]
    congr 2
    exact List.map_congr_left fun e he => IE.vb_den hE (h e he)
  | .mp _, _ => rfl
  | .yld _, _ => rfl
  | .mark .., _ => rfl
  | .panv _, _ => rfl
theorem SV.vbL_den {n m : Nat} (hE : ρ.eqTo ρ' n m) (φ : Nat → Nat) : ∀ {l : List SV}, SV.vbL n m l = true → SV.denL ρ' φ l = SV.denL ρ φ l
  | [], _ => rfl
  | v :: l, h => by
    simp only [SV.vbL, Bool.and_eq_true] at h
    simp only [SV.denL, SV.vb_den hE φ h.1, SV.vbL_den hE φ h.2]
end
def St.vb (n m : Nat) (s : St) : Bool := SV.vbL n m s.m.all && s.st.all fun p => SV.vbL n m p.2.cells
theorem vbL_mem {n m : Nat} : ∀ {l : List SV}, SV.vbL n m l = true → ∀ v ∈ l, v.vb n m = true
  | [], _, v, hv => by cases hv
  | u :: l, h, v, hv => by
    simp only [SV.vbL, Bool.and_eq_true] at h
    rcases List.mem_cons.1 hv with rfl | hv
    · exact h.1
    · exact vbL_mem h.2 v hv
theorem objOk.env {n m : Nat} {φ : Nat → Nat} {b : Nat} {B : Blk} {o : Obj} (hE : ρ.eqTo ρ' n m) (hv : SV.vbL n m B.cells = true) (h : objOk P ρ φ b B o) : objOk P ρ' φ b B o := by
  unfold objOk at h ⊢
  cases hbc : bcOf B.cells with
  | row =>
    rw [hbc] at h
    simp only at h ⊢
    rw [SV.vbL_den hE φ hv]; exact h
  | map l =>
    rw [hbc] at h
    simp only at h ⊢
    obtain ⟨f, p, d, e⟩ := bcOf_map hbc
    rw [e] at hv
    simp only [SV.vbL, Bool.and_eq_true] at hv
    rw [SV.vbL_den hE φ hv.2]; exact h
  | dfr x => rw [hbc] at h; cases x <;> exact h
  | bad => rw [hbc] at h; exact h
  | recd k f p d k1 i l =>
    rw [hbc] at h
    simp only at h ⊢
    obtain ⟨q, e, hcs⟩ := bcOf_rec hbc
    rw [hcs] at hv
    simp only [SV.vbL, Bool.and_eq_true] at hv
    obtain ⟨g, qs, as1, body, vs, f0, h1, h2, h3⟩ := h
    exact ⟨g, qs, as1, body, vs, f0, h1, ⟨h2.1, fun t v ht => (h2.2 t v ht).imp id (fun h4 => by rw [SV.vb_den hE φ (vbL_mem hv.2.2 v (List.mem_of_getElem? ht))]; exact h4)⟩, h3⟩
theorem RelF.env {n m : Nat} {s : St} {a : Act} (hr : RelF P ρ E D w0 φ0 st0 s a w) (hdf : s.m.df = []) (hv : s.vb n m = true) (hE : ρ.eqTo ρ' n m) : RelF P ρ' E D w0 φ0 st0 s a w := by
  simp only [St.vb, Tm.all_eq, Bool.and_eq_true, List.all_eq_true] at hv
  obtain ⟨φ, hs, ht⟩ := hr
  exact ⟨φ, ⟨⟨fun b B hb => (by obtain ⟨o, h1, h2⟩ := hs.rel.bl b B hb; exact ⟨o, h1, h2.env hE (hv.2 _ (get_mem hb))⟩), hs.rel.cl, hs.rel.nz, hs.rel.inj, hs.rel.own, hs.rel.os, hs.rel.tape, hs.rel.output, hs.rel.size, hs.rel.fr, fun j B hB => hs.rel.xt j B (by rw [← Env.y_congr hE.x]; exact hB), fun j B hB => hs.rel.xd j B (by rw [← Env.y_congr hE.x]; exact hB)⟩, hs.ext, hs.dom⟩,
    ⟨ht.len, (by have := ht.df; rw [hdf] at this ⊢; exact this), fun t v h => (ht.tm t v h).imp id (fun h2 => by rw [SV.vb_den hE φ (vbL_mem hv.1 v (List.mem_of_getElem? h))]; exact h2), ht.cl, ht.dcl⟩⟩
/-- seen as the head's state, in whatever environment has there what is wanted -/
theorem RelF.goes {s h : St} {a : Act} (es : List IE) (bs : List BE) (ps : List (Nat × Nat)) (hr : RelF P ρ E D w0 φ0 st0 s a w) (hf : fitsB es bs ps s h = true) (h0 : st0.all (fun p => (Store.get h.st p.1).isSome && Nat.beq (pi ps p.1) p.1) = true) (hE : ∀ p ∈ ps, ∀ e ∈ E, p.1 ≠ e.1 ∧ p.2 ≠ e.1)
    (hv : h.vb es.length bs.length = true) (hi : ∀ i e, es[i]? = some e → ρ'.i i = e.den ρ) (hb : ∀ i e, bs[i]? = some e → ρ'.b i = e.den ρ) (ha : ρ'.a = ρ.a) (hff : ρ'.f = ρ.f) (hss : ρ'.s = ρ.s) (hxx : ρ'.x = ρ.x := by rfl) : RelF P ρ' E D w0 φ0 st0 h a w :=
  (hr.fits es bs ps hf h0 hE).env (by simp only [fitsB, Bool.and_eq_true] at hf; exact List.isEmpty_iff.1 hf.1.1.1.1.1.1.2) hv ⟨fun j hj => (hi j es[j] (by simp [hj])).trans (by simp [Env.to, hj]), fun j hj => (hb j bs[j] (by simp [hj])).trans (by simp [Env.to, hj]), ha, hff, hss, hxx⟩
/-- the bounds hold of the numbers from the i-th on -/
def AllIn (f : Nat → Int) : List (Int × Int) → Nat → Prop
  | [], _ => True
  | v :: vs, i => (v.1 ≤ f i ∧ f i ≤ v.2) ∧ AllIn f vs (i + 1)
theorem AllIn.get {f : Nat → Int} : ∀ {vs : List (Int × Int)} {k : Nat}, AllIn f vs k → ∀ (i : Nat) v, vs[i]? = some v → v.1 ≤ f (k + i) ∧ f (k + i) ≤ v.2
  | [], k, _, i, v, h => by simp at h
  | u :: vs, k, hI, i, v, h => by
    cases i with
    | zero => simp at h; subst h; exact hI.1
    | succ i => have := hI.2.get i v (by simpa using h); rwa [show k + (i + 1) = k + 1 + i by omega]
theorem AllIn.get0 {f : Nat → Int} {vs : List (Int × Int)} (h : AllIn f vs 0) (i : Nat) (v : Int × Int) (hv : vs[i]? = some v) : v.1 ≤ f i ∧ f i ≤ v.2 := by have := h.get i v hv; rwa [Nat.zero_add] at this
theorem knows_env {X : Ctx} (hpc : X.pc = []) (hr : AllIn ρ.i X.rg 0) (ha : ∀ (f : Nat) v, X.ar[f]? = some v → ∀ a b c, v.1 ≤ ρ.a f a b c ∧ ρ.a f a b c ≤ v.2) (hxs : ∀ (j : Nat) d, X.xs[j]? = some d → XOk ρ d (ρ.x j) := by intro _ _ h; cases h) (hnm : ∀ p ∈ X.nm, p.1.den ρ = p.2.den ρ := by intro _ h; cases h) (hss : ∀ (j : Nat) d, X.ss[j]? = some d → SOk ρ d (ρ.s j) := by intro _ _ h; cases h) (hnb : ∀ p ∈ X.nb, p.1.den ρ = ρ.b p.2 := by intro _ h; cases h) : Knows ρ X :=
  ⟨fun c hc => (by rw [hpc] at hc; cases hc), fun i v h => (by have := hr.get i v h; rwa [Nat.zero_add] at this), ha, hxs, hnm, hss, hnb⟩

/-! contracts of functions of whole numbers -/
structure Con where
  f : FuncId
  ks : List IntKind
  out : List IE → SV
def argsOf (X : Ctx) : List IntKind → List SV → Option (List IE)
  | [], [] => some []
  | k :: ks, .int l e :: vs => if decide (k = l) && fits X k e then (argsOf X ks vs).map (e :: ·) else none
  | _, _ => none
def conFind (X : Ctx) (f : FuncId) (vs : List SV) : List Con → Option SV
  | [] => none
  | c :: cs => if Nat.beq c.f f then (argsOf X c.ks vs).map c.out else conFind X f vs cs
def conCt (rg ar : List (Int × Int)) (cs : List Con) (pc : List (BE × Bool)) (f : FuncId) (vs : List SV) : Option SV := conFind { pc := pc, rg := rg, ar := ar } f vs cs
def InK : List IntKind → List Int → Prop
  | [], [] => True
  | k :: ks, x :: xs => (k.min ≤ x ∧ x ≤ k.max) ∧ InK ks xs
  | _, _ => False
def intVs : List IntKind → List Int → List Value
  | k :: ks, x :: xs => .int k x :: intVs ks xs
  | _, _ => []
theorem argsOf_ok {X : Ctx} (hX : Knows ρ X) : ∀ {ks : List IntKind} {vs : List SV} {es : List IE}, argsOf X ks vs = some es → InK ks (es.map (IE.den ρ)) ∧ ∀ φ, SV.denL ρ φ vs = intVs ks (es.map (IE.den ρ))
  | [], [], es, h => by simp only [argsOf, Option.some.injEq] at h; subst h; exact ⟨trivial, fun _ => rfl⟩
  | [], _ :: _, es, h => by simp [argsOf] at h
  | k :: ks, [], es, h => by simp [argsOf] at h
  | k :: ks, v :: vs, es, h => by
    cases v <;> simp only [argsOf, reduceCtorEq] at h
    rename_i l e
    split at h
    · rename_i hc
      simp only [Bool.and_eq_true, decide_eq_true_eq] at hc
      obtain ⟨rfl, hf⟩ := hc
      simp only [Option.map_eq_some_iff] at h
      obtain ⟨es', h1, rfl⟩ := h
      obtain ⟨h2, h3⟩ := argsOf_ok hX h1
      exact ⟨⟨fits_ok hX hf, h2⟩, fun φ => by simp only [SV.denL, SV.den, List.map_cons, intVs, h3]⟩
    · cases h
/-- a contract is kept -/
def Con.holds (P : Program) (ρ : Env) (c : Con) : Prop :=
  ∀ es : List IE, InK c.ks (es.map (IE.den ρ)) → ∀ φ w, Calls P c.f (intVs c.ks (es.map (IE.den ρ))).toArray w fun e w' => e = .returned ((c.out es).den ρ φ) ∧ Below w.heap.size w w'
theorem conCt_ok {rg ar : List (Int × Int)} {cs : List Con} (hrg : ∀ (i : Nat) v, rg[i]? = some v → v.1 ≤ ρ.i i ∧ ρ.i i ≤ v.2) (har : ∀ (f : Nat) v, ar[f]? = some v → ∀ a b c, v.1 ≤ ρ.a f a b c ∧ ρ.a f a b c ≤ v.2)
    (hcs : ∀ c ∈ cs, c.holds P ρ) {pc : List (BE × Bool)} (hpc : ∀ c ∈ pc, c.1.den ρ = c.2) {f : FuncId} {vs : List SV} {v : SV} (h : conCt rg ar cs pc f vs = some v) (φ : Nat → Nat) (w : World) :
    Calls P f (SV.denL ρ φ vs).toArray w fun e w' => e = .returned (v.den ρ φ) ∧ Below w.heap.size w w' := by
  have key : ∀ cs : List Con, (∀ c ∈ cs, c.holds P ρ) → conFind { pc := pc, rg := rg, ar := ar } f vs cs = some v → Calls P f (SV.denL ρ φ vs).toArray w fun e w' => e = .returned (v.den ρ φ) ∧ Below w.heap.size w w' := by
    intro cs
    induction cs with
    | nil => intro _ hh; cases hh
    | cons c cs ih =>
      intro hcs hh
      simp only [conFind] at hh
      by_cases hf : Nat.beq c.f f = true
      · rw [if_pos hf] at hh
        have hf : c.f = f := by simpa using hf
        subst hf
        obtain ⟨es, h1, rfl⟩ := Option.map_eq_some_iff.1 hh
        obtain ⟨h2, h3⟩ := argsOf_ok (ρ := ρ) (X := { pc := pc, rg := rg, ar := ar }) ⟨hpc, hrg, har, fun j d hd => by simp at hd, fun p hp => by simp at hp, fun j d hd => by simp at hd, fun p hp => by simp at hp⟩ h1
        rw [h3 φ]
        exact hcs c (by simp) es h2 φ w
      · rw [if_neg hf] at hh
        exact ih (fun d hd => hcs d (by simp [hd])) hh
  exact key cs hcs h
end Ev
end Go.Proofs.Ythhipnhnpjhaaaa
