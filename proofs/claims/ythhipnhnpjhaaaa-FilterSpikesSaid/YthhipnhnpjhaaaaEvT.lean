/- Laws with loops and with slices of the caller's. -/
import Derived.Test.YthhipnhnpjhaaaaEvS
import Derived.Test.YthhipnhnpjhaaaaXo
namespace Go.Proofs.Ythhipnhnpjhaaaa
open Go Go.RowKit Ev
set_option linter.unusedVariables false
set_option maxRecDepth 100000

/-- the loops' sums are kept -/
def LpOk (ρ : Env) (E : List (Nat × Nat)) (lp : FuncId → List Nat → Nat → Option LoopSum) : Prop :=
  ∀ f p u L, lp f p u = some L → ∀ c, codeAt Try.prog f p = .loop c → sameIds L.bl L.bl' = true → LoopGoes Try.prog ρ E L c
theorem LpOk.none {ρ : Env} {E : List (Nat × Nat)} : LpOk ρ E (fun _ _ _ => none) := fun f p u L h => by cases h
/-- the bounds of functions -/
def ArIn (ρ : Env) (ar : List (Int × Int)) : Prop := ∀ (f : Nat) v, ar[f]? = some v → ∀ a b c, v.1 ≤ ρ.a f a b c ∧ ρ.a f a b c ≤ v.2
theorem knowsC_all {cr : List (FuncId × List SV × SV)} {rg ar : List (Int × Int)} {lp : FuncId → List Nat → Nat → Option LoopSum} {xs : List XD} {nm : List (IE × IE)} {ρ : Env} {E : List (Nat × Nat)} (hrg : ∀ (i : Nat) v, rg[i]? = some v → v.1 ≤ ρ.i i ∧ ρ.i i ≤ v.2) (ha : NumA ρ) (har : ArIn ρ ar) (hcr : ∀ c ∈ cr, Known Try.prog ρ c) (hlp : LpOk ρ E lp) :
    KnowsC Try.prog ρ E { pc := [], cr := cr ++ crS, rg := rg, ar := ar, ct := conCt rg ar consN, lp := lp, xs := xs, nm := nm } :=
  ⟨fun c hc φ w hx => (by rcases List.mem_append.1 hc with hc | hc; exact hcr c hc φ w hx; exact crS_ok c hc φ w hx), fun pc hpc f vs v h _ φ w _ => conCt_ok hrg har (consN_ok ha) hpc h φ w, hlp⟩
/-- a law by its tree: known calls, contracts, loops, slices -/
theorem law_all {ρ : Env} {rg ar : List (Int × Int)} (hin : AllIn ρ.i rg 0) (ha : NumA ρ) (har : ArIn ρ ar) {cr : List (FuncId × List SV × SV)} (hcr : ∀ c ∈ cr, Known Try.prog ρ c) {lp : FuncId → List Nat → Nat → Option LoopSum} (hlp : LpOk ρ [] lp) {xs : List XD} (hxs : ∀ (j : Nat) d, xs[j]? = some d → XOk ρ d (ρ.x j))
    (T : Tree) {n : Nat} {f : FuncId} {args : List SV} (hT : T.check Try.prog { pc := [], cr := cr ++ crS, rg := rg, ar := ar, ct := conCt rg ar consN, lp := lp, xs := xs } n f args = true) (hl : T.live ρ = true) {v : Value} (hv : T.val ρ = v) (w : World) (hx : ExtIn ρ w) :
    Calls Try.prog f (SV.denL ρ id args).toArray w fun e w' => e = .returned v ∧ Below w.heap.size w w' := by
  have h := tree_soundX (P := Try.prog) mixed (ρ := ρ) T (X := { pc := [], cr := cr ++ crS, rg := rg, ar := ar, ct := conCt rg ar consN, lp := lp, xs := xs }) (knows_env rfl hin har hxs)
    (knowsC_all hin.get0 ha har hcr hlp) (Tree.ok_of_check hT) hl w hx
  rw [hv] at h
  exact h
/-- a path of the tree is taken, and what it comes to is true -/
def good (ρ : Env) : Tree → Bool
  | .dead => false
  | .leaf (.bool b) => b.den ρ
  | .leaf _ => false
  | .node c t e => cond (c.den ρ) (good ρ t) (good ρ e)
theorem good_ok {ρ : Env} : ∀ {T : Tree}, good ρ T = true → T.live ρ = true ∧ T.val ρ = .bool true
  | .dead, h => by cases h
  | .leaf v, h => by
    cases v <;> simp only [good, Bool.false_eq_true] at h
    exact ⟨rfl, by simp only [Tree.val, SV.den, h]⟩
  | .node c t e, h => by
    simp only [good] at h
    simp only [Tree.live, Tree.val]
    cases hc : c.den ρ with
    | true => rw [hc] at h; exact good_ok h
    | false => rw [hc] at h; exact good_ok h
/-- a law by its tree, path by path -/
theorem law_good {ρ : Env} {rg ar : List (Int × Int)} (hin : AllIn ρ.i rg 0) (ha : NumA ρ) (har : ArIn ρ ar) {cr : List (FuncId × List SV × SV)} (hcr : ∀ c ∈ cr, Known Try.prog ρ c) {lp : FuncId → List Nat → Nat → Option LoopSum} (hlp : LpOk ρ [] lp) {xs : List XD} (hxs : ∀ (j : Nat) d, xs[j]? = some d → XOk ρ d (ρ.x j)) {nm : List (IE × IE)} (hnm : ∀ p ∈ nm, p.1.den ρ = p.2.den ρ)
    (T : Tree) {n : Nat} {f : FuncId} {args : List SV} (hT : T.Ok Try.prog { pc := [], cr := cr ++ crS, rg := rg, ar := ar, ct := conCt rg ar consN, lp := lp, xs := xs, nm := nm } n f args) (hg : good ρ T = true) (w : World) (hx : ExtIn ρ w) :
    Calls Try.prog f (SV.denL ρ id args).toArray w fun e w' => e = .returned (.bool true) ∧ Below w.heap.size w w' := by
  obtain ⟨hl, hv⟩ := good_ok hg
  have h := tree_soundX (P := Try.prog) mixed (ρ := ρ) T (X := { pc := [], cr := cr ++ crS, rg := rg, ar := ar, ct := conCt rg ar consN, lp := lp, xs := xs, nm := nm }) (knows_env rfl hin har hxs hnm)
    (knowsC_all hin.get0 ha har hcr hlp) hT hl w hx
  rw [hv] at h
  exact h
theorem arIn_N {ρ : Env} (h : ρ.a = apN) : ArIn ρ arN := by unfold ArIn; rw [h]; exact arN_ok
theorem arIn_R {ρ : Env} {rows : List (Int → Int)} {l : List (Int × Int)} (h : ρ.a = apR rows) (hr : ∀ (i : Nat) v, l[i]? = some v → ∀ a, v.1 ≤ (rows.getD i (fun _ => 0)) a ∧ (rows.getD i (fun _ => 0)) a ≤ v.2) : ArIn ρ (arN ++ l) := by unfold ArIn; rw [h]; exact arR_ok hr
/-- the slice of a law that has one -/
theorem xok_one {ks : List EK} {W : World} {v : Value} {B : Ext} {rows : List (Int → Int)} (h : XIn ks W v B rows) {ρ : Env} (ha : ρ.a = apR rows) {n : Nat} (hn : ρ.i n = B.len) : XOk ρ ⟨n, 20, ks⟩ (some B) := by
  refine ⟨hn, h.sz, .inl h.em, fun i c k hi hk => ?_⟩
  rw [h.cells i c k hi hk]
  have hc := (List.getElem?_eq_some_iff.1 hk).1
  cases k <;> simp only [ekV, cellV, ha, apR, if_neg (show ¬ 20 + c < 20 by omega), show 20 + c - 20 = c by omega]
theorem xs_one {ρ : Env} {d : XD} {o : Option Ext} (h : XOk ρ d o) (hx : ρ.x 0 = o) : ∀ (j : Nat) d', [d][j]? = some d' → XOk ρ d' (ρ.x j) := by
  intro j d' hj
  have h0 := (List.getElem?_eq_some_iff.1 hj).1
  obtain rfl : j = 0 := by simp at h0; exact h0
  simp at hj
  subst hj
  rw [hx]
  exact h
theorem ext_one {ks : List EK} {W : World} {v : Value} {B : Ext} {rows : List (Int → Int)} (h : XIn ks W v B rows) {ρ : Env} (hx : ρ.x = fun n => [some B].getD n none) : ExtIn ρ W := by
  exact ext_any ⟨h.val, h.le, .inl h.em, fun _ => h.heap, h.sz, h.len, h.cells, h.rg⟩ hx
theorem xok_any {ks : List EK} {W : World} {v : Value} {B : Ext} {rows : List (Int → Int)} (h : XAny ks W v B rows) {ρ : Env} (ha : ρ.a = apR rows) {n : Nat} (hn : ρ.i n = B.len) : XOk ρ ⟨n, 20, ks⟩ (some B) := by
  refine ⟨hn, h.sz, h.emp, fun i c k hi hk => ?_⟩
  rw [h.cells i c k hi hk]
  have hc := (List.getElem?_eq_some_iff.1 hk).1
  cases k <;> simp only [ekV, cellV, ha, apR, if_neg (show ¬ 20 + c < 20 by omega), show 20 + c - 20 = c by omega]
/-- a loop's sum by what holds at its head; the rounds' environments may tell more than the head has variables -/
theorem rt_lpx {L : LoopSum} {n : Nat} {f : FuncId} {p : List Nat} {u : Nat} {H : St} {T : RT} {X : Ctx} {es : List IE} {bs : List BE} (hB : lpB Try.prog X n f p u L H T es bs = true) {c : Code} (hc : codeAt Try.prog f p = .loop c) {ρ : Env} {E : List (Nat × Nat)}
    (J : Nat → List Int → List Bool → Prop) (hX : ∀ m is bs, J m is bs → Knows (ρ.on is bs) X) (hC : ∀ m is bs, J m is bs → ∀ E, KnowsC Try.prog (ρ.on is bs) E X)
    (h0 : ∃ m is bs', J m is bs' ∧ dens ρ es <+: is ∧ bdens ρ bs <+: bs') (hstep : ∀ m is bs, J m is bs → (∃ is' bs' m' js cs, T.next (ρ.on is bs) = some (is', bs') ∧ m' < m ∧ J m' js cs ∧ is' <+: js ∧ bs' <+: cs) ∨ (∃ is' bs', T.out (ρ.on is bs) = some (is', bs') ∧ ρ.has is' bs'))
    : LoopGoes Try.prog ρ E L c := by
  simp only [lpB, Bool.and_eq_true] at hB
  obtain ⟨⟨⟨⟨⟨⟨hown, hHs⟩, hLs⟩, hT⟩, hf0⟩, hv0⟩, hne⟩ := hB
  have hcp : codeAt Try.prog f (0 :: p) = c := by simp only [codeAt, hc, child]
  have pre : ∀ {is js : List Int} {bs cs : List Bool}, is <+: js → bs <+: cs → (ρ.on js cs).has is bs := by
    rintro is _ bs _ ⟨r, rfl⟩ ⟨s, rfl⟩
    exact Env.has_left (ρ.on_has (is ++ r) (bs ++ s))
  refine lp_frame hown (fun w1 φ1 a D hr1 Q hQ1 => ?_)
  have al : ∀ {t : Store}, L.bl.all (fun q => (Store.get t q.1).isSome) = true → L.bl.all (fun q => (Store.get t q.1).isSome && Nat.beq (Ev.pi [] q.1) q.1) = true := by
    intro t ht
    rw [List.all_eq_true] at ht ⊢
    intro q hq
    simp only [Bool.and_eq_true]
    exact ⟨ht q hq, by simp [Ev.pi]⟩
  obtain ⟨m0, is0, bs0, hJ0, hi0, hb0⟩ := h0
  have hh := pre hi0 hb0
  have hr2 := hr1.goes (ρ' := ρ.on is0 bs0) es bs [] hf0 (al hHs) (by simp) hv0 (fun i e he => hh.1 i _ (by simp [dens, he])) (fun i e he => hh.2 i _ (by simp [bdens, he])) rfl rfl rfl rfl
  refine wpIn_loop_ind (fun m a w => ∃ is bs, J m is bs ∧ RelF Try.prog (ρ.on is bs) (L.bl.map fun p => (p.1, φ1 p.1)) D w1 φ1 L.bl H a w) ?_ (m := m0) ⟨_, _, hJ0, hr2⟩
  rintro m a w ⟨is, bs', hJ, hr⟩
  rcases hstep m is bs' hJ with ⟨is', bs'', m', js, cs, h1, hlt, hJ', hp1, hp2⟩ | ⟨is', bs'', h1, h2⟩
  · exact rt_go mixed hcp hHs T (ρ' := ρ.on js cs) (hX m is bs' hJ) (hC m is bs' hJ _) hT hr ⟨rfl, rfl, rfl, rfl⟩ h1 (pre hp1 hp2) (fun a' w' hr' => ⟨m', hlt, js, cs, hJ', hr'⟩)
  · refine rt_stop mixed hcp hLs T (ρ' := ρ) (hX m is bs' hJ) (hC m is bs' hJ _) hT hr ⟨rfl, rfl, rfl, rfl⟩ h1 h2 (fun a' w' hr' => ?_)
    have := hQ1 a' w' hr'
    cases hex : L.ex with
    | normal => rw [hex] at hne; cases hne
    | pan v => rw [hex] at hne; cases hne
    | exit i => rw [hex] at this; exact this
    | ret => rw [hex] at this; exact this
end Go.Proofs.Ythhipnhnpjhaaaa
