/- Several texts in one. -/
import Derived.Test.YthhipnhnpjhaaaaM27
import Derived.Test.YthhipnhnpjhaaaaM28
import Derived.Test.YthhipnhnpjhaaaaM14
/- Laws with loops and with slices of the caller's. -/
namespace Go.Proofs.Ythhipnhnpjhaaaa
open Go Go.RowKit Ev
set_option linter.unusedVariables false
set_option maxRecDepth 100000

/-- the loops' sums are kept -/
def LpOk (ρ : Env) (E : List (Nat × Nat)) (lp : FuncId → List Nat → Nat → Option LoopSum) : Prop :=
  ∀ f p u L, lp f p u = some L → ∀ c, codeAt Try.prog f p = .loop c → sameIds L.bl L.bl' = true → LoopGoes Try.prog ρ E L c
theorem LpOk.none {ρ : Env} {E : List (Nat × Nat)} : LpOk ρ E (fun _ _ _ => none) := fun f p u L h => by cases h
/-- the bounds of functions -/
def ArIn (ρ : Env) (ar : List (Int × Int)) : Prop := ∀ (f : Nat) v, ar[f]? = some v → ∀ a b c, v.1 ≤ ρ.a f a b c ∧ ρ.a f a b c ≤ v.2
theorem knowsC_all {cr : List (FuncId × List SV × SV)} {rg ar : List (Int × Int)} {lp : FuncId → List Nat → Nat → Option LoopSum} {xs : List XD} {nm : List (IE × IE)} {ρ : Env} {E : List (Nat × Nat)} (hrg : ∀ (i : Nat) v, rg[i]? = some v → v.1 ≤ ρ.i i ∧ ρ.i i ≤ v.2) (ha : NumA ρ) (har : ArIn ρ ar) (hcr : ∀ c ∈ cr, Known Try.prog ρ c) (hlp : LpOk ρ E lp) :
    KnowsC Try.prog ρ E { pc := [], cr := cr ++ crS, rg := rg, ar := ar, ct := conCt rg ar consN, lp := lp, xs := xs, nm := nm } :=
  ⟨fun c hc φ w hx => (by rcases List.mem_append.1 hc with hc | hc; exact hcr c hc φ w hx; exact crS_ok c hc φ w hx), fun pc hpc f vs v h _ φ w _ => conCt_ok hrg har (consN_ok ha) hpc h φ w, hlp⟩
/-- a law by its tree: known calls, contracts, loops, slices -/
theorem law_all {ρ : Env} {rg ar : List (Int × Int)} (hin : AllIn ρ.i rg 0) (ha : NumA ρ) (har : ArIn ρ ar) {cr : List (FuncId × List SV × SV)} (hcr : ∀ c ∈ cr, Known Try.prog ρ c) {lp : FuncId → List Nat → Nat → Option LoopSum} (hlp : LpOk ρ [] lp) {xs : List XD} (hxs : ∀ (j : Nat) d, xs[j]? = some d → XOk ρ d (ρ.x j))
    (T : Tree) {n : Nat} {f : FuncId} {args : List SV} (hT : T.check Try.prog { pc := [], cr := cr ++ crS, rg := rg, ar := ar, ct := conCt rg ar consN, lp := lp, xs := xs } n f args = true) (hl : T.live ρ = true) {v : Value} (hv : T.val ρ = v) (w : World) (hx : ExtIn ρ w) :
    Calls Try.prog f (SV.denL ρ id args).toArray w fun e w' => e = .returned v ∧ Below w.heap.size w w' := by
  have h := tree_soundX (P := Try.prog) mixed (ρ := ρ) T (X := { pc := [], cr := cr ++ crS, rg := rg, ar := ar, ct := conCt rg ar consN, lp := lp, xs := xs }) (knows_env rfl hin har hxs)
    (knowsC_all hin.get0 ha har hcr hlp) (Tree.ok_of_check hT) hl w hx
  rw [hv] at h
  exact h
/-- a path of the tree is taken, and what it comes to is true -/
def good (ρ : Env) : Tree → Bool
  | .dead => false
  | .leaf (.bool b) => b.den ρ
  | .leaf _ => false
  | .node c t e => cond (c.den ρ) (good ρ t) (good ρ e)
theorem good_ok {ρ : Env} : ∀ {T : Tree}, good ρ T = true → T.live ρ = true ∧ T.val ρ = .bool true
  | .dead, h => by cases h
  | .leaf v, h => by
    cases v <;> simp only [good, Bool.false_eq_true] at h
    exact ⟨rfl, by simp only [Tree.val, SV.den, h]⟩
  | .node c t e, h => by
    simp only [good] at h
    simp only [Tree.live, Tree.val]
    cases hc : c.den ρ with
    | true => rw [hc] at h; exact good_ok h
    | false => rw [hc] at h; exact good_ok h
/-- a law by its tree, path by path -/
theorem law_good {ρ : Env} {rg ar : List (Int × Int)} (hin : AllIn ρ.i rg 0) (ha : NumA ρ) (har : ArIn ρ ar) {cr : List (FuncId × List SV × SV)} (hcr : ∀ c ∈ cr, Known Try.prog ρ c) {lp : FuncId → List Nat → Nat → Option LoopSum} (hlp : LpOk ρ [] lp) {xs : List XD} (hxs : ∀ (j : Nat) d, xs[j]? = some d → XOk ρ d (ρ.x j)) {nm : List (IE × IE)} (hnm : ∀ p ∈ nm, p.1.den ρ = p.2.den ρ)
    (T : Tree) {n : Nat} {f : FuncId} {args : List SV} (hT : T.Ok Try.prog { pc := [], cr := cr ++ crS, rg := rg, ar := ar, ct := conCt rg ar consN, lp := lp, xs := xs, nm := nm } n f args) (hg : good ρ T = true) (w : World) (hx : ExtIn ρ w) :
    Calls Try.prog f (SV.denL ρ id args).toArray w fun e w' => e = .returned (.bool true) ∧ Below w.heap.size w w' := by
  obtain ⟨hl, hv⟩ := good_ok hg
  have h := tree_soundX (P := Try.prog) mixed (ρ := ρ) T (X := { pc := [], cr := cr ++ crS, rg := rg, ar := ar, ct := conCt rg ar consN, lp := lp, xs := xs, nm := nm }) (knows_env rfl hin har hxs hnm)
    (knowsC_all hin.get0 ha har hcr hlp) hT hl w hx
  rw [hv] at h
  exact h
theorem arIn_N {ρ : Env} (h : ρ.a = apN) : ArIn ρ arN := by unfold ArIn; rw [h]; exact arN_ok
theorem arIn_R {ρ : Env} {rows : List (Int → Int)} {l : List (Int × Int)} (h : ρ.a = apR rows) (hr : ∀ (i : Nat) v, l[i]? = some v → ∀ a, v.1 ≤ (rows.getD i (fun _ => 0)) a ∧ (rows.getD i (fun _ => 0)) a ≤ v.2) : ArIn ρ (arN ++ l) := by unfold ArIn; rw [h]; exact arR_ok hr
/-- the slice of a law that has one -/
theorem xok_one {ks : List EK} {W : World} {v : Value} {B : Ext} {rows : List (Int → Int)} (h : XIn ks W v B rows) {ρ : Env} (ha : ρ.a = apR rows) {n : Nat} (hn : ρ.i n = B.len) : XOk ρ ⟨n, 20, ks⟩ (some B) := by
  refine ⟨hn, h.sz, .inl h.em, fun i c k hi hk => ?_⟩
  rw [h.cells i c k hi hk]
  have hc := (List.getElem?_eq_some_iff.1 hk).1
  cases k <;> simp only [ekV, cellV, ha, apR, if_neg (show ¬ 20 + c < 20 by omega), show 20 + c - 20 = c by omega]
theorem xs_one {ρ : Env} {d : XD} {o : Option Ext} (h : XOk ρ d o) (hx : ρ.x 0 = o) : ∀ (j : Nat) d', [d][j]? = some d' → XOk ρ d' (ρ.x j) := by
  intro j d' hj
  have h0 := (List.getElem?_eq_some_iff.1 hj).1
  obtain rfl : j = 0 := by simp at h0; exact h0
  simp at hj
  subst hj
  rw [hx]
  exact h
theorem ext_one {ks : List EK} {W : World} {v : Value} {B : Ext} {rows : List (Int → Int)} (h : XIn ks W v B rows) {ρ : Env} (hx : ρ.x = fun n => [some B].getD n none) : ExtIn ρ W := by
  exact ext_any ⟨h.val, h.le, .inl h.em, fun _ => h.heap, h.sz, h.len, h.cells, h.rg, h.ng⟩ hx
theorem xok_any {ks : List EK} {W : World} {v : Value} {B : Ext} {rows : List (Int → Int)} (h : XAny ks W v B rows) {ρ : Env} (ha : ρ.a = apR rows) {n : Nat} (hn : ρ.i n = B.len) : XOk ρ ⟨n, 20, ks⟩ (some B) := by
  refine ⟨hn, h.sz, h.emp, fun i c k hi hk => ?_⟩
  rw [h.cells i c k hi hk]
  have hc := (List.getElem?_eq_some_iff.1 hk).1
  cases k <;> simp only [ekV, cellV, ha, apR, if_neg (show ¬ 20 + c < 20 by omega), show 20 + c - 20 = c by omega]
/-- a loop's sum by what holds at its head; the rounds' environments may tell more than the head has variables -/
theorem rt_lpx {L : LoopSum} {n : Nat} {f : FuncId} {p : List Nat} {u : Nat} {H : St} {T : RT} {X : Ctx} {es : List IE} {bs : List BE} (hB : lpB Try.prog X n f p u L H T es bs = true) {c : Code} (hc : codeAt Try.prog f p = .loop c) {ρ : Env} {E : List (Nat × Nat)}
    (J : Nat → List Int → List Bool → Prop) (hX : ∀ m is bs, J m is bs → Knows (ρ.on is bs) X) (hC : ∀ m is bs, J m is bs → ∀ E, KnowsC Try.prog (ρ.on is bs) E X)
    (h0 : ∃ m is bs', J m is bs' ∧ dens ρ es <+: is ∧ bdens ρ bs <+: bs') (hstep : ∀ m is bs, J m is bs → (∃ is' bs' m' js cs, T.next (ρ.on is bs) = some (is', bs') ∧ m' < m ∧ J m' js cs ∧ is' <+: js ∧ bs' <+: cs) ∨ (∃ is' bs', T.out (ρ.on is bs) = some (is', bs') ∧ ρ.has is' bs'))
    : LoopGoes Try.prog ρ E L c := by
  simp only [lpB, Bool.and_eq_true] at hB
  obtain ⟨⟨⟨⟨⟨⟨hown, hHs⟩, hLs⟩, hT⟩, hf0⟩, hv0⟩, hne⟩ := hB
  have hcp : codeAt Try.prog f (0 :: p) = c := by simp only [codeAt, hc, child]
  have pre : ∀ {is js : List Int} {bs cs : List Bool}, is <+: js → bs <+: cs → (ρ.on js cs).has is bs := by
    rintro is _ bs _ ⟨r, rfl⟩ ⟨s, rfl⟩
    exact Env.has_left (ρ.on_has (is ++ r) (bs ++ s))
  refine lp_frame hown (fun w1 φ1 a D hr1 Q hQ1 => ?_)
  have al : ∀ {t : Store}, L.bl.all (fun q => (Store.get t q.1).isSome) = true → L.bl.all (fun q => (Store.get t q.1).isSome && Nat.beq (Ev.pi [] q.1) q.1) = true := by
    intro t ht
    rw [List.all_eq_true] at ht ⊢
    intro q hq
    simp only [Bool.and_eq_true]
    exact ⟨ht q hq, by simp [Ev.pi]⟩
  obtain ⟨m0, is0, bs0, hJ0, hi0, hb0⟩ := h0
  have hh := pre hi0 hb0
  have hr2 := hr1.goes (ρ' := ρ.on is0 bs0) es bs [] hf0 (al hHs) (by simp) hv0 (fun i e he => hh.1 i _ (by simp [dens, he])) (fun i e he => hh.2 i _ (by simp [bdens, he])) rfl rfl rfl rfl
  refine wpIn_loop_ind (fun m a w => ∃ is bs, J m is bs ∧ RelF Try.prog (ρ.on is bs) (L.bl.map fun p => (p.1, φ1 p.1)) D w1 φ1 L.bl H a w) ?_ (m := m0) ⟨_, _, hJ0, hr2⟩
  rintro m a w ⟨is, bs', hJ, hr⟩
  rcases hstep m is bs' hJ with ⟨is', bs'', m', js, cs, h1, hlt, hJ', hp1, hp2⟩ | ⟨is', bs'', h1, h2⟩
  · exact rt_go mixed hcp hHs T (ρ' := ρ.on js cs) (hX m is bs' hJ) (hC m is bs' hJ _) hT hr ⟨rfl, rfl, rfl, rfl⟩ h1 (pre hp1 hp2) (fun a' w' hr' => ⟨m', hlt, js, cs, hJ', hr'⟩)
  · refine rt_stop mixed hcp hLs T (ρ' := ρ) (hX m is bs' hJ) (hC m is bs' hJ _) hT hr ⟨rfl, rfl, rfl, rfl⟩ h1 h2 (fun a' w' hr' => ?_)
    have := hQ1 a' w' hr'
    cases hex : L.ex with
    | normal => rw [hex] at hne; cases hne
    | pan v => rw [hex] at hne; cases hne
    | exit i => rw [hex] at this; exact this
    | ret => rw [hex] at this; exact this
end Go.Proofs.Ythhipnhnpjhaaaa
/- Law 14: contracts whose results are named; what is shown, what is standard; FilterQuiet's tree. -/
namespace Go.Proofs.Ythhipnhnpjhaaaa
open Go Go.RowKit Ev
set_option linter.unusedVariables false
set_option linter.unusedSimpArgs false
set_option maxRecDepth 100000
set_option maxHeartbeats 0

/-- the name of an expression -/
def nmL : List (IE × IE) → IE → IE
  | [], e => e
  | p :: ps, e => if p.1.beq e then p.2 else nmL ps e
theorem nmL_den {ρ : Env} : ∀ {tbl : List (IE × IE)}, (∀ p ∈ tbl, p.1.den ρ = p.2.den ρ) → ∀ e, (nmL tbl e).den ρ = e.den ρ
  | [], _, e => rfl
  | p :: ps, h, e => by
    unfold nmL
    split
    · rename_i hb
      rw [← IE.beq_eq hb]
      exact (h p (List.mem_cons_self ..)).symm
    · exact nmL_den (fun q hq => h q (List.mem_cons_of_mem _ hq)) e
def conNm (tbl : List (IE × IE)) (c : Con) : Con := ⟨c.f, c.ks, fun es => match c.out es with | .int k e => .int k (nmL tbl e) | v => v⟩
theorem conNm_ok {P : Program} {ρ : Env} {tbl : List (IE × IE)} (ht : ∀ p ∈ tbl, p.1.den ρ = p.2.den ρ) {c : Con} (h : c.holds P ρ) : (conNm tbl c).holds P ρ := by
  intro es hi φ w
  have k := h es hi φ w
  refine k.mono ?_
  rintro e w' ⟨rfl, hb⟩
  refine ⟨congrArg Ending.returned ?_, hb⟩
  simp only [conNm]
  cases hc : c.out es <;> first | rfl | (simp only [SV.den, nmL_den ht])
theorem consNm_ok {P : Program} {ρ : Env} {tbl : List (IE × IE)} (ht : ∀ p ∈ tbl, p.1.den ρ = p.2.den ρ) {cs : List Con} (h : ∀ c ∈ cs, c.holds P ρ) : ∀ c ∈ cs.map (conNm tbl), c.holds P ρ := by
  intro c hc
  obtain ⟨d, hd, rfl⟩ := List.mem_map.1 hc
  exact conNm_ok ht (h d hd)
/-- a law by its tree, path by path, with any contracts -/
theorem law_cs {ρ : Env} {rg ar : List (Int × Int)} (hin : AllIn ρ.i rg 0) (har : ArIn ρ ar) {cs : List Con} (hcs : ∀ c ∈ cs, c.holds Try.prog ρ) {cr : List (FuncId × List SV × SV)} (hcr : ∀ c ∈ cr, Known Try.prog ρ c) {lp : FuncId → List Nat → Nat → Option LoopSum} (hlp : LpOk ρ [] lp) {xs : List XD} (hxs : ∀ (j : Nat) d, xs[j]? = some d → XOk ρ d (ρ.x j)) {nm : List (IE × IE)} (hnm : ∀ p ∈ nm, p.1.den ρ = p.2.den ρ) {nz : Bool}
    (T : Tree) {n : Nat} {f : FuncId} {args : List SV} (hT : T.Ok Try.prog { pc := [], cr := cr ++ crS, rg := rg, ar := ar, ct := conCt rg ar cs, lp := lp, xs := xs, nm := nm, nz := nz } n f args) (hg : good ρ T = true) (w : World) (hx : ExtIn ρ w) :
    Calls Try.prog f (SV.denL ρ id args).toArray w fun e w' => e = .returned (.bool true) ∧ Below w.heap.size w w' := by
  obtain ⟨hl, hv⟩ := good_ok hg
  have h := tree_soundX (P := Try.prog) mixed (ρ := ρ) T (X := { pc := [], cr := cr ++ crS, rg := rg, ar := ar, ct := conCt rg ar cs, lp := lp, xs := xs, nm := nm, nz := nz }) (knows_env rfl hin har hxs hnm)
    ⟨fun c hc φ w hx => (by rcases List.mem_append.1 hc with hc | hc; exact hcr c hc φ w hx; exact crS_ok c hc φ w hx), fun pc hpc f vs v h _ φ w _ => conCt_ok hin.get0 har hcs hpc h φ w, hlp⟩ hT hl w hx
  rw [hv] at h
  exact h

theorem shown14 (w : World) : Calls Try.prog 14 #[] w fun e w' => e = .returned (.bool true) ∧ Below w.heap.size w w' :=
  law_any (is := []) (bs := []) (fs := []) (rg := []) (args := []) trivial (cr := []) (fun c hc => by cases hc) (.leaf (.bool (.lit true))) (n := 3000) (by kernel_rfl) rfl rfl w
theorem standard14 (w : World) : Calls Try.prog 17 #[] w fun e w' => e = .returned (stdS.den (envOf []) id) ∧ Below w.heap.size w w' :=
  closed_call (args := []) (v := stdS) (by kernel_rfl) rfl w
abbrev k14 : List (FuncId × List SV × SV) := [(14, [], .bool (.lit true)), (17, [], stdS)]
theorem k14_ok {ρ : Env} : ∀ c ∈ k14, Known Try.prog ρ c := by
  intro c hc
  simp only [k14, List.mem_cons, List.not_mem_nil, or_false] at hc
  rcases hc with rfl | rfl
  · exact fun φ w _ => shown14 w
  · exact fun φ w _ => standard14 w
theorem good_pin {ρ : Env} {v : Nat} {k : Int} {t e : Tree} (h : ρ.i v = k) (ht : good ρ t = true) : good ρ (.node (.cmp .eql (.var v) (.lit k)) t e) = true := by
  show cond (ρ.i v == k) (good ρ t) (good ρ e) = true
  rw [beq_iff_eq.2 h]; exact ht
theorem good_skip {ρ : Env} {v : Nat} {k : Int} {t e : Tree} (h : ¬ ρ.i v = k) (he : good ρ e = true) : good ρ (.node (.cmp .eql (.var v) (.lit k)) t e) = true := by
  show cond (ρ.i v == k) (good ρ t) (good ρ e) = true
  rw [beq_false_of_ne h]; exact he
theorem good_lss {ρ : Env} {a b : IE} (h : a.den ρ < b.den ρ) : good ρ (.leaf (.bool (.cmp .lss a b))) = true := decide_eq_true h
theorem good_not {ρ : Env} {a b : IE} {t e : Tree} (h : ¬ a.den ρ < b.den ρ) (he : good ρ e = true) : good ρ (.node (.cmp .lss a b) t e) = true := by
  show cond (decide (a.den ρ < b.den ρ)) (good ρ t) (good ρ e) = true
  rw [decide_eq_false h]; exact he
theorem good_is {ρ : Env} {a b : IE} {t e : Tree} (h : a.den ρ < b.den ρ) (he : good ρ t = true) : good ρ (.node (.cmp .lss a b) t e) = true := by
  show cond (decide (a.den ρ < b.den ρ)) (good ρ t) (good ρ e) = true
  rw [decide_eq_true h]; exact he
/-- sums that are not cut -/
theorem sum_in {ρ : Env} (hap : ρ.a = apN) {x y : IE} {L B M C : Int} (hx : L ≤ x.den ρ ∧ x.den ρ ≤ B) (hy : M ≤ y.den ρ ∧ y.den ρ ≤ C) (h : 0 ≤ L + M ∧ B + C ≤ 9223372036854775807) : L + M ≤ (IE.ap 1 x y (.lit 0)).den ρ ∧ (IE.ap 1 x y (.lit 0)).den ρ ≤ B + C := by
  show L + M ≤ ρ.a 1 (x.den ρ) (y.den ρ) 0 ∧ ρ.a 1 (x.den ρ) (y.den ρ) 0 ≤ B + C
  rw [hap]
  show L + M ≤ sat (x.den ρ + y.den ρ) ∧ sat (x.den ρ + y.den ρ) ≤ B + C
  unfold sat; omega
theorem lit_in {ρ : Env} (k : Int) : k ≤ (IE.lit k).den ρ ∧ (IE.lit k).den ρ ≤ k := ⟨Int.le_refl _, Int.le_refl _⟩
theorem half_in {ρ : Env} (hap : ρ.a = apN) {v : Nat} (hv : 0 ≤ ρ.i v ∧ ρ.i v ≤ 65535) {b : Int} (hb : b ≤ 0) : 0 ≤ (IE.ap 3 (.mn (.lit 68719476736) (.var v)) (.lit b) (.lit 0)).den ρ ∧ (IE.ap 3 (.mn (.lit 68719476736) (.var v)) (.lit b) (.lit 0)).den ρ ≤ 65535 := by
  show 0 ≤ ρ.a 3 (mnI 68719476736 (ρ.i v)) b 0 ∧ ρ.a 3 (mnI 68719476736 (ρ.i v)) b 0 ≤ 65535
  rw [hap]
  have e : mnI 68719476736 (ρ.i v) = ρ.i v := by unfold mnI; split <;> omega
  rw [e]
  show 0 ≤ sat (if b ≤ 0 then ρ.i v / 2 ^ (min 63 (-b).toNat) else ρ.i v * 2 ^ (min b.toNat 64)) ∧ sat (if b ≤ 0 then ρ.i v / 2 ^ (min 63 (-b).toNat) else ρ.i v * 2 ^ (min b.toNat 64)) ≤ 65535
  rw [if_pos hb]
  have hp : (1 : Int) ≤ 2 ^ (min 63 (-b).toNat) := Int.pow_pos (by decide)
  generalize (2 : Int) ^ (min 63 (-b).toNat) = p at hp
  have h0 : 0 ≤ ρ.i v / p := Int.ediv_nonneg hv.1 (by omega)
  have h1 : ρ.i v / p ≤ ρ.i v := Int.ediv_le_self _ hv.1
  unfold sat; omega

abbrev fqR : List (Int × Int) := [(-2147483648, 2147483647), (0, 65535), (0, 65535), (0, 255), (1, 12)]
abbrev fqX : List (IE × IE) := [(.pl .add (.lit 1) (.ar .rem .i64 (.var 3) (.lit 12)), .var 4)]
abbrev fqN : List (IE × IE) := [(.ap 2 (.var 0) (.lit 0) (.lit 0), .var 0), (.ap 2 (.var 0) (.var 0) (.lit 0), .lit 0), (.ap 1 (.var 2) (.lit 0) (.lit 0), .var 2)]
abbrev fqA : List SV := [.int .i32 (.var 0), .int .u16 (.var 1), .int .u16 (.var 2), .int .u8 (.var 3)]
noncomputable abbrev fqC (pc : List (BE × Bool)) : Ctx := { pc := pc, cr := k14 ++ crS, rg := fqR, ar := arN, ct := conCt fqR arN (consN.map (conNm fqN)), nm := fqX }
def fqT : Tree :=
(.node (.cmp .eql (.var 4) (.lit 1))
 (.node (.cmp .lss (.ap 1 (.ap 1 (.ap 1 (.ap 1 (.ap 1 (.ap 1 (.ap 1 (.ap 1 (.lit 0) (.ap 3 (.mn (.lit 68719476736) (.var 2)) (.lit (-1)) (.lit 0)) (.lit 0)) (.lit 17179869184) (.lit 0)) (.lit 8589934592) (.lit 0)) (.lit 4294967296) (.lit 0)) (.lit 2147483648) (.lit 0)) (.lit 1073741824) (.lit 0)) (.lit 536870912) (.lit 0)) (.lit 268435456) (.lit 0)) (.lit 33822867456))
 .dead
 (.leaf (.bool (.cmp .lss (.ap 1 (.ap 1 (.ap 1 (.ap 1 (.ap 1 (.ap 1 (.ap 1 (.ap 1 (.lit 0) (.ap 3 (.mn (.lit 68719476736) (.var 2)) (.lit (-1)) (.lit 0)) (.lit 0)) (.lit 17179869184) (.lit 0)) (.lit 8589934592) (.lit 0)) (.lit 4294967296) (.lit 0)) (.lit 2147483648) (.lit 0)) (.lit 1073741824) (.lit 0)) (.lit 536870912) (.lit 0)) (.lit 268435456) (.lit 0)) (.lit 38654705664)))))
 (.node (.cmp .eql (.var 4) (.lit 2))
 (.leaf (.bool (.cmp .lss (.ap 1 (.ap 1 (.ap 1 (.ap 1 (.ap 1 (.ap 1 (.ap 1 (.ap 1 (.lit 0) (.ap 3 (.mn (.lit 68719476736) (.var 2)) (.lit (-1)) (.lit 0)) (.lit 0)) (.ap 3 (.mn (.lit 68719476736) (.var 2)) (.lit (-2)) (.lit 0)) (.lit 0)) (.lit 8589934592) (.lit 0)) (.lit 4294967296) (.lit 0)) (.lit 2147483648) (.lit 0)) (.lit 1073741824) (.lit 0)) (.lit 536870912) (.lit 0)) (.lit 268435456) (.lit 0)) (.lit 34359738368))))
 (.node (.cmp .eql (.var 4) (.lit 3))
 (.leaf (.bool (.cmp .lss (.ap 1 (.ap 1 (.ap 1 (.ap 1 (.ap 1 (.ap 1 (.ap 1 (.ap 1 (.lit 0) (.ap 3 (.mn (.lit 68719476736) (.var 2)) (.lit (-1)) (.lit 0)) (.lit 0)) (.ap 3 (.mn (.lit 68719476736) (.var 2)) (.lit (-2)) (.lit 0)) (.lit 0)) (.ap 3 (.mn (.lit 68719476736) (.var 2)) (.lit (-3)) (.lit 0)) (.lit 0)) (.lit 4294967296) (.lit 0)) (.lit 2147483648) (.lit 0)) (.lit 1073741824) (.lit 0)) (.lit 536870912) (.lit 0)) (.lit 268435456) (.lit 0)) (.lit 34359738368))))
 (.node (.cmp .eql (.var 4) (.lit 4))
 (.leaf (.bool (.cmp .lss (.ap 1 (.ap 1 (.ap 1 (.ap 1 (.ap 1 (.ap 1 (.ap 1 (.ap 1 (.lit 0) (.ap 3 (.mn (.lit 68719476736) (.var 2)) (.lit (-1)) (.lit 0)) (.lit 0)) (.ap 3 (.mn (.lit 68719476736) (.var 2)) (.lit (-2)) (.lit 0)) (.lit 0)) (.ap 3 (.mn (.lit 68719476736) (.var 2)) (.lit (-3)) (.lit 0)) (.lit 0)) (.ap 3 (.mn (.lit 68719476736) (.var 2)) (.lit (-4)) (.lit 0)) (.lit 0)) (.lit 2147483648) (.lit 0)) (.lit 1073741824) (.lit 0)) (.lit 536870912) (.lit 0)) (.lit 268435456) (.lit 0)) (.lit 34359738368))))
 (.node (.cmp .eql (.var 4) (.lit 5))
 (.leaf (.bool (.cmp .lss (.ap 1 (.ap 1 (.ap 1 (.ap 1 (.ap 1 (.ap 1 (.ap 1 (.ap 1 (.lit 0) (.ap 3 (.mn (.lit 68719476736) (.var 2)) (.lit (-1)) (.lit 0)) (.lit 0)) (.ap 3 (.mn (.lit 68719476736) (.var 2)) (.lit (-2)) (.lit 0)) (.lit 0)) (.ap 3 (.mn (.lit 68719476736) (.var 2)) (.lit (-3)) (.lit 0)) (.lit 0)) (.ap 3 (.mn (.lit 68719476736) (.var 2)) (.lit (-4)) (.lit 0)) (.lit 0)) (.ap 3 (.mn (.lit 68719476736) (.var 2)) (.lit (-5)) (.lit 0)) (.lit 0)) (.lit 1073741824) (.lit 0)) (.lit 536870912) (.lit 0)) (.lit 268435456) (.lit 0)) (.lit 34359738368))))
 (.node (.cmp .eql (.var 4) (.lit 6))
 (.leaf (.bool (.cmp .lss (.ap 1 (.ap 1 (.ap 1 (.ap 1 (.ap 1 (.ap 1 (.ap 1 (.ap 1 (.lit 0) (.ap 3 (.mn (.lit 68719476736) (.var 2)) (.lit (-1)) (.lit 0)) (.lit 0)) (.ap 3 (.mn (.lit 68719476736) (.var 2)) (.lit (-2)) (.lit 0)) (.lit 0)) (.ap 3 (.mn (.lit 68719476736) (.var 2)) (.lit (-3)) (.lit 0)) (.lit 0)) (.ap 3 (.mn (.lit 68719476736) (.var 2)) (.lit (-4)) (.lit 0)) (.lit 0)) (.ap 3 (.mn (.lit 68719476736) (.var 2)) (.lit (-5)) (.lit 0)) (.lit 0)) (.ap 3 (.mn (.lit 68719476736) (.var 2)) (.lit (-6)) (.lit 0)) (.lit 0)) (.lit 536870912) (.lit 0)) (.lit 268435456) (.lit 0)) (.lit 34359738368))))
 (.node (.cmp .eql (.var 4) (.lit 7))
 (.leaf (.bool (.cmp .lss (.ap 1 (.ap 1 (.ap 1 (.ap 1 (.ap 1 (.ap 1 (.ap 1 (.ap 1 (.lit 0) (.ap 3 (.mn (.lit 68719476736) (.var 2)) (.lit (-1)) (.lit 0)) (.lit 0)) (.ap 3 (.mn (.lit 68719476736) (.var 2)) (.lit (-2)) (.lit 0)) (.lit 0)) (.ap 3 (.mn (.lit 68719476736) (.var 2)) (.lit (-3)) (.lit 0)) (.lit 0)) (.ap 3 (.mn (.lit 68719476736) (.var 2)) (.lit (-4)) (.lit 0)) (.lit 0)) (.ap 3 (.mn (.lit 68719476736) (.var 2)) (.lit (-5)) (.lit 0)) (.lit 0)) (.ap 3 (.mn (.lit 68719476736) (.var 2)) (.lit (-6)) (.lit 0)) (.lit 0)) (.ap 3 (.mn (.lit 68719476736) (.var 2)) (.lit (-7)) (.lit 0)) (.lit 0)) (.lit 268435456) (.lit 0)) (.lit 34359738368))))
 (.node (.cmp .eql (.var 4) (.lit 8))
 (.leaf (.bool (.cmp .lss (.ap 1 (.ap 1 (.ap 1 (.ap 1 (.ap 1 (.ap 1 (.ap 1 (.ap 1 (.lit 0) (.ap 3 (.mn (.lit 68719476736) (.var 2)) (.lit (-1)) (.lit 0)) (.lit 0)) (.ap 3 (.mn (.lit 68719476736) (.var 2)) (.lit (-2)) (.lit 0)) (.lit 0)) (.ap 3 (.mn (.lit 68719476736) (.var 2)) (.lit (-3)) (.lit 0)) (.lit 0)) (.ap 3 (.mn (.lit 68719476736) (.var 2)) (.lit (-4)) (.lit 0)) (.lit 0)) (.ap 3 (.mn (.lit 68719476736) (.var 2)) (.lit (-5)) (.lit 0)) (.lit 0)) (.ap 3 (.mn (.lit 68719476736) (.var 2)) (.lit (-6)) (.lit 0)) (.lit 0)) (.ap 3 (.mn (.lit 68719476736) (.var 2)) (.lit (-7)) (.lit 0)) (.lit 0)) (.ap 3 (.mn (.lit 68719476736) (.var 2)) (.lit (-8)) (.lit 0)) (.lit 0)) (.lit 34359738368))))
 (.node (.cmp .eql (.var 4) (.lit 9))
 (.leaf (.bool (.cmp .lss (.ap 1 (.ap 1 (.ap 1 (.ap 1 (.ap 1 (.ap 1 (.ap 1 (.ap 1 (.lit 0) (.ap 3 (.mn (.lit 68719476736) (.var 2)) (.lit (-1)) (.lit 0)) (.lit 0)) (.ap 3 (.mn (.lit 68719476736) (.var 2)) (.lit (-2)) (.lit 0)) (.lit 0)) (.ap 3 (.mn (.lit 68719476736) (.var 2)) (.lit (-3)) (.lit 0)) (.lit 0)) (.ap 3 (.mn (.lit 68719476736) (.var 2)) (.lit (-4)) (.lit 0)) (.lit 0)) (.ap 3 (.mn (.lit 68719476736) (.var 2)) (.lit (-5)) (.lit 0)) (.lit 0)) (.ap 3 (.mn (.lit 68719476736) (.var 2)) (.lit (-6)) (.lit 0)) (.lit 0)) (.ap 3 (.mn (.lit 68719476736) (.var 2)) (.lit (-7)) (.lit 0)) (.lit 0)) (.ap 3 (.mn (.lit 68719476736) (.var 2)) (.lit (-8)) (.lit 0)) (.lit 0)) (.lit 34359738368))))
 (.node (.cmp .eql (.var 4) (.lit 10))
 (.leaf (.bool (.cmp .lss (.ap 1 (.ap 1 (.ap 1 (.ap 1 (.ap 1 (.ap 1 (.ap 1 (.ap 1 (.lit 0) (.ap 3 (.mn (.lit 68719476736) (.var 2)) (.lit (-1)) (.lit 0)) (.lit 0)) (.ap 3 (.mn (.lit 68719476736) (.var 2)) (.lit (-2)) (.lit 0)) (.lit 0)) (.ap 3 (.mn (.lit 68719476736) (.var 2)) (.lit (-3)) (.lit 0)) (.lit 0)) (.ap 3 (.mn (.lit 68719476736) (.var 2)) (.lit (-4)) (.lit 0)) (.lit 0)) (.ap 3 (.mn (.lit 68719476736) (.var 2)) (.lit (-5)) (.lit 0)) (.lit 0)) (.ap 3 (.mn (.lit 68719476736) (.var 2)) (.lit (-6)) (.lit 0)) (.lit 0)) (.ap 3 (.mn (.lit 68719476736) (.var 2)) (.lit (-7)) (.lit 0)) (.lit 0)) (.ap 3 (.mn (.lit 68719476736) (.var 2)) (.lit (-8)) (.lit 0)) (.lit 0)) (.lit 34359738368))))
 (.node (.cmp .eql (.var 4) (.lit 11))
 (.leaf (.bool (.cmp .lss (.ap 1 (.ap 1 (.ap 1 (.ap 1 (.ap 1 (.ap 1 (.ap 1 (.ap 1 (.lit 0) (.ap 3 (.mn (.lit 68719476736) (.var 2)) (.lit (-1)) (.lit 0)) (.lit 0)) (.ap 3 (.mn (.lit 68719476736) (.var 2)) (.lit (-2)) (.lit 0)) (.lit 0)) (.ap 3 (.mn (.lit 68719476736) (.var 2)) (.lit (-3)) (.lit 0)) (.lit 0)) (.ap 3 (.mn (.lit 68719476736) (.var 2)) (.lit (-4)) (.lit 0)) (.lit 0)) (.ap 3 (.mn (.lit 68719476736) (.var 2)) (.lit (-5)) (.lit 0)) (.lit 0)) (.ap 3 (.mn (.lit 68719476736) (.var 2)) (.lit (-6)) (.lit 0)) (.lit 0)) (.ap 3 (.mn (.lit 68719476736) (.var 2)) (.lit (-7)) (.lit 0)) (.lit 0)) (.ap 3 (.mn (.lit 68719476736) (.var 2)) (.lit (-8)) (.lit 0)) (.lit 0)) (.lit 34359738368))))
 (.node (.cmp .eql (.var 4) (.lit 12))
 (.leaf (.bool (.cmp .lss (.ap 1 (.ap 1 (.ap 1 (.ap 1 (.ap 1 (.ap 1 (.ap 1 (.ap 1 (.lit 0) (.ap 3 (.mn (.lit 68719476736) (.var 2)) (.lit (-1)) (.lit 0)) (.lit 0)) (.ap 3 (.mn (.lit 68719476736) (.var 2)) (.lit (-2)) (.lit 0)) (.lit 0)) (.ap 3 (.mn (.lit 68719476736) (.var 2)) (.lit (-3)) (.lit 0)) (.lit 0)) (.ap 3 (.mn (.lit 68719476736) (.var 2)) (.lit (-4)) (.lit 0)) (.lit 0)) (.ap 3 (.mn (.lit 68719476736) (.var 2)) (.lit (-5)) (.lit 0)) (.lit 0)) (.ap 3 (.mn (.lit 68719476736) (.var 2)) (.lit (-6)) (.lit 0)) (.lit 0)) (.ap 3 (.mn (.lit 68719476736) (.var 2)) (.lit (-7)) (.lit 0)) (.lit 0)) (.ap 3 (.mn (.lit 68719476736) (.var 2)) (.lit (-8)) (.lit 0)) (.lit 0)) (.lit 34359738368))))
 .dead))))))))))))
theorem fq_g1 {ρ : Env} (hap : ρ.a = apN) (hv : 0 ≤ ρ.i 2 ∧ ρ.i 2 ≤ 65535) (h : ρ.i 4 = 1) : good ρ fqT = true := (good_pin h (good_not (Int.not_lt.2 (Int.le_trans (show (33822867456 : Int) ≤ _ by decide) (sum_in hap (sum_in hap (sum_in hap (sum_in hap (sum_in hap (sum_in hap (sum_in hap (sum_in hap (lit_in 0) (half_in hap hv (b := -1) (by decide)) (by decide)) (lit_in 17179869184) (by decide)) (lit_in 8589934592) (by decide)) (lit_in 4294967296) (by decide)) (lit_in 2147483648) (by decide)) (lit_in 1073741824) (by decide)) (lit_in 536870912) (by decide)) (lit_in 268435456) (by decide)).1)) (good_lss (Int.lt_of_le_of_lt (sum_in hap (sum_in hap (sum_in hap (sum_in hap (sum_in hap (sum_in hap (sum_in hap (sum_in hap (lit_in 0) (half_in hap hv (b := -1) (by decide)) (by decide)) (lit_in 17179869184) (by decide)) (lit_in 8589934592) (by decide)) (lit_in 4294967296) (by decide)) (lit_in 2147483648) (by decide)) (lit_in 1073741824) (by decide)) (lit_in 536870912) (by decide)) (lit_in 268435456) (by decide)).2 (by show _ < (38654705664 : Int); decide)))))
theorem fq_g2 {ρ : Env} (hap : ρ.a = apN) (hv : 0 ≤ ρ.i 2 ∧ ρ.i 2 ≤ 65535) (h : ρ.i 4 = 2) : good ρ fqT = true := (good_skip (by rw [h]; decide) (good_pin h (good_lss (Int.lt_of_le_of_lt (sum_in hap (sum_in hap (sum_in hap (sum_in hap (sum_in hap (sum_in hap (sum_in hap (sum_in hap (lit_in 0) (half_in hap hv (b := -1) (by decide)) (by decide)) (half_in hap hv (b := -2) (by decide)) (by decide)) (lit_in 8589934592) (by decide)) (lit_in 4294967296) (by decide)) (lit_in 2147483648) (by decide)) (lit_in 1073741824) (by decide)) (lit_in 536870912) (by decide)) (lit_in 268435456) (by decide)).2 (by show _ < (34359738368 : Int); decide)))))
theorem fq_g3 {ρ : Env} (hap : ρ.a = apN) (hv : 0 ≤ ρ.i 2 ∧ ρ.i 2 ≤ 65535) (h : ρ.i 4 = 3) : good ρ fqT = true := (good_skip (by rw [h]; decide) (good_skip (by rw [h]; decide) (good_pin h (good_lss (Int.lt_of_le_of_lt (sum_in hap (sum_in hap (sum_in hap (sum_in hap (sum_in hap (sum_in hap (sum_in hap (sum_in hap (lit_in 0) (half_in hap hv (b := -1) (by decide)) (by decide)) (half_in hap hv (b := -2) (by decide)) (by decide)) (half_in hap hv (b := -3) (by decide)) (by decide)) (lit_in 4294967296) (by decide)) (lit_in 2147483648) (by decide)) (lit_in 1073741824) (by decide)) (lit_in 536870912) (by decide)) (lit_in 268435456) (by decide)).2 (by show _ < (34359738368 : Int); decide))))))
theorem fq_g4 {ρ : Env} (hap : ρ.a = apN) (hv : 0 ≤ ρ.i 2 ∧ ρ.i 2 ≤ 65535) (h : ρ.i 4 = 4) : good ρ fqT = true := (good_skip (by rw [h]; decide) (good_skip (by rw [h]; decide) (good_skip (by rw [h]; decide) (good_pin h (good_lss (Int.lt_of_le_of_lt (sum_in hap (sum_in hap (sum_in hap (sum_in hap (sum_in hap (sum_in hap (sum_in hap (sum_in hap (lit_in 0) (half_in hap hv (b := -1) (by decide)) (by decide)) (half_in hap hv (b := -2) (by decide)) (by decide)) (half_in hap hv (b := -3) (by decide)) (by decide)) (half_in hap hv (b := -4) (by decide)) (by decide)) (lit_in 2147483648) (by decide)) (lit_in 1073741824) (by decide)) (lit_in 536870912) (by decide)) (lit_in 268435456) (by decide)).2 (by show _ < (34359738368 : Int); decide)))))))
theorem fq_g5 {ρ : Env} (hap : ρ.a = apN) (hv : 0 ≤ ρ.i 2 ∧ ρ.i 2 ≤ 65535) (h : ρ.i 4 = 5) : good ρ fqT = true := (good_skip (by rw [h]; decide) (good_skip (by rw [h]; decide) (good_skip (by rw [h]; decide) (good_skip (by rw [h]; decide) (good_pin h (good_lss (Int.lt_of_le_of_lt (sum_in hap (sum_in hap (sum_in hap (sum_in hap (sum_in hap (sum_in hap (sum_in hap (sum_in hap (lit_in 0) (half_in hap hv (b := -1) (by decide)) (by decide)) (half_in hap hv (b := -2) (by decide)) (by decide)) (half_in hap hv (b := -3) (by decide)) (by decide)) (half_in hap hv (b := -4) (by decide)) (by decide)) (half_in hap hv (b := -5) (by decide)) (by decide)) (lit_in 1073741824) (by decide)) (lit_in 536870912) (by decide)) (lit_in 268435456) (by decide)).2 (by show _ < (34359738368 : Int); decide))))))))
theorem fq_g6 {ρ : Env} (hap : ρ.a = apN) (hv : 0 ≤ ρ.i 2 ∧ ρ.i 2 ≤ 65535) (h : ρ.i 4 = 6) : good ρ fqT = true := (good_skip (by rw [h]; decide) (good_skip (by rw [h]; decide) (good_skip (by rw [h]; decide) (good_skip (by rw [h]; decide) (good_skip (by rw [h]; decide) (good_pin h (good_lss (Int.lt_of_le_of_lt (sum_in hap (sum_in hap (sum_in hap (sum_in hap (sum_in hap (sum_in hap (sum_in hap (sum_in hap (lit_in 0) (half_in hap hv (b := -1) (by decide)) (by decide)) (half_in hap hv (b := -2) (by decide)) (by decide)) (half_in hap hv (b := -3) (by decide)) (by decide)) (half_in hap hv (b := -4) (by decide)) (by decide)) (half_in hap hv (b := -5) (by decide)) (by decide)) (half_in hap hv (b := -6) (by decide)) (by decide)) (lit_in 536870912) (by decide)) (lit_in 268435456) (by decide)).2 (by show _ < (34359738368 : Int); decide)))))))))
theorem fq_g7 {ρ : Env} (hap : ρ.a = apN) (hv : 0 ≤ ρ.i 2 ∧ ρ.i 2 ≤ 65535) (h : ρ.i 4 = 7) : good ρ fqT = true := (good_skip (by rw [h]; decide) (good_skip (by rw [h]; decide) (good_skip (by rw [h]; decide) (good_skip (by rw [h]; decide) (good_skip (by rw [h]; decide) (good_skip (by rw [h]; decide) (good_pin h (good_lss (Int.lt_of_le_of_lt (sum_in hap (sum_in hap (sum_in hap (sum_in hap (sum_in hap (sum_in hap (sum_in hap (sum_in hap (lit_in 0) (half_in hap hv (b := -1) (by decide)) (by decide)) (half_in hap hv (b := -2) (by decide)) (by decide)) (half_in hap hv (b := -3) (by decide)) (by decide)) (half_in hap hv (b := -4) (by decide)) (by decide)) (half_in hap hv (b := -5) (by decide)) (by decide)) (half_in hap hv (b := -6) (by decide)) (by decide)) (half_in hap hv (b := -7) (by decide)) (by decide)) (lit_in 268435456) (by decide)).2 (by show _ < (34359738368 : Int); decide))))))))))
theorem fq_g8 {ρ : Env} (hap : ρ.a = apN) (hv : 0 ≤ ρ.i 2 ∧ ρ.i 2 ≤ 65535) (h : ρ.i 4 = 8) : good ρ fqT = true := (good_skip (by rw [h]; decide) (good_skip (by rw [h]; decide) (good_skip (by rw [h]; decide) (good_skip (by rw [h]; decide) (good_skip (by rw [h]; decide) (good_skip (by rw [h]; decide) (good_skip (by rw [h]; decide) (good_pin h (good_lss (Int.lt_of_le_of_lt (sum_in hap (sum_in hap (sum_in hap (sum_in hap (sum_in hap (sum_in hap (sum_in hap (sum_in hap (lit_in 0) (half_in hap hv (b := -1) (by decide)) (by decide)) (half_in hap hv (b := -2) (by decide)) (by decide)) (half_in hap hv (b := -3) (by decide)) (by decide)) (half_in hap hv (b := -4) (by decide)) (by decide)) (half_in hap hv (b := -5) (by decide)) (by decide)) (half_in hap hv (b := -6) (by decide)) (by decide)) (half_in hap hv (b := -7) (by decide)) (by decide)) (half_in hap hv (b := -8) (by decide)) (by decide)).2 (by show _ < (34359738368 : Int); decide)))))))))))
theorem fq_g9 {ρ : Env} (hap : ρ.a = apN) (hv : 0 ≤ ρ.i 2 ∧ ρ.i 2 ≤ 65535) (h : ρ.i 4 = 9) : good ρ fqT = true := (good_skip (by rw [h]; decide) (good_skip (by rw [h]; decide) (good_skip (by rw [h]; decide) (good_skip (by rw [h]; decide) (good_skip (by rw [h]; decide) (good_skip (by rw [h]; decide) (good_skip (by rw [h]; decide) (good_skip (by rw [h]; decide) (good_pin h (good_lss (Int.lt_of_le_of_lt (sum_in hap (sum_in hap (sum_in hap (sum_in hap (sum_in hap (sum_in hap (sum_in hap (sum_in hap (lit_in 0) (half_in hap hv (b := -1) (by decide)) (by decide)) (half_in hap hv (b := -2) (by decide)) (by decide)) (half_in hap hv (b := -3) (by decide)) (by decide)) (half_in hap hv (b := -4) (by decide)) (by decide)) (half_in hap hv (b := -5) (by decide)) (by decide)) (half_in hap hv (b := -6) (by decide)) (by decide)) (half_in hap hv (b := -7) (by decide)) (by decide)) (half_in hap hv (b := -8) (by decide)) (by decide)).2 (by show _ < (34359738368 : Int); decide))))))))))))
theorem fq_g10 {ρ : Env} (hap : ρ.a = apN) (hv : 0 ≤ ρ.i 2 ∧ ρ.i 2 ≤ 65535) (h : ρ.i 4 = 10) : good ρ fqT = true := (good_skip (by rw [h]; decide) (good_skip (by rw [h]; decide) (good_skip (by rw [h]; decide) (good_skip (by rw [h]; decide) (good_skip (by rw [h]; decide) (good_skip (by rw [h]; decide) (good_skip (by rw [h]; decide) (good_skip (by rw [h]; decide) (good_skip (by rw [h]; decide) (good_pin h (good_lss (Int.lt_of_le_of_lt (sum_in hap (sum_in hap (sum_in hap (sum_in hap (sum_in hap (sum_in hap (sum_in hap (sum_in hap (lit_in 0) (half_in hap hv (b := -1) (by decide)) (by decide)) (half_in hap hv (b := -2) (by decide)) (by decide)) (half_in hap hv (b := -3) (by decide)) (by decide)) (half_in hap hv (b := -4) (by decide)) (by decide)) (half_in hap hv (b := -5) (by decide)) (by decide)) (half_in hap hv (b := -6) (by decide)) (by decide)) (half_in hap hv (b := -7) (by decide)) (by decide)) (half_in hap hv (b := -8) (by decide)) (by decide)).2 (by show _ < (34359738368 : Int); decide)))))))))))))
theorem fq_g11 {ρ : Env} (hap : ρ.a = apN) (hv : 0 ≤ ρ.i 2 ∧ ρ.i 2 ≤ 65535) (h : ρ.i 4 = 11) : good ρ fqT = true := (good_skip (by rw [h]; decide) (good_skip (by rw [h]; decide) (good_skip (by rw [h]; decide) (good_skip (by rw [h]; decide) (good_skip (by rw [h]; decide) (good_skip (by rw [h]; decide) (good_skip (by rw [h]; decide) (good_skip (by rw [h]; decide) (good_skip (by rw [h]; decide) (good_skip (by rw [h]; decide) (good_pin h (good_lss (Int.lt_of_le_of_lt (sum_in hap (sum_in hap (sum_in hap (sum_in hap (sum_in hap (sum_in hap (sum_in hap (sum_in hap (lit_in 0) (half_in hap hv (b := -1) (by decide)) (by decide)) (half_in hap hv (b := -2) (by decide)) (by decide)) (half_in hap hv (b := -3) (by decide)) (by decide)) (half_in hap hv (b := -4) (by decide)) (by decide)) (half_in hap hv (b := -5) (by decide)) (by decide)) (half_in hap hv (b := -6) (by decide)) (by decide)) (half_in hap hv (b := -7) (by decide)) (by decide)) (half_in hap hv (b := -8) (by decide)) (by decide)).2 (by show _ < (34359738368 : Int); decide))))))))))))))
theorem fq_g12 {ρ : Env} (hap : ρ.a = apN) (hv : 0 ≤ ρ.i 2 ∧ ρ.i 2 ≤ 65535) (h : ρ.i 4 = 12) : good ρ fqT = true := (good_skip (by rw [h]; decide) (good_skip (by rw [h]; decide) (good_skip (by rw [h]; decide) (good_skip (by rw [h]; decide) (good_skip (by rw [h]; decide) (good_skip (by rw [h]; decide) (good_skip (by rw [h]; decide) (good_skip (by rw [h]; decide) (good_skip (by rw [h]; decide) (good_skip (by rw [h]; decide) (good_skip (by rw [h]; decide) (good_pin h (good_lss (Int.lt_of_le_of_lt (sum_in hap (sum_in hap (sum_in hap (sum_in hap (sum_in hap (sum_in hap (sum_in hap (sum_in hap (lit_in 0) (half_in hap hv (b := -1) (by decide)) (by decide)) (half_in hap hv (b := -2) (by decide)) (by decide)) (half_in hap hv (b := -3) (by decide)) (by decide)) (half_in hap hv (b := -4) (by decide)) (by decide)) (half_in hap hv (b := -5) (by decide)) (by decide)) (half_in hap hv (b := -6) (by decide)) (by decide)) (half_in hap hv (b := -7) (by decide)) (by decide)) (half_in hap hv (b := -8) (by decide)) (by decide)).2 (by show _ < (34359738368 : Int); decide)))))))))))))))
end Go.Proofs.Ythhipnhnpjhaaaa
/- A checked evaluator: loops whose rounds have more variables than the head; rounds path by path. -/
namespace Go.Proofs.Ythhipnhnpjhaaaa
open Go Go.RowKit
set_option linter.unusedVariables false
namespace Ev
/-- a loop's sum by what holds at its head; the rounds' environments may tell more than the head has variables -/
theorem rt_lpg {P : Program} (hmix : P.follows .mixedOrders = true) {L : LoopSum} {n : Nat} {f : FuncId} {p : List Nat} {u : Nat} {H : St} {T : RT} {X : Ctx} {es : List IE} {bs : List BE} (hB : lpB P X n f p u L H T es bs = true) {c : Code} (hc : codeAt P f p = .loop c) {ρ : Env} {E : List (Nat × Nat)}
    (J : Nat → List Int → List Bool → Prop) (hX : ∀ m is bs, J m is bs → Knows (ρ.on is bs) X) (hC : ∀ m is bs, J m is bs → ∀ E, KnowsC P (ρ.on is bs) E X)
    (h0 : ∃ m is bs', J m is bs' ∧ dens ρ es <+: is ∧ bdens ρ bs <+: bs') (hstep : ∀ m is bs, J m is bs → (∃ is' bs' m' js cs, T.next (ρ.on is bs) = some (is', bs') ∧ m' < m ∧ J m' js cs ∧ is' <+: js ∧ bs' <+: cs) ∨ (∃ is' bs', T.out (ρ.on is bs) = some (is', bs') ∧ ρ.has is' bs'))
    : LoopGoes P ρ E L c := by
  simp only [lpB, Bool.and_eq_true] at hB
  obtain ⟨⟨⟨⟨⟨⟨hown, hHs⟩, hLs⟩, hT⟩, hf0⟩, hv0⟩, hne⟩ := hB
  have hcp : codeAt P f (0 :: p) = c := by simp only [codeAt, hc, child]
  have pre : ∀ {is js : List Int} {bs cs : List Bool}, is <+: js → bs <+: cs → (ρ.on js cs).has is bs := by
    rintro is _ bs _ ⟨r, rfl⟩ ⟨s, rfl⟩
    exact Env.has_left (ρ.on_has (is ++ r) (bs ++ s))
  refine lp_frame hown (fun w1 φ1 a D hr1 Q hQ1 => ?_)
  have al : ∀ {t : Store}, L.bl.all (fun q => (Store.get t q.1).isSome) = true → L.bl.all (fun q => (Store.get t q.1).isSome && Nat.beq (Ev.pi [] q.1) q.1) = true := by
    intro t ht
    rw [List.all_eq_true] at ht ⊢
    intro q hq
    simp only [Bool.and_eq_true]
    exact ⟨ht q hq, by simp [Ev.pi]⟩
  obtain ⟨m0, is0, bs0, hJ0, hi0, hb0⟩ := h0
  have hh := pre hi0 hb0
  have hr2 := hr1.goes (ρ' := ρ.on is0 bs0) es bs [] hf0 (al hHs) (by simp) hv0 (fun i e he => hh.1 i _ (by simp [dens, he])) (fun i e he => hh.2 i _ (by simp [bdens, he])) rfl rfl rfl rfl
  refine wpIn_loop_ind (fun m a w => ∃ is bs, J m is bs ∧ RelF P (ρ.on is bs) (L.bl.map fun p => (p.1, φ1 p.1)) D w1 φ1 L.bl H a w) ?_ (m := m0) ⟨_, _, hJ0, hr2⟩
  rintro m a w ⟨is, bs', hJ, hr⟩
  rcases hstep m is bs' hJ with ⟨is', bs'', m', js, cs, h1, hlt, hJ', hp1, hp2⟩ | ⟨is', bs'', h1, h2⟩
  · exact rt_go hmix hcp hHs T (ρ' := ρ.on js cs) (hX m is bs' hJ) (hC m is bs' hJ _) hT hr ⟨rfl, rfl, rfl, rfl⟩ h1 (pre hp1 hp2) (fun a' w' hr' => ⟨m', hlt, js, cs, hJ', hr'⟩)
  · refine rt_stop hmix hcp hLs T (ρ' := ρ) (hX m is bs' hJ) (hC m is bs' hJ _) hT hr ⟨rfl, rfl, rfl, rfl⟩ h1 h2 (fun a' w' hr' => ?_)
    have := hQ1 a' w' hr'
    cases hex : L.ex with
    | normal => rw [hex] at hne; cases hne
    | pan v => rw [hex] at hne; cases hne
    | exit i => rw [hex] at this; exact this
    | ret => rw [hex] at this; exact this
/-- the same; what is known, and the round's tree, may be other ones where the loop is left -/
theorem rt_lpg2 {P : Program} (hmix : P.follows .mixedOrders = true) {L : LoopSum} {n : Nat} {f : FuncId} {p : List Nat} {u : Nat} {H : St} {T T2 : RT} {X X2 : Ctx} {es : List IE} {bs : List BE} (hB : lpB P X n f p u L H T es bs = true) (hB2 : lpB P X2 n f p u L H T2 es bs = true) {c : Code} (hc : codeAt P f p = .loop c) {ρ : Env} {E : List (Nat × Nat)}
    (J : Nat → List Int → List Bool → Prop) (h0 : ∃ m is bs', J m is bs' ∧ dens ρ es <+: is ∧ bdens ρ bs <+: bs')
    (hstep : ∀ m is bs, J m is bs → (Knows (ρ.on is bs) X ∧ (∀ E, KnowsC P (ρ.on is bs) E X) ∧ ∃ is' bs' m' js cs, T.next (ρ.on is bs) = some (is', bs') ∧ m' < m ∧ J m' js cs ∧ is' <+: js ∧ bs' <+: cs) ∨ (Knows (ρ.on is bs) X2 ∧ (∀ E, KnowsC P (ρ.on is bs) E X2) ∧ ∃ is' bs', T2.out (ρ.on is bs) = some (is', bs') ∧ ρ.has is' bs'))
    : LoopGoes P ρ E L c := by
  simp only [lpB, Bool.and_eq_true] at hB hB2
  obtain ⟨⟨⟨⟨⟨⟨_, _⟩, _⟩, hT2⟩, _⟩, _⟩, _⟩ := hB2
  obtain ⟨⟨⟨⟨⟨⟨hown, hHs⟩, hLs⟩, hT⟩, hf0⟩, hv0⟩, hne⟩ := hB
  have hcp : codeAt P f (0 :: p) = c := by simp only [codeAt, hc, child]
  have pre : ∀ {is js : List Int} {bs cs : List Bool}, is <+: js → bs <+: cs → (ρ.on js cs).has is bs := by
    rintro is _ bs _ ⟨r, rfl⟩ ⟨s, rfl⟩
    exact Env.has_left (ρ.on_has (is ++ r) (bs ++ s))
  refine lp_frame hown (fun w1 φ1 a D hr1 Q hQ1 => ?_)
  have al : ∀ {t : Store}, L.bl.all (fun q => (Store.get t q.1).isSome) = true → L.bl.all (fun q => (Store.get t q.1).isSome && Nat.beq (Ev.pi [] q.1) q.1) = true := by
    intro t ht
    rw [List.all_eq_true] at ht ⊢
    intro q hq
    simp only [Bool.and_eq_true]
    exact ⟨ht q hq, by simp [Ev.pi]⟩
  obtain ⟨m0, is0, bs0, hJ0, hi0, hb0⟩ := h0
  have hh := pre hi0 hb0
  have hr2 := hr1.goes (ρ' := ρ.on is0 bs0) es bs [] hf0 (al hHs) (by simp) hv0 (fun i e he => hh.1 i _ (by simp [dens, he])) (fun i e he => hh.2 i _ (by simp [bdens, he])) rfl rfl rfl rfl
  refine wpIn_loop_ind (fun m a w => ∃ is bs, J m is bs ∧ RelF P (ρ.on is bs) (L.bl.map fun p => (p.1, φ1 p.1)) D w1 φ1 L.bl H a w) ?_ (m := m0) ⟨_, _, hJ0, hr2⟩
  rintro m a w ⟨is, bs', hJ, hr⟩
  rcases hstep m is bs' hJ with ⟨hX, hC, is', bs'', m', js, cs, h1, hlt, hJ', hp1, hp2⟩ | ⟨hX, hC, is', bs'', h1, h2⟩
  · exact rt_go hmix hcp hHs T (ρ' := ρ.on js cs) hX (hC _) hT hr ⟨rfl, rfl, rfl, rfl⟩ h1 (pre hp1 hp2) (fun a' w' hr' => ⟨m', hlt, js, cs, hJ', hr'⟩)
  · refine rt_stop hmix hcp hLs T2 (ρ' := ρ) hX (hC _) hT2 hr ⟨rfl, rfl, rfl, rfl⟩ h1 h2 (fun a' w' hr' => ?_)
    have := hQ1 a' w' hr'
    cases hex : L.ex with
    | normal => rw [hex] at hne; cases hne
    | pan v => rw [hex] at hne; cases hne
    | exit i => rw [hex] at this; exact this
    | ret => rw [hex] at this; exact this
/-- each path of the round is what the evaluator comes to (one theorem a path, if it is a great one) -/
def RT.Ok (P : Program) (X : Ctx) (n : Nat) (f : FuncId) (p : List Nat) (u : Nat) (H : St) (ex : Ex) (O : St) : RT → Prop
  | .dead => True
  | .go es bs => RT.check P X n f p u H ex O (.go es bs) = true
  | .stop es bs => RT.check P X n f p u H ex O (.stop es bs) = true
  | .node b t e => t.Ok P { X with pc := (b, true) :: X.pc } n f p u H ex O ∧ e.Ok P { X with pc := (b, false) :: X.pc } n f p u H ex O
theorem RT.check_ok {P : Program} {n : Nat} {f : FuncId} {p : List Nat} {u : Nat} {H : St} {ex : Ex} {O : St} : ∀ {T : RT} {X : Ctx}, T.Ok P X n f p u H ex O → T.check P X n f p u H ex O = true
  | .dead, X, _ => rfl
  | .go es bs, X, h => h
  | .stop es bs, X, h => h
  | .node b t e, X, h => by
    simp only [RT.check, Bool.and_eq_true]
    exact ⟨RT.check_ok h.1, RT.check_ok h.2⟩
/-- all of a loop's sum but its rounds -/
def lpB0 (L : LoopSum) (H : St) (es : List IE) (bs : List BE) : Bool :=
  L.own && (L.bl.all (fun q => (Store.get H.st q.1).isSome)) && (L.bl.all (fun q => (Store.get L.bl' q.1).isSome)) && fitsB es bs [] ⟨L.tm, L.bl⟩ H && H.vb es.length bs.length && (match L.ex with | .normal => false | .pan _ => false | _ => true)
theorem lpB_of {P : Program} {X : Ctx} {n : Nat} {f : FuncId} {p : List Nat} {u : Nat} {L : LoopSum} {H : St} {T : RT} {es : List IE} {bs : List BE} (h0 : lpB0 L H es bs = true) (hT : T.Ok P X n f (0 :: p) u H L.ex ⟨L.tm', L.bl'⟩) : lpB P X n f p u L H T es bs = true := by
  simp only [lpB0, Bool.and_eq_true] at h0
  obtain ⟨⟨⟨⟨⟨h1, h2⟩, h3⟩, h4⟩, h5⟩, h6⟩ := h0
  simp only [lpB, Bool.and_eq_true]
  exact ⟨⟨⟨⟨⟨⟨h1, h2⟩, h3⟩, RT.check_ok hT⟩, h4⟩, h5⟩, h6⟩
end Ev
end Go.Proofs.Ythhipnhnpjhaaaa
