/- Several texts in one. -/
import Derived.Test.YtopgidgkpafeeaaM27
import Derived.Test.YtopgidgkpafeeaaM28
import Derived.Test.YtopgidgkpafeeaaM14
/- Laws with loops and with slices of the caller's. -/
namespace Go.Proofs.Ytopgidgkpafeeaa
open Go Go.RowKit Ev
set_option linter.unusedVariables false
set_option maxRecDepth 100000

/-- the loops' sums are kept -/
def LpOk (ρ : Env) (E : List (Nat × Nat)) (lp : FuncId → List Nat → Nat → Option LoopSum) : Prop :=
  ∀ f p u L, lp f p u = some L → ∀ c, codeAt Try.prog f p = .loop c → sameIds L.bl L.bl' = true → LoopGoes Try.prog ρ E L c
theorem LpOk.none {ρ : Env} {E : List (Nat × Nat)} : LpOk ρ E (fun _ _ _ => none) := fun f p u L h => by cases h
/-- the bounds of functions -/
def ArIn (ρ : Env) (ar : List (Int × Int)) : Prop := ∀ (f : Nat) v, ar[f]? = some v → ∀ a b c, v.1 ≤ ρ.a f a b c ∧ ρ.a f a b c ≤ v.2
theorem knowsC_all {cr : List (FuncId × List SV × SV)} {rg ar : List (Int × Int)} {lp : FuncId → List Nat → Nat → Option LoopSum} {xs : List XD} {nm : List (IE × IE)} {ρ : Env} {E : List (Nat × Nat)} (hrg : ∀ (i : Nat) v, rg[i]? = some v → v.1 ≤ ρ.i i ∧ ρ.i i ≤ v.2) (ha : NumA ρ) (har : ArIn ρ ar) (hcr : ∀ c ∈ cr, Known Try.prog ρ c) (hlp : LpOk ρ E lp) :
    KnowsC Try.prog ρ E { pc := [], cr := cr ++ crS, rg := rg, ar := ar, ct := conCt rg ar consN, lp := lp, xs := xs, nm := nm } :=
  ⟨fun c hc φ w hx => (by rcases List.mem_append.1 hc with hc | hc; exact hcr c hc φ w hx; exact crS_ok c hc φ w hx), fun pc hpc f vs v h _ φ w _ => conCt_ok hrg har (consN_ok ha) hpc h φ w, hlp⟩
/-- a law by its tree: known calls, contracts, loops, slices -/
theorem law_all {ρ : Env} {rg ar : List (Int × Int)} (hin : AllIn ρ.i rg 0) (ha : NumA ρ) (har : ArIn ρ ar) {cr : List (FuncId × List SV × SV)} (hcr : ∀ c ∈ cr, Known Try.prog ρ c) {lp : FuncId → List Nat → Nat → Option LoopSum} (hlp : LpOk ρ [] lp) {xs : List XD} (hxs : ∀ (j : Nat) d, xs[j]? = some d → XOk ρ d (ρ.x j))
    (T : Tree) {n : Nat} {f : FuncId} {args : List SV} (hT : T.check Try.prog { pc := [], cr := cr ++ crS, rg := rg, ar := ar, ct := conCt rg ar consN, lp := lp, xs := xs } n f args = true) (hl : T.live ρ = true) {v : Value} (hv : T.val ρ = v) (w : World) (hx : ExtIn ρ w) :
    Calls Try.prog f (SV.denL ρ id args).toArray w fun e w' => e = .returned v ∧ Below w.heap.size w w' := by
  have h := tree_soundX (P := Try.prog) mixed (ρ := ρ) T (X := { pc := [], cr := cr ++ crS, rg := rg, ar := ar, ct := conCt rg ar consN, lp := lp, xs := xs }) (knows_env rfl hin har hxs)
    (knowsC_all hin.get0 ha har hcr hlp) (Tree.ok_of_check hT) hl w hx
  rw [hv] at h
  exact h
/-- a path of the tree is taken, and what it comes to is true -/
def good (ρ : Env) : Tree → Bool
  | .dead => false
  | .leaf (.bool b) => b.den ρ
  | .leaf _ => false
  | .node c t e => cond (c.den ρ) (good ρ t) (good ρ e)
theorem good_ok {ρ : Env} : ∀ {T : Tree}, good ρ T = true → T.live ρ = true ∧ T.val ρ = .bool true
  | .dead, h => by cases h
  | .leaf v, h => by
    cases v <;> simp only [good, Bool.false_eq_true] at h
    exact ⟨rfl, by simp only [Tree.val, SV.den, h]⟩
  | .node c t e, h => by
    simp only [good] at h
    simp only [Tree.live, Tree.val]
    cases hc : c.den ρ with
    | true => rw [hc] at h; exact good_ok h
    | false => rw [hc] at h; exact good_ok h
/-- a law by its tree, path by path -/
theorem law_good {ρ : Env} {rg ar : List (Int × Int)} (hin : AllIn ρ.i rg 0) (ha : NumA ρ) (har : ArIn ρ ar) {cr : List (FuncId × List SV × SV)} (hcr : ∀ c ∈ cr, Known Try.prog ρ c) {lp : FuncId → List Nat → Nat → Option LoopSum} (hlp : LpOk ρ [] lp) {xs : List XD} (hxs : ∀ (j : Nat) d, xs[j]? = some d → XOk ρ d (ρ.x j)) {nm : List (IE × IE)} (hnm : ∀ p ∈ nm, p.1.den ρ = p.2.den ρ)
    (T : Tree) {n : Nat} {f : FuncId} {args : List SV} (hT : T.Ok Try.prog { pc := [], cr := cr ++ crS, rg := rg, ar := ar, ct := conCt rg ar consN, lp := lp, xs := xs, nm := nm } n f args) (hg : good ρ T = true) (w : World) (hx : ExtIn ρ w) :
    Calls Try.prog f (SV.denL ρ id args).toArray w fun e w' => e = .returned (.bool true) ∧ Below w.heap.size w w' := by
  obtain ⟨hl, hv⟩ := good_ok hg
  have h := tree_soundX (P := Try.prog) mixed (ρ := ρ) T (X := { pc := [], cr := cr ++ crS, rg := rg, ar := ar, ct := conCt rg ar consN, lp := lp, xs := xs, nm := nm }) (knows_env rfl hin har hxs hnm)
    (knowsC_all hin.get0 ha har hcr hlp) hT hl w hx
  rw [hv] at h
  exact h
theorem arIn_N {ρ : Env} (h : ρ.a = apN) : ArIn ρ arN := by unfold ArIn; rw [h]; exact arN_ok
theorem arIn_R {ρ : Env} {rows : List (Int → Int)} {l : List (Int × Int)} (h : ρ.a = apR rows) (hr : ∀ (i : Nat) v, l[i]? = some v → ∀ a, v.1 ≤ (rows.getD i (fun _ => 0)) a ∧ (rows.getD i (fun _ => 0)) a ≤ v.2) : ArIn ρ (arN ++ l) := by unfold ArIn; rw [h]; exact arR_ok hr
/-- the slice of a law that has one -/
theorem xok_one {ks : List EK} {W : World} {v : Value} {B : Ext} {rows : List (Int → Int)} (h : XIn ks W v B rows) {ρ : Env} (ha : ρ.a = apR rows) {n : Nat} (hn : ρ.i n = B.len) : XOk ρ ⟨n, 20, ks⟩ (some B) := by
  refine ⟨hn, h.sz, .inl h.em, fun i c k hi hk => ?_⟩
  rw [h.cells i c k hi hk]
  have hc := (List.getElem?_eq_some_iff.1 hk).1
  cases k <;> simp only [ekV, cellV, ha, apR, if_neg (show ¬ 20 + c < 20 by omega), show 20 + c - 20 = c by omega]
theorem xs_one {ρ : Env} {d : XD} {o : Option Ext} (h : XOk ρ d o) (hx : ρ.x 0 = o) : ∀ (j : Nat) d', [d][j]? = some d' → XOk ρ d' (ρ.x j) := by
  intro j d' hj
  have h0 := (List.getElem?_eq_some_iff.1 hj).1
  obtain rfl : j = 0 := by simp at h0; exact h0
  simp at hj
  subst hj
  rw [hx]
  exact h
theorem ext_one {ks : List EK} {W : World} {v : Value} {B : Ext} {rows : List (Int → Int)} (h : XIn ks W v B rows) {ρ : Env} (hx : ρ.x = fun n => [some B].getD n none) : ExtIn ρ W := by
  exact ext_any ⟨h.val, h.le, .inl h.em, fun _ => h.heap, h.sz, h.len, h.cells, h.rg, h.ng⟩ hx
theorem xok_any {ks : List EK} {W : World} {v : Value} {B : Ext} {rows : List (Int → Int)} (h : XAny ks W v B rows) {ρ : Env} (ha : ρ.a = apR rows) {n : Nat} (hn : ρ.i n = B.len) : XOk ρ ⟨n, 20, ks⟩ (some B) := by
  refine ⟨hn, h.sz, h.emp, fun i c k hi hk => ?_⟩
  rw [h.cells i c k hi hk]
  have hc := (List.getElem?_eq_some_iff.1 hk).1
  cases k <;> simp only [ekV, cellV, ha, apR, if_neg (show ¬ 20 + c < 20 by omega), show 20 + c - 20 = c by omega]
/-- a loop's sum by what holds at its head; the rounds' environments may tell more than the head has variables -/
theorem rt_lpx {L : LoopSum} {n : Nat} {f : FuncId} {p : List Nat} {u : Nat} {H : St} {T : RT} {X : Ctx} {es : List IE} {bs : List BE} (hB : lpB Try.prog X n f p u L H T es bs = true) {c : Code} (hc : codeAt Try.prog f p = .loop c) {ρ : Env} {E : List (Nat × Nat)}
    (J : Nat → List Int → List Bool → Prop) (hX : ∀ m is bs, J m is bs → Knows (ρ.on is bs) X) (hC : ∀ m is bs, J m is bs → ∀ E, KnowsC Try.prog (ρ.on is bs) E X)
    (h0 : ∃ m is bs', J m is bs' ∧ dens ρ es <+: is ∧ bdens ρ bs <+: bs') (hstep : ∀ m is bs, J m is bs → (∃ is' bs' m' js cs, T.next (ρ.on is bs) = some (is', bs') ∧ m' < m ∧ J m' js cs ∧ is' <+: js ∧ bs' <+: cs) ∨ (∃ is' bs', T.out (ρ.on is bs) = some (is', bs') ∧ ρ.has is' bs'))
    : LoopGoes Try.prog ρ E L c := by
  simp only [lpB, Bool.and_eq_true] at hB
  obtain ⟨⟨⟨⟨⟨⟨hown, hHs⟩, hLs⟩, hT⟩, hf0⟩, hv0⟩, hne⟩ := hB
  have hcp : codeAt Try.prog f (0 :: p) = c := by simp only [codeAt, hc, child]
  have pre : ∀ {is js : List Int} {bs cs : List Bool}, is <+: js → bs <+: cs → (ρ.on js cs).has is bs := by
    rintro is _ bs _ ⟨r, rfl⟩ ⟨s, rfl⟩
    exact Env.has_left (ρ.on_has (is ++ r) (bs ++ s))
  refine lp_frame hown (fun w1 φ1 a D hr1 Q hQ1 => ?_)
  have al : ∀ {t : Store}, L.bl.all (fun q => (Store.get t q.1).isSome) = true → L.bl.all (fun q => (Store.get t q.1).isSome && Nat.beq (Ev.pi [] q.1) q.1) = true := by
    intro t ht
    rw [List.all_eq_true] at ht ⊢
    intro q hq
    simp only [Bool.and_eq_true]
    exact ⟨ht q hq, by simp [Ev.pi]⟩
  obtain ⟨m0, is0, bs0, hJ0, hi0, hb0⟩ := h0
  have hh := pre hi0 hb0
  have hr2 := hr1.goes (ρ' := ρ.on is0 bs0) es bs [] hf0 (al hHs) (by simp) hv0 (fun i e he => hh.1 i _ (by simp [dens, he])) (fun i e he => hh.2 i _ (by simp [bdens, he])) rfl rfl rfl rfl
  refine wpIn_loop_ind (fun m a w => ∃ is bs, J m is bs ∧ RelF Try.prog (ρ.on is bs) (L.bl.map fun p => (p.1, φ1 p.1)) D w1 φ1 L.bl H a w) ?_ (m := m0) ⟨_, _, hJ0, hr2⟩
  rintro m a w ⟨is, bs', hJ, hr⟩
  rcases hstep m is bs' hJ with ⟨is', bs'', m', js, cs, h1, hlt, hJ', hp1, hp2⟩ | ⟨is', bs'', h1, h2⟩
  · exact rt_go mixed hcp hHs T (ρ' := ρ.on js cs) (hX m is bs' hJ) (hC m is bs' hJ _) hT hr ⟨rfl, rfl, rfl, rfl⟩ h1 (pre hp1 hp2) (fun a' w' hr' => ⟨m', hlt, js, cs, hJ', hr'⟩)
  · refine rt_stop mixed hcp hLs T (ρ' := ρ) (hX m is bs' hJ) (hC m is bs' hJ _) hT hr ⟨rfl, rfl, rfl, rfl⟩ h1 h2 (fun a' w' hr' => ?_)
    have := hQ1 a' w' hr'
    cases hex : L.ex with
    | normal => rw [hex] at hne; cases hne
    | pan v => rw [hex] at hne; cases hne
    | exit i => rw [hex] at this; exact this
    | ret => rw [hex] at this; exact this
end Go.Proofs.Ytopgidgkpafeeaa
/- Law 18: CombineNear. -/
namespace Go.Proofs.Ytopgidgkpafeeaa
open Go Go.RowKit Ev
set_option linter.unusedVariables false
set_option linter.unusedSimpArgs false
set_option maxRecDepth 100000

theorem shown18 (w : World) : Calls Try.prog 37 #[] w fun e w' => e = .returned (.bool true) ∧ Below w.heap.size w w' :=
  law_any (is := []) (bs := []) (fs := []) (rg := []) (args := []) trivial (cr := []) (fun c hc => by cases hc) (.leaf (.bool (.lit true))) (n := 2000) (by kernel_rfl) rfl rfl w
/-- a weight of a distance that is no great one -/
noncomputable def cbW (d : Int) : Int := max (apN 8 4294967296 (max d 21474836) 0) 1
theorem mxI_max (a b : Int) : mxI a b = max a b := by unfold mxI; split <;> omega
theorem mnI_min (a b : Int) : mnI a b = min a b := by unfold mnI; split <;> omega
theorem weight_any (d : Int) (hd : InI d) (w : World) : Calls Try.prog 39 #[.int .i64 d] w fun e w' => e = .returned (.int .i64 (cbW d)) ∧ Below w.heap.size w w' :=
  law_any (bs := []) (fs := []) (is := [d]) (rg := [i64R]) (args := [.int .i64 (.var 0)]) ⟨hd, trivial⟩ (cr := []) (fun c hc => by cases hc) (.leaf (.int .i64 (.mx (.ap 8 (.lit 4294967296) (.mx (.var 0) (.lit 21474836)) (.lit 0)) (.lit 1)))) (n := 600) (by kernel_rfl) rfl (by
    show Value.int .i64 (mxI (apN 8 4294967296 (mxI d 21474836) 0) 1) = _
    rw [mxI_max, mxI_max]; rfl) w
theorem cbW_eq {d : Int} (h : 0 ≤ d ∧ d ≤ 4294967295) : cbW d = 18446744073709551616 / max d 21474836 ∧ 4294967297 ≤ cbW d ∧ cbW d ≤ 858993478400 := by
  have hD : 21474836 ≤ max d 21474836 ∧ max d 21474836 ≤ 4294967295 := by omega
  unfold cbW
  generalize max d 21474836 = D at hD
  have h2 : 18446744073709551616 / D < 858993478401 := Int.ediv_lt_of_lt_mul (by omega) (by omega)
  have h3 : 4294967297 ≤ 18446744073709551616 / D := by
    rw [Int.le_ediv_iff_mul_le (by omega)]; omega
  have e : apN 8 4294967296 D 0 = 18446744073709551616 / D := by
    show sat (fDiv 4294967296 D) = _
    unfold fDiv
    rw [if_neg (by decide), if_neg (by omega), Int.fdiv_eq_ediv_of_nonneg _ (by omega)]
    have h1 : (4294967296 * 4294967296 : Int) = 18446744073709551616 := by decide
    rw [h1]
    unfold sat
    omega
  rw [e]
  omega
theorem cbW_mono {a b : Int} (ha : 0 ≤ a) (hab : a ≤ b) (hb : b ≤ 4294967295) : cbW b ≤ cbW a := by
  rw [(cbW_eq (d := a) ⟨ha, by omega⟩).1, (cbW_eq (d := b) ⟨by omega, hb⟩).1]
  have h1 : max a 21474836 ≤ max b 21474836 := by omega
  have h0 : 0 < max a 21474836 := by omega
  generalize max a 21474836 = A at h0 h1
  generalize max b 21474836 = B at h1
  rw [Int.le_ediv_iff_mul_le h0]
  have h2 : 0 ≤ 18446744073709551616 / B := Int.ediv_nonneg (by decide) (by omega)
  have h3 := Int.mul_le_mul_of_nonneg_left h1 h2
  have h4 : 18446744073709551616 / B * B ≤ 18446744073709551616 := Int.ediv_mul_le _ (by omega)
  omega
/-- the mean of two, weighed -/
noncomputable def cbM (x y a b : Int) : Int := apN 10 (apN 8 (apN 1 (apN 1 0 (apN 4 x a 0) 0) (apN 4 y b 0) 0) (apN 1 (apN 1 0 a 0) b 0) 0) (-1125899906842624) 1125899906842624
theorem mul_in {x w : Int} (hx : -2147483648 ≤ x ∧ x ≤ 2147483647) (hw : 0 ≤ w ∧ w ≤ 858993478400) : -2147483648 * w ≤ x * w ∧ x * w ≤ 2147483647 * w := by
  have h1 := Int.mul_le_mul_of_nonneg_right hx.1 hw.1
  have h2 := Int.mul_le_mul_of_nonneg_right hx.2 hw.1
  exact ⟨h1, h2⟩
theorem cbM_at {x y a b : Int} (hx : -2147483648 ≤ x ∧ x ≤ 2147483647) (hy : -2147483648 ≤ y ∧ y ≤ 2147483647) (ha : 4294967297 ≤ a ∧ a ≤ 858993478400) (hb : 4294967297 ≤ b ∧ b ≤ 858993478400) :
    a * (cbM x y a b - x) + b * (cbM x y a b - y) ≤ 0 ∧ 0 < a * (cbM x y a b - x + 2) + b * (cbM x y a b - y + 2) := by
  have hxa := mul_in hx (w := a) ⟨by omega, ha.2⟩
  have hyb := mul_in hy (w := b) ⟨by omega, hb.2⟩
  have e1 : apN 4 x a 0 = x * a / 4294967296 := by
    show sat (x * a / 4294967296) = _
    unfold sat; omega
  have e2 : apN 4 y b 0 = y * b / 4294967296 := by
    show sat (y * b / 4294967296) = _
    unfold sat; omega
  have e3 : apN 1 (apN 1 0 (apN 4 x a 0) 0) (apN 4 y b 0) 0 = x * a / 4294967296 + y * b / 4294967296 := by
    rw [e1, e2]
    show sat (sat (0 + x * a / 4294967296) + y * b / 4294967296) = _
    unfold sat; omega
  have e4 : apN 1 (apN 1 0 a 0) b 0 = a + b := by
    show sat (sat (0 + a) + b) = _
    unfold sat; omega
  unfold cbM
  rw [e3, e4]
  generalize hS : x * a / 4294967296 + y * b / 4294967296 = S
  have hT : 8589934594 ≤ a + b := by omega
  have e5 : apN 8 S (a + b) 0 = sat (S * 4294967296 / (a + b)) := by
    show sat (fDiv S (a + b)) = _
    unfold fDiv
    by_cases h0 : S = 0
    · subst h0; rw [if_pos rfl, Int.zero_mul, Int.zero_ediv]
    · rw [if_neg h0, if_neg (by omega), Int.fdiv_eq_ediv_of_nonneg _ (by omega)]
      unfold sat; omega
  have q1 : (a + b) * (S * 4294967296 / (a + b)) ≤ S * 4294967296 := Int.mul_ediv_self_le (by omega)
  have q2 : S * 4294967296 < (a + b) * (S * 4294967296 / (a + b)) + (a + b) := Int.lt_mul_ediv_self_add (by omega)
  have b1 : S * 4294967296 / (a + b) < 2147483648 * 2 := Int.ediv_lt_of_lt_mul (by omega) (by omega)
  have b2 : -(2147483648 * 4) ≤ S * 4294967296 / (a + b) := by
    rw [Int.le_ediv_iff_mul_le (by omega)]; omega
  rw [e5]
  generalize S * 4294967296 / (a + b) = q at q1 q2 b1 b2
  have e6 : apN 10 (sat q) (-1125899906842624) 1125899906842624 = q := by
    show sat (fClamp (sat q) (-1125899906842624) 1125899906842624) = q
    have : sat q = q := by unfold sat; omega
    rw [this]
    unfold fClamp sat
    rw [if_neg (by omega), if_neg (by omega)]
    omega
  rw [e6]
  rw [Int.add_mul] at q1 q2
  simp only [Int.mul_add, Int.mul_sub]
  rw [Int.mul_comm x a] at hS hxa
  rw [Int.mul_comm y b] at hS hyb
  omega
theorem cbM_in (x y a b : Int) : -1125899906842624 ≤ cbM x y a b ∧ cbM x y a b ≤ 1125899906842624 := by
  unfold cbM
  generalize apN 8 _ _ _ = q
  show -1125899906842624 ≤ sat (fClamp q (-1125899906842624) 1125899906842624) ∧ sat (fClamp q (-1125899906842624) 1125899906842624) ≤ 1125899906842624
  unfold fClamp sat
  split
  · omega
  · split <;> omega
/-- the mean lies near the nearer one -/
theorem cb_near {x y a b q : Int} (hb : 0 < b) (hab : b ≤ a) (h1 : a * (q - x) + b * (q - y) ≤ 0) (h2 : 0 < a * (q - x + 2) + b * (q - y + 2)) :
    (q ≤ x ∨ q ≤ y) ∧ (x - 2 < q ∨ y - 2 < q) ∧ (x ≤ q → q - x ≤ y - q) ∧ (q < x → x - q ≤ 1 ∨ x - q < q - y + 4) := by
  have ha : 0 < a := by omega
  refine ⟨?_, ?_, fun h => ?_, fun h => ?_⟩
  · by_cases h3 : q ≤ x
    · exact .inl h3
    · by_cases h4 : q ≤ y
      · exact .inr h4
      · have := Int.mul_pos ha (show 0 < q - x by omega)
        have := Int.mul_pos hb (show 0 < q - y by omega)
        omega
  · by_cases h3 : x - 2 < q
    · exact .inl h3
    · by_cases h4 : y - 2 < q
      · exact .inr h4
      · have := Int.mul_nonneg (Int.le_of_lt ha) (show 0 ≤ -(q - x + 2) by omega)
        have := Int.mul_nonneg (Int.le_of_lt hb) (show 0 ≤ -(q - y + 2) by omega)
        rw [Int.mul_neg] at *
        omega
  · by_cases h3 : q - x ≤ y - q
    · exact h3
    · have h4 := Int.mul_le_mul_of_nonneg_right hab (show 0 ≤ q - x by omega)
      have h5 := Int.mul_le_mul_of_nonneg_left (show 1 ≤ (q - x) + (q - y) by omega) (Int.le_of_lt hb)
      rw [Int.mul_add] at h5
      omega
  · by_cases h6 : x - q ≤ 1
    · exact .inl h6
    · by_cases h3 : x - q < q - y + 4
      · exact .inr h3
      · have h4 := Int.mul_le_mul_of_nonneg_right hab (show 0 ≤ x - q - 2 by omega)
        have h5 := Int.mul_le_mul_of_nonneg_left (show (q - y + 2) ≤ x - q - 2 by omega) (Int.le_of_lt hb)
        have e : a * (q - x + 2) = -(a * (x - q - 2)) := by rw [← Int.mul_neg]; congr 1; omega
        omega
abbrev cnR : List (Int × Int) := [(0, 4294967295), (0, 4294967295), (-2147483648, 2147483647), (-2147483648, 2147483647), (4294967297, 858993478400), (4294967297, 858993478400), (-1125899906842624, 1125899906842624)]
abbrev cnK : List (FuncId × List SV × SV) := [(37, [], .bool (.lit true)), (39, [.int .i64 (.mn (.var 0) (.var 1))], .int .i64 (.var 4)), (39, [.int .i64 (.mx (.var 0) (.var 1))], .int .i64 (.var 5)), (72, [.int .i64 (.ap 8 (.ap 1 (.ap 1 (.lit 0) (.ap 4 (.var 2) (.var 4) (.lit 0)) (.lit 0)) (.ap 4 (.var 3) (.var 5) (.lit 0)) (.lit 0)) (.ap 1 (.ap 1 (.lit 0) (.var 4) (.lit 0)) (.var 5) (.lit 0)) (.lit 0)), .int .i64 (.lit (-1125899906842624)), .int .i64 (.lit 1125899906842624)], .int .i64 (.var 6))]
def cnRest (e d : IE) : Tree := .node (.cmp .lss (.var 4) (.var 5)) (.leaf (.bool (.lit false))) (.node (.cmp .lss (.pl .add e (.lit 4)) d) (.leaf (.bool (.lit false))) (.node (.cmp .lss (.var 6) (.pl .sub (.mn (.var 2) (.var 3)) (.lit 2))) (.leaf (.bool (.lit false))) (.node (.cmp .lss (.mx (.var 2) (.var 3)) (.var 6)) (.leaf (.bool (.lit false))) (.leaf (.bool (.lit true))))))
abbrev cnD : IE := .pl .sub (.var 6) (.var 2)
abbrev cnE : IE := .pl .sub (.var 6) (.var 3)
def cnT : Tree := .node (.cmp .lss cnD (.lit 0)) (.node (.cmp .lss cnE (.lit 0)) (cnRest (.pl .sub (.lit 0) cnE) (.pl .sub (.lit 0) cnD)) (cnRest cnE (.pl .sub (.lit 0) cnD))) (.node (.cmp .lss cnE (.lit 0)) (cnRest (.pl .sub (.lit 0) cnE) cnD) (cnRest cnE cnD))
theorem cn_ok : cnT.check Try.prog { pc := [], cr := cnK ++ crS, rg := cnR, ar := arN, ct := conCt cnR arN consN } 1000 13 [.int .u32 (.var 0), .int .u32 (.var 1), .int .i32 (.var 2), .int .i32 (.var 3)] = true := by kernel_rfl
theorem combineNear_walk (a b x y : Int) (ha : 0 ≤ a ∧ a ≤ 4294967295) (hb : 0 ≤ b ∧ b ≤ 4294967295) (hx : -2147483648 ≤ x ∧ x ≤ 2147483647) (hy : -2147483648 ≤ y ∧ y ≤ 2147483647) (w : World) :
    Calls Try.prog 13 #[.int .u32 a, .int .u32 b, .int .i32 x, .int .i32 y] w fun e w' => e = .returned (.bool true) ∧ Below w.heap.size w w' := by
  obtain ⟨_, p1, p2⟩ := cbW_eq (d := min a b) (by omega)
  obtain ⟨_, q1, q2⟩ := cbW_eq (d := max a b) (by omega)
  have hmono := cbW_mono (a := min a b) (b := max a b) (by omega) (by omega) (by omega)
  obtain ⟨m1, m2⟩ := cbM_at hx hy ⟨p1, p2⟩ ⟨q1, q2⟩
  have m3 := cbM_in x y (cbW (min a b)) (cbW (max a b))
  have near := cb_near (by omega) hmono m1 m2
  refine law_any (bs := []) (fs := []) (is := [a, b, x, y, cbW (min a b), cbW (max a b), cbM x y (cbW (min a b)) (cbW (max a b))]) (rg := cnR) (args := [.int .u32 (.var 0), .int .u32 (.var 1), .int .i32 (.var 2), .int .i32 (.var 3)])
    ⟨ha, hb, hx, hy, ⟨p1, p2⟩, ⟨q1, q2⟩, m3, trivial⟩ (cr := cnK) (fun c hc => ?_) cnT cn_ok (Tree.whole_live (by kernel_rfl)) ?_ w
  · simp only [cnK, List.mem_cons, List.not_mem_nil, or_false] at hc
    rcases hc with rfl | rfl | rfl | rfl
    · exact fun φ w _ => shown18 w
    · intro φ w _
      show Calls _ _ #[.int .i64 (mnI a b)] w _
      rw [mnI_min]
      exact weight_any (min a b) ⟨by omega, by omega⟩ w
    · intro φ w _
      show Calls _ _ #[.int .i64 (mxI a b)] w _
      rw [mxI_max]
      exact weight_any (max a b) ⟨by omega, by omega⟩ w
    · intro φ w _
      have r := arN_ok 8 (-9223372036854775807, 9223372036854775807) rfl
      exact clamp_any (apN 8 (apN 1 (apN 1 0 (apN 4 x (cbW (min a b)) 0) 0) (apN 4 y (cbW (max a b)) 0) 0) (apN 1 (apN 1 0 (cbW (min a b)) 0) (cbW (max a b)) 0) 0) (-1125899906842624) 1125899906842624 ⟨by have := r (apN 1 (apN 1 0 (apN 4 x (cbW (min a b)) 0) 0) (apN 4 y (cbW (max a b)) 0) 0) (apN 1 (apN 1 0 (cbW (min a b)) 0) (cbW (max a b)) 0) 0; omega, by have := r (apN 1 (apN 1 0 (apN 4 x (cbW (min a b)) 0) 0) (apN 4 y (cbW (max a b)) 0) 0) (apN 1 (apN 1 0 (cbW (min a b)) 0) (cbW (max a b)) 0) 0; omega⟩ ⟨by decide, by decide⟩ ⟨by decide, by decide⟩ w
  · generalize cbM x y (cbW (min a b)) (cbW (max a b)) = q at near m3
    generalize cbW (min a b) = u at hmono
    generalize cbW (max a b) = v at hmono
    simp only [cnT, cnRest, Tree.val, BE.den, cmpI, SV.den, IE.den, Bool.cond_decide, List.getD_cons_zero, List.getD_cons_succ, plI, mxI_max, mnI_min]
    obtain ⟨n1, n2, n3, n4⟩ := near
    repeat' split
    all_goals first
      | rfl
      | (exfalso; omega)
end Go.Proofs.Ytopgidgkpafeeaa
/- A checked evaluator: loops whose rounds have more variables than the head; rounds path by path. -/
namespace Go.Proofs.Ytopgidgkpafeeaa
open Go Go.RowKit
set_option linter.unusedVariables false
namespace Ev
/-- a loop's sum by what holds at its head; the rounds' environments may tell more than the head has variables -/
theorem rt_lpg {P : Program} (hmix : P.follows .mixedOrders = true) {L : LoopSum} {n : Nat} {f : FuncId} {p : List Nat} {u : Nat} {H : St} {T : RT} {X : Ctx} {es : List IE} {bs : List BE} (hB : lpB P X n f p u L H T es bs = true) {c : Code} (hc : codeAt P f p = .loop c) {ρ : Env} {E : List (Nat × Nat)}
    (J : Nat → List Int → List Bool → Prop) (hX : ∀ m is bs, J m is bs → Knows (ρ.on is bs) X) (hC : ∀ m is bs, J m is bs → ∀ E, KnowsC P (ρ.on is bs) E X)
    (h0 : ∃ m is bs', J m is bs' ∧ dens ρ es <+: is ∧ bdens ρ bs <+: bs') (hstep : ∀ m is bs, J m is bs → (∃ is' bs' m' js cs, T.next (ρ.on is bs) = some (is', bs') ∧ m' < m ∧ J m' js cs ∧ is' <+: js ∧ bs' <+: cs) ∨ (∃ is' bs', T.out (ρ.on is bs) = some (is', bs') ∧ ρ.has is' bs'))
    : LoopGoes P ρ E L c := by
  simp only [lpB, Bool.and_eq_true] at hB
  obtain ⟨⟨⟨⟨⟨⟨hown, hHs⟩, hLs⟩, hT⟩, hf0⟩, hv0⟩, hne⟩ := hB
  have hcp : codeAt P f (0 :: p) = c := by simp only [codeAt, hc, child]
  have pre : ∀ {is js : List Int} {bs cs : List Bool}, is <+: js → bs <+: cs → (ρ.on js cs).has is bs := by
    rintro is _ bs _ ⟨r, rfl⟩ ⟨s, rfl⟩
    exact Env.has_left (ρ.on_has (is ++ r) (bs ++ s))
  refine lp_frame hown (fun w1 φ1 a D hr1 Q hQ1 => ?_)
  have al : ∀ {t : Store}, L.bl.all (fun q => (Store.get t q.1).isSome) = true → L.bl.all (fun q => (Store.get t q.1).isSome && Nat.beq (Ev.pi [] q.1) q.1) = true := by
    intro t ht
    rw [List.all_eq_true] at ht ⊢
    intro q hq
    simp only [Bool.and_eq_true]
    exact ⟨ht q hq, by simp [Ev.pi]⟩
  obtain ⟨m0, is0, bs0, hJ0, hi0, hb0⟩ := h0
  have hh := pre hi0 hb0
  have hr2 := hr1.goes (ρ' := ρ.on is0 bs0) es bs [] hf0 (al hHs) (by simp) hv0 (fun i e he => hh.1 i _ (by simp [dens, he])) (fun i e he => hh.2 i _ (by simp [bdens, he])) rfl rfl rfl rfl
  refine wpIn_loop_ind (fun m a w => ∃ is bs, J m is bs ∧ RelF P (ρ.on is bs) (L.bl.map fun p => (p.1, φ1 p.1)) D w1 φ1 L.bl H a w) ?_ (m := m0) ⟨_, _, hJ0, hr2⟩
  rintro m a w ⟨is, bs', hJ, hr⟩
  rcases hstep m is bs' hJ with ⟨is', bs'', m', js, cs, h1, hlt, hJ', hp1, hp2⟩ | ⟨is', bs'', h1, h2⟩
  · exact rt_go hmix hcp hHs T (ρ' := ρ.on js cs) (hX m is bs' hJ) (hC m is bs' hJ _) hT hr ⟨rfl, rfl, rfl, rfl⟩ h1 (pre hp1 hp2) (fun a' w' hr' => ⟨m', hlt, js, cs, hJ', hr'⟩)
  · refine rt_stop hmix hcp hLs T (ρ' := ρ) (hX m is bs' hJ) (hC m is bs' hJ _) hT hr ⟨rfl, rfl, rfl, rfl⟩ h1 h2 (fun a' w' hr' => ?_)
    have := hQ1 a' w' hr'
    cases hex : L.ex with
    | normal => rw [hex] at hne; cases hne
    | pan v => rw [hex] at hne; cases hne
    | exit i => rw [hex] at this; exact this
    | ret => rw [hex] at this; exact this
/-- the same; what is known, and the round's tree, may be other ones where the loop is left -/
theorem rt_lpg2 {P : Program} (hmix : P.follows .mixedOrders = true) {L : LoopSum} {n : Nat} {f : FuncId} {p : List Nat} {u : Nat} {H : St} {T T2 : RT} {X X2 : Ctx} {es : List IE} {bs : List BE} (hB : lpB P X n f p u L H T es bs = true) (hB2 : lpB P X2 n f p u L H T2 es bs = true) {c : Code} (hc : codeAt P f p = .loop c) {ρ : Env} {E : List (Nat × Nat)}
    (J : Nat → List Int → List Bool → Prop) (h0 : ∃ m is bs', J m is bs' ∧ dens ρ es <+: is ∧ bdens ρ bs <+: bs')
    (hstep : ∀ m is bs, J m is bs → (Knows (ρ.on is bs) X ∧ (∀ E, KnowsC P (ρ.on is bs) E X) ∧ ∃ is' bs' m' js cs, T.next (ρ.on is bs) = some (is', bs') ∧ m' < m ∧ J m' js cs ∧ is' <+: js ∧ bs' <+: cs) ∨ (Knows (ρ.on is bs) X2 ∧ (∀ E, KnowsC P (ρ.on is bs) E X2) ∧ ∃ is' bs', T2.out (ρ.on is bs) = some (is', bs') ∧ ρ.has is' bs'))
    : LoopGoes P ρ E L c := by
  simp only [lpB, Bool.and_eq_true] at hB hB2
  obtain ⟨⟨⟨⟨⟨⟨_, _⟩, _⟩, hT2⟩, _⟩, _⟩, _⟩ := hB2
  obtain ⟨⟨⟨⟨⟨⟨hown, hHs⟩, hLs⟩, hT⟩, hf0⟩, hv0⟩, hne⟩ := hB
  have hcp : codeAt P f (0 :: p) = c := by simp only [codeAt, hc, child]
  have pre : ∀ {is js : List Int} {bs cs : List Bool}, is <+: js → bs <+: cs → (ρ.on js cs).has is bs := by
    rintro is _ bs _ ⟨r, rfl⟩ ⟨s, rfl⟩
    exact Env.has_left (ρ.on_has (is ++ r) (bs ++ s))
  refine lp_frame hown (fun w1 φ1 a D hr1 Q hQ1 => ?_)
  have al : ∀ {t : Store}, L.bl.all (fun q => (Store.get t q.1).isSome) = true → L.bl.all (fun q => (Store.get t q.1).isSome && Nat.beq (Ev.pi [] q.1) q.1) = true := by
    intro t ht
    rw [List.all_eq_true] at ht ⊢
    intro q hq
    simp only [Bool.and_eq_true]
    exact ⟨ht q hq, by simp [Ev.pi]⟩
  obtain ⟨m0, is0, bs0, hJ0, hi0, hb0⟩ := h0
  have hh := pre hi0 hb0
  have hr2 := hr1.goes (ρ' := ρ.on is0 bs0) es bs [] hf0 (al hHs) (by simp) hv0 (fun i e he => hh.1 i _ (by simp [dens, he])) (fun i e he => hh.2 i _ (by simp [bdens, he])) rfl rfl rfl rfl
  refine wpIn_loop_ind (fun m a w => ∃ is bs, J m is bs ∧ RelF P (ρ.on is bs) (L.bl.map fun p => (p.1, φ1 p.1)) D w1 φ1 L.bl H a w) ?_ (m := m0) ⟨_, _, hJ0, hr2⟩
  rintro m a w ⟨is, bs', hJ, hr⟩
  rcases hstep m is bs' hJ with ⟨hX, hC, is', bs'', m', js, cs, h1, hlt, hJ', hp1, hp2⟩ | ⟨hX, hC, is', bs'', h1, h2⟩
  · exact rt_go hmix hcp hHs T (ρ' := ρ.on js cs) hX (hC _) hT hr ⟨rfl, rfl, rfl, rfl⟩ h1 (pre hp1 hp2) (fun a' w' hr' => ⟨m', hlt, js, cs, hJ', hr'⟩)
  · refine rt_stop hmix hcp hLs T2 (ρ' := ρ) hX (hC _) hT2 hr ⟨rfl, rfl, rfl, rfl⟩ h1 h2 (fun a' w' hr' => ?_)
    have := hQ1 a' w' hr'
    cases hex : L.ex with
    | normal => rw [hex] at hne; cases hne
    | pan v => rw [hex] at hne; cases hne
    | exit i => rw [hex] at this; exact this
    | ret => rw [hex] at this; exact this
/-- each path of the round is what the evaluator comes to (one theorem a path, if it is a great one) -/
def RT.Ok (P : Program) (X : Ctx) (n : Nat) (f : FuncId) (p : List Nat) (u : Nat) (H : St) (ex : Ex) (O : St) : RT → Prop
  | .dead => True
  | .go es bs => RT.check P X n f p u H ex O (.go es bs) = true
  | .stop es bs => RT.check P X n f p u H ex O (.stop es bs) = true
  | .node b t e => t.Ok P { X with pc := (b, true) :: X.pc } n f p u H ex O ∧ e.Ok P { X with pc := (b, false) :: X.pc } n f p u H ex O
theorem RT.check_ok {P : Program} {n : Nat} {f : FuncId} {p : List Nat} {u : Nat} {H : St} {ex : Ex} {O : St} : ∀ {T : RT} {X : Ctx}, T.Ok P X n f p u H ex O → T.check P X n f p u H ex O = true
  | .dead, X, _ => rfl
  | .go es bs, X, h => h
  | .stop es bs, X, h => h
  | .node b t e, X, h => by
    simp only [RT.check, Bool.and_eq_true]
    exact ⟨RT.check_ok h.1, RT.check_ok h.2⟩
/-- all of a loop's sum but its rounds -/
def lpB0 (L : LoopSum) (H : St) (es : List IE) (bs : List BE) : Bool :=
  L.own && (L.bl.all (fun q => (Store.get H.st q.1).isSome)) && (L.bl.all (fun q => (Store.get L.bl' q.1).isSome)) && fitsB es bs [] ⟨L.tm, L.bl⟩ H && H.vb es.length bs.length && (match L.ex with | .normal => false | .pan _ => false | _ => true)
theorem lpB_of {P : Program} {X : Ctx} {n : Nat} {f : FuncId} {p : List Nat} {u : Nat} {L : LoopSum} {H : St} {T : RT} {es : List IE} {bs : List BE} (h0 : lpB0 L H es bs = true) (hT : T.Ok P X n f (0 :: p) u H L.ex ⟨L.tm', L.bl'⟩) : lpB P X n f p u L H T es bs = true := by
  simp only [lpB0, Bool.and_eq_true] at h0
  obtain ⟨⟨⟨⟨⟨h1, h2⟩, h3⟩, h4⟩, h5⟩, h6⟩ := h0
  simp only [lpB, Bool.and_eq_true]
  exact ⟨⟨⟨⟨⟨⟨h1, h2⟩, h3⟩, RT.check_ok hT⟩, h4⟩, h5⟩, h6⟩
end Ev
end Go.Proofs.Ytopgidgkpafeeaa
/- Law 18: the mean of any offsets: its loop. -/
namespace Go.Proofs.Ytopgidgkpafeeaa
open Go Go.RowKit Ev
set_option linter.unusedVariables false
set_option linter.unusedSimpArgs false
set_option maxRecDepth 100000
set_option maxHeartbeats 0
def mnL : LoopSum := ⟨[(.yld 1099517919239), (.ptr 1099516870657 0), (.ptr 1099516870658 0), (.raw (.tuple #[])), (.raw (.tuple #[])), (.xs 0), (.int .i64 (.var 0)), (.xs 1), (.int .i64 (.var 1)), (.int .i64 (.mn (.var 0) (.var 1))), (.int .i64 (.lit 0)), (.raw (.tuple #[])), (.raw (.tuple #[])), (.raw (.tuple #[])), (.raw (.tuple #[])), (.raw (.tuple #[])), (.raw (.tuple #[])), (.raw (.tuple #[])), (.raw (.tuple #[])), (.raw (.tuple #[])), (.raw (.tuple #[])), (.raw (.tuple #[])), (.raw (.tuple #[])), (.raw (.tuple #[])), (.raw (.tuple #[])), (.raw (.tuple #[]))], [(1099517919239, ⟨0, [(.mark 1 73 [0, 1, 0, 1, 1] 1099517919238), (.mark 10 0 [] 1099517919238), (.func (.func 99) [] [(.ptr 1099516870657 0), (.ptr 1099516870658 0)]), (.func (.func 56) [] []), (.raw (.tuple #[])), (.ptr 1099517919233 0), (.int .i64 (.lit 0)), (.ptr 1099517919235 0), (.ptr 1099517919236 0), (.raw (.tuple #[])), (.raw (.tuple #[])), (.func (.func 99) [] [(.ptr 1099516870657 0), (.ptr 1099516870658 0)]), (.raw (.tuple #[])), (.raw (.tuple #[])), (.raw (.tuple #[])), (.raw (.tuple #[])), (.raw (.tuple #[])), (.raw (.tuple #[])), (.raw (.tuple #[])), (.raw (.tuple #[])), (.raw (.tuple #[])), (.raw (.tuple #[])), (.raw (.tuple #[])), (.raw (.tuple #[])), (.raw (.tuple #[])), (.raw (.tuple #[]))]⟩), (1099517919238, ⟨0, [(.mark 5 0 [] 1099517919238)]⟩), (1099517919236, ⟨2, [(.int .i64 (.lit 0))]⟩), (1099517919235, ⟨2, [(.int .i64 (.lit 0))]⟩), (1099517919233, ⟨95, [(.func (.func 56) [] [])]⟩), (1099516870658, ⟨71, [(.xs 1)]⟩), (1099516870657, ⟨71, [(.xs 0)]⟩)],
  (.exit 0), [(.yld 1099517919239), (.ptr 1099516870657 0), (.ptr 1099516870658 0), (.raw (.tuple #[])), .any, (.xs 0), (.int .i64 (.var 0)), (.xs 1), (.int .i64 (.var 1)), (.int .i64 (.mn (.var 0) (.var 1))), .any, .any, .any, .any, .any, .any, .any, .any, .any, .any, .any, .any, .any, .any, .any, .any], [(1099517919239, ⟨0, [(.mark 1 73 [0, 1, 0, 1, 1] 1099517919238), (.mark 10 0 [] 1099517919238), (.func (.func 99) [] [(.ptr 1099516870657 0), (.ptr 1099516870658 0)]), (.func (.func 56) [] []), (.raw (.tuple #[])), (.ptr 1099517919233 0), (.int .i64 (.lit 0)), (.ptr 1099517919235 0), (.ptr 1099517919236 0), (.raw (.tuple #[])), (.raw (.tuple #[])), (.func (.func 99) [] [(.ptr 1099516870657 0), (.ptr 1099516870658 0)]), (.raw (.tuple #[])), (.raw (.tuple #[])), (.raw (.tuple #[])), (.raw (.tuple #[])), (.raw (.tuple #[])), (.raw (.tuple #[])), (.raw (.tuple #[])), (.raw (.tuple #[])), (.raw (.tuple #[])), (.raw (.tuple #[])), (.raw (.tuple #[])), (.raw (.tuple #[])), (.raw (.tuple #[])), (.raw (.tuple #[]))]⟩), (1099517919238, ⟨0, [(.mark 5 0 [] 1099517919238)]⟩), (1099517919236, ⟨2, [(.int .i64 (.var 4))]⟩), (1099517919235, ⟨2, [(.int .i64 (.var 5))]⟩), (1099517919233, ⟨95, [(.func (.func 56) [] [])]⟩), (1099516870658, ⟨71, [(.xs 1)]⟩), (1099516870657, ⟨71, [(.xs 0)]⟩)]⟩
def mnH : St := ⟨Tm.ofL [(.yld 1099517919239), (.ptr 1099516870657 0), (.ptr 1099516870658 0), (.raw (.tuple #[])), .any, (.xs 0), (.int .i64 (.var 0)), (.xs 1), (.int .i64 (.var 1)), (.int .i64 (.mn (.var 0) (.var 1))), (.int .i64 (.var 8)), .any, .any, .any, .any, .any, .any, .any, .any, .any, .any, .any, .any, .any, .any, .any], [(1099517919239, ⟨0, [(.mark 1 73 [0, 1, 0, 1, 1] 1099517919238), (.mark 10 0 [] 1099517919238), (.func (.func 99) [] [(.ptr 1099516870657 0), (.ptr 1099516870658 0)]), (.func (.func 56) [] []), (.raw (.tuple #[])), (.ptr 1099517919233 0), (.int .i64 (.lit 0)), (.ptr 1099517919235 0), (.ptr 1099517919236 0), (.raw (.tuple #[])), (.raw (.tuple #[])), (.func (.func 99) [] [(.ptr 1099516870657 0), (.ptr 1099516870658 0)]), (.raw (.tuple #[])), (.raw (.tuple #[])), (.raw (.tuple #[])), (.raw (.tuple #[])), (.raw (.tuple #[])), (.raw (.tuple #[])), (.raw (.tuple #[])), (.raw (.tuple #[])), (.raw (.tuple #[])), (.raw (.tuple #[])), (.raw (.tuple #[])), (.raw (.tuple #[])), (.raw (.tuple #[])), (.raw (.tuple #[]))]⟩), (1099517919238, ⟨0, [(.mark 5 0 [] 1099517919238)]⟩), (1099517919236, ⟨2, [(.int .i64 (.var 6))]⟩), (1099517919235, ⟨2, [(.int .i64 (.var 7))]⟩), (1099517919233, ⟨95, [(.func (.func 56) [] [])]⟩), (1099516870658, ⟨71, [(.xs 1)]⟩), (1099516870657, ⟨71, [(.xs 0)]⟩)]⟩
def mnE : List IE := [(.var 0), (.var 1), (.var 2), (.var 3), (.var 4), (.var 5), (.lit 0), (.lit 0), (.lit 0)]
def mnB : List BE := []
def mnT : RT :=
(.node (.cmp .lss (.var 8) (.mn (.var 0) (.var 1)))
 (.node (.cmp .lss (.var 8) (.var 0))
 (.node (.cmp .lss (.var 8) (.var 1))
 (.go [(.var 0), (.var 1), (.var 2), (.var 3), (.var 4), (.var 5), (.ap 1 (.var 6) (.mx (.ap 8 (.lit 4294967296) (.mx (.ap 21 (.var 8) (.lit 0) (.lit 0)) (.lit 21474836)) (.lit 0)) (.lit 1)) (.lit 0)), (.ap 1 (.var 7) (.ap 4 (.ap 20 (.var 8) (.lit 0) (.lit 0)) (.mx (.ap 8 (.lit 4294967296) (.mx (.ap 21 (.var 8) (.lit 0) (.lit 0)) (.lit 21474836)) (.lit 0)) (.lit 1)) (.lit 0)) (.lit 0)), (.pl .add (.var 8) (.lit 1))] [])
 .dead)
 .dead)
 (.stop [(.var 0), (.var 1), (.var 2), (.var 3), (.var 6), (.var 7)] []))
abbrev i64J : Int × Int := (-9223372036854775808, 9223372036854775807)
abbrev mXs : List XD := [⟨0, 20, [.int .i64]⟩, ⟨1, 21, [.int .i64]⟩]
noncomputable abbrev mAr : List (Int × Int) := arN ++ [i64J, i64J]
abbrev mRl : List (Int × Int) := [(0, 60), (0, 60), i64J, i64J, satR, satR]
abbrev mRg : List (Int × Int) := [(0, 60), (0, 60), i64J, i64J, satR, satR, satR, satR, (0, 60)]
noncomputable def mnX : Ctx := { pc := [], cr := crS, rg := mRg, ar := mAr, ct := conCt mRg mAr consN, xs := mXs }
abbrev mnP : List Nat := [0, 1]
theorem mn_B : lpB Try.prog mnX 2000 99 mnP 3 mnL mnH mnT mnE mnB = true := by kernel_rfl
/-! two slices of the caller's -/
theorem xok_off {ks : List EK} {W : World} {v : Value} {B : Ext} {rows : List (Int → Int)} (h : XAny ks W v B rows) {ρ : Env} {all : List (Int → Int)} (ha : ρ.a = apR all) {o : Nat} (ho : ∀ c, c < ks.length → all.getD (o + c) (fun _ => 0) = rows.getD c (fun _ => 0)) {n : Nat} (hn : ρ.i n = B.len) : XOk ρ ⟨n, 20 + o, ks⟩ (some B) := by
  refine ⟨hn, h.sz, h.emp, fun i c k hi hk => ?_⟩
  rw [h.cells i c k hi hk]
  have hc := (List.getElem?_eq_some_iff.1 hk).1
  have e := ho c hc
  cases k <;> simp only [ekV, cellV, ha, apR, if_neg (show ¬ 20 + o + c < 20 by omega), show 20 + o + c - 20 = o + c by omega, e]
theorem xs_two {ρ : Env} {d e : XD} {o p : Option Ext} (h : XOk ρ d o) (k : XOk ρ e p) (hx : ρ.x 0 = o) (hy : ρ.x 1 = p) : ∀ (j : Nat) d', [d, e][j]? = some d' → XOk ρ d' (ρ.x j)
  | 0, d', hj => by cases hj; rw [hx]; exact h
  | 1, d', hj => by cases hj; rw [hy]; exact k
  | j + 2, d', hj => by simp at hj
theorem ext_two {ks ls : List EK} {W : World} {v u : Value} {B C : Ext} {rows cols : List (Int → Int)} (h : XAny ks W v B rows) (k : XAny ls W u C cols) {ρ : Env} (hx : ρ.x = fun n => [some B, some C].getD n none) : ExtIn ρ W := by
  intro j B' hB
  unfold Env.y at hB
  rw [hx] at hB
  match j with
  | 0 =>
    simp only [List.getD_cons_zero] at hB
    cases hem : B.em with
    | none => rw [hem] at hB; cases hB; exact h.heap hem
    | some q => rw [hem] at hB; cases hB
  | 1 =>
    simp only [List.getD_cons_succ, List.getD_cons_zero] at hB
    cases hem : C.em with
    | none => rw [hem] at hB; cases hB; exact k.heap hem
    | some q => rw [hem] at hB; cases hB
  | j + 2 => simp at hB
theorem getD_left {α : Type} {a b : List α} {d : α} {c : Nat} (h : c < a.length) : (a ++ b).getD (0 + c) d = a.getD c d := by
  rw [Nat.zero_add, List.getD_eq_getElem?_getD, List.getElem?_append_left h, List.getD_eq_getElem?_getD]
theorem getD_right {α : Type} {a b : List α} {d : α} {o c : Nat} (h : a.length = o) : (a ++ b).getD (o + c) d = b.getD c d := by
  rw [List.getD_eq_getElem?_getD, List.getElem?_append_right (by omega), List.getD_eq_getElem?_getD]
  congr 2; omega
/-- the i-th offset, the i-th weight; the sums -/
def mOf (all : List (Int → Int)) (c : Nat) (i : Nat) : Int := (all.getD c (fun _ => 0)) (i : Int)
noncomputable def mWt (d : Int) : Int := mxI (apN 8 4294967296 (mxI d 21474836) 0) 1
noncomputable def mW (all : List (Int → Int)) : Nat → Int
  | 0 => 0
  | i + 1 => sat (mW all i + mWt (mOf all 1 i))
noncomputable def mS (all : List (Int → Int)) : Nat → Int
  | 0 => 0
  | i + 1 => sat (mS all i + sat (mOf all 0 i * mWt (mOf all 1 i) / 4294967296))
theorem sat_zero : (-9223372036854775807 : Int) ≤ 0 ∧ (0 : Int) ≤ 9223372036854775807 := by decide
theorem mW_in {all : List (Int → Int)} : ∀ i, -9223372036854775807 ≤ mW all i ∧ mW all i ≤ 9223372036854775807
  | 0 => sat_zero
  | i + 1 => sat_in _
theorem mS_in {all : List (Int → Int)} : ∀ i, -9223372036854775807 ≤ mS all i ∧ mS all i ≤ 9223372036854775807
  | 0 => sat_zero
  | i + 1 => sat_in _
section
variable {W : World} {v v1 : Value} {B C : Ext} {rows cols : List (Int → Int)}
theorem mRow_in (hB : XAny [.int .i64] W v B rows) (hC : XAny [.int .i64] W v1 C cols) : ∀ (i : Nat) v, ([i64J, i64J] : List (Int × Int))[i]? = some v → ∀ a, v.1 ≤ ((rows ++ cols).getD i (fun _ => 0)) a ∧ ((rows ++ cols).getD i (fun _ => 0)) a ≤ v.2 := by
  intro i v hv a
  match i with
  | 0 =>
    have e := getD_left (a := rows) (b := cols) (d := fun _ => 0) (c := 0) (by rw [hB.len]; decide)
    rw [Nat.zero_add] at e
    rw [e]
    cases hv
    exact hB.rg 0 _ rfl a
  | 1 =>
    have e := getD_right (a := rows) (b := cols) (d := fun _ => 0) (o := 1) (c := 0) hB.len
    rw [Nat.add_zero] at e
    rw [e]
    cases hv
    exact hC.rg 0 _ rfl a
  | i + 2 => simp at hv
theorem mArIn (hB : XAny [.int .i64] W v B rows) (hC : XAny [.int .i64] W v1 C cols) {ρ : Env} (ha : ρ.a = apR (rows ++ cols)) : ArIn ρ mAr := arIn_R ha (mRow_in hB hC)
theorem mXok (hB : XAny [.int .i64] W v B rows) (hC : XAny [.int .i64] W v1 C cols) {ρ : Env} (ha : ρ.a = apR (rows ++ cols)) (hx : ρ.x = fun n => [some B, some C].getD n none) (h0 : ρ.i 0 = B.len) (h1 : ρ.i 1 = C.len) : ∀ (j : Nat) d, mXs[j]? = some d → XOk ρ d (ρ.x j) :=
  xs_two (xok_off hB ha (o := 0) (fun c hc => getD_left (by rw [hB.len]; exact hc)) h0) (xok_off hC ha (o := 1) (fun c hc => getD_right hB.len) h1) (by rw [hx]; rfl) (by rw [hx]; rfl)
/-- the mean's numbers -/
noncomputable def mnEv (B C : Ext) (all : List (Int → Int)) (lo hi : Int) : Env := envOf [(B.len : Int), (C.len : Int), lo, hi, mW all (min B.len C.len), mS all (min B.len C.len)] (ap := apR all) (xs := [some B, some C])
theorem mn_in (hB : XAny [.int .i64] W v B rows) (hC : XAny [.int .i64] W v1 C cols) (hl : B.len ≤ 60) (hg : C.len ≤ 60) {lo hi : Int} (h1 : InI lo) (h2 : InI hi) : AllIn (mnEv B C (rows ++ cols) lo hi).i mRl 0 := by
  refine ⟨?_, ?_, h1, h2, mW_in _, mS_in _, trivial⟩
  · show (0 : Int) ≤ (B.len : Nat) ∧ ((B.len : Nat) : Int) ≤ 60
    omega
  · show (0 : Int) ≤ (C.len : Nat) ∧ ((C.len : Nat) : Int) ≤ 60
    omega
theorem apR_of {all : List (Int → Int)} {c : Nat} {i : Nat} : apR all (20 + c) (i : Int) 0 0 = mOf all c i := by
  unfold apR mOf
  rw [if_neg (by omega), Nat.add_sub_cancel_left]
theorem mn_loop (hB : XAny [.int .i64] W v B rows) (hC : XAny [.int .i64] W v1 C cols) (hl : B.len ≤ 60) (hg : C.len ≤ 60) {lo hi : Int} (h1 : InI lo) (h2 : InI hi) {c : Code} (hc : codeAt Try.prog 99 mnP = .loop c) (E : List (Nat × Nat)) : LoopGoes Try.prog (mnEv B C (rows ++ cols) lo hi) E mnL c := by
  have hin := mn_in hB hC hl hg h1 h2
  refine rt_lpg mixed mn_B hc (ρ := mnEv B C (rows ++ cols) lo hi) (fun n is bs => ∃ i : Nat, n + i = min B.len C.len ∧ is = [(B.len : Int), (C.len : Int), lo, hi, mW (rows ++ cols) (min B.len C.len), mS (rows ++ cols) (min B.len C.len), mW (rows ++ cols) i, mS (rows ++ cols) i, (i : Int)] ∧ bs = []) ?_ ?_ ?_ ?_
  · rintro n is bs ⟨i, hi0, rfl, rfl⟩
    refine knows_env rfl ?_ (mArIn hB hC rfl) (mXok hB hC rfl rfl rfl rfl)
    exact ⟨hin.1, hin.2.1, h1, h2, mW_in _, mS_in _, mW_in _, mS_in _, ⟨by show (0 : Int) ≤ (i : Nat); omega, by show ((i : Nat) : Int) ≤ 60; omega⟩, trivial⟩
  · rintro n is bs ⟨i, hi0, rfl, rfl⟩ E
    have hAll : AllIn ((mnEv B C (rows ++ cols) lo hi).on [(B.len : Int), (C.len : Int), lo, hi, mW (rows ++ cols) (min B.len C.len), mS (rows ++ cols) (min B.len C.len), mW (rows ++ cols) i, mS (rows ++ cols) i, (i : Int)] []).i mRg 0 := ⟨hin.1, hin.2.1, h1, h2, mW_in _, mS_in _, mW_in _, mS_in _, ⟨by show (0 : Int) ≤ (i : Nat); omega, by show ((i : Nat) : Int) ≤ 60; omega⟩, trivial⟩
    exact ⟨fun q hq φ w hx => crS_ok q hq φ w hx, fun pc hpc f vs v h _ φ w _ => conCt_ok hAll.get0 (mArIn hB hC rfl) (consN_ok (numA_R rfl)) hpc h φ w, fun f p u L h => (by cases h)⟩
  · exact ⟨min B.len C.len, _, _, ⟨0, rfl, rfl, rfl⟩, List.prefix_rfl, List.prefix_rfl⟩
  · rintro n is bs ⟨i, hi0, rfl, rfl⟩
    generalize hρ : (mnEv B C (rows ++ cols) lo hi).on [(B.len : Int), (C.len : Int), lo, hi, mW (rows ++ cols) (min B.len C.len), mS (rows ++ cols) (min B.len C.len), mW (rows ++ cols) i, mS (rows ++ cols) i, (i : Int)] [] = ρ'
    have g : ∀ k x, ([(B.len : Int), (C.len : Int), lo, hi, mW (rows ++ cols) (min B.len C.len), mS (rows ++ cols) (min B.len C.len), mW (rows ++ cols) i, mS (rows ++ cols) i, (i : Int)] : List Int)[k]? = some x → ρ'.i k = x := fun k x h => by
      rw [← hρ]
      show List.getD _ _ _ = _
      rw [List.getD_eq_getElem?_getD, h]; rfl
    have ha : ρ'.a = apR (rows ++ cols) := by rw [← hρ]; rfl
    have hmn : mnI (B.len : Int) (C.len : Int) = ((min B.len C.len : Nat) : Int) := by unfold mnI; split <;> omega
    by_cases hlt : i < min B.len C.len
    · left
      refine ⟨_, _, n - 1, _, _, ?_, by omega, ⟨i + 1, by omega, rfl, rfl⟩, List.prefix_rfl, List.prefix_rfl⟩
      have e : mnT.next ρ' = cond (decide (ρ'.i 8 < mnI (ρ'.i 0) (ρ'.i 1))) (cond (decide (ρ'.i 8 < ρ'.i 0)) (cond (decide (ρ'.i 8 < ρ'.i 1)) (some ([ρ'.i 0, ρ'.i 1, ρ'.i 2, ρ'.i 3, ρ'.i 4, ρ'.i 5, ρ'.a 1 (ρ'.i 6) (mxI (ρ'.a 8 4294967296 (mxI (ρ'.a 21 (ρ'.i 8) 0 0) 21474836) 0) 1) 0, ρ'.a 1 (ρ'.i 7) (ρ'.a 4 (ρ'.a 20 (ρ'.i 8) 0 0) (mxI (ρ'.a 8 4294967296 (mxI (ρ'.a 21 (ρ'.i 8) 0 0) 21474836) 0) 1) 0) 0, ρ'.i 8 + 1], [])) none) none) none := rfl
      rw [e, ha, g 0 _ rfl, g 1 _ rfl, g 2 _ rfl, g 3 _ rfl, g 4 _ rfl, g 5 _ rfl, g 6 _ rfl, g 7 _ rfl, g 8 _ rfl, show apR (rows ++ cols) 21 (i : Int) 0 0 = _ from apR_of (c := 1), show apR (rows ++ cols) 20 (i : Int) 0 0 = _ from apR_of (c := 0), hmn, decide_eq_true (by omega), decide_eq_true (by omega), decide_eq_true (by omega)]
      rfl
    · right
      have hii : i = min B.len C.len := by omega
      have e : mnT.out ρ' = cond (decide (ρ'.i 8 < mnI (ρ'.i 0) (ρ'.i 1))) (cond (decide (ρ'.i 8 < ρ'.i 0)) (cond (decide (ρ'.i 8 < ρ'.i 1)) none none) none) (some ([ρ'.i 0, ρ'.i 1, ρ'.i 2, ρ'.i 3, ρ'.i 6, ρ'.i 7], [])) := rfl
      rw [e, g 0 _ rfl, g 1 _ rfl, g 2 _ rfl, g 3 _ rfl, g 6 _ rfl, g 7 _ rfl, g 8 _ rfl, hmn, decide_eq_false (by omega)]
      refine ⟨_, _, rfl, ?_⟩
      rw [hii]
      exact envOf_has_pre List.prefix_rfl List.prefix_rfl
def mnLp (f : FuncId) (p : List Nat) (_ : Nat) : Option LoopSum := if Nat.beq f 99 && decide (p = mnP) then some mnL else none
/-- the mean of any offsets, weighed -/
theorem mean_known (hB : XAny [.int .i64] W v B rows) (hC : XAny [.int .i64] W v1 C cols) (hl : B.len ≤ 60) (hg : C.len ≤ 60) {ρ : Env} (hx : ρ.x = fun n => [some B, some C].getD n none) {lo hi r : IE} (h1 : InI (lo.den ρ)) (h2 : InI (hi.den ρ)) (hr : r.den ρ = apN 10 (apN 8 (mS (rows ++ cols) (min B.len C.len)) (mW (rows ++ cols) (min B.len C.len)) 0) (lo.den ρ) (hi.den ρ)) : Known Try.prog ρ (38, [.xs 0, .xs 1, .agg [.int .i64 lo, .int .i64 hi]], .int .i64 r) := by
  intro φ w hw
  have hin := mn_in hB hC hl hg h1 h2
  have h := tree_soundX (P := Try.prog) mixed (ρ := mnEv B C (rows ++ cols) (lo.den ρ) (hi.den ρ)) (n := 2000) (f := 38) (args := [.xs 0, .xs 1, .agg [.int .i64 (.var 2), .int .i64 (.var 3)]]) (.leaf (.int .i64 (.ap 10 (.ap 8 (.var 5) (.var 4) (.lit 0)) (.var 2) (.var 3)))) (X := { pc := [], cr := crS, rg := mRl, ar := mAr, ct := conCt mRl mAr consN, xs := mXs, lp := mnLp }) (knows_env rfl hin (mArIn hB hC rfl) (mXok hB hC rfl rfl rfl rfl))
    ⟨fun q hq φ w hx => crS_ok q hq φ w hx, fun pc hpc f vs v h _ φ w _ => conCt_ok hin.get0 (mArIn hB hC rfl) (consN_ok (numA_R rfl)) hpc h φ w, fun f p u L h c hc _ => (by
      replace h : mnLp f p u = some L := h
      unfold mnLp at h
      split at h
      · rename_i hcc
        simp only [Bool.and_eq_true, Nat.beq_eq, decide_eq_true_eq] at hcc
        obtain ⟨rfl, rfl⟩ := hcc
        cases h
        exact mn_loop hB hC hl hg h1 h2 hc []
      · cases h)⟩ (Tree.ok_of_check (by kernel_rfl)) rfl w (fun j B' hB' => hw j B' (by rw [← Env.y_congr (ρ := mnEv B C (rows ++ cols) (lo.den ρ) (hi.den ρ)) (ρ' := ρ) hx] at hB'; exact hB'))
  have e1 : (SV.denL ρ φ [.xs 0, .xs 1, .agg [.int .i64 lo, .int .i64 hi]]).toArray = (SV.denL (mnEv B C (rows ++ cols) (lo.den ρ) (hi.den ρ)) id [.xs 0, .xs 1, .agg [.int .i64 (.var 2), .int .i64 (.var 3)]]).toArray := by
    simp only [SV.denL, SV.den, hx]
    rfl
  show Calls _ _ (SV.denL ρ φ [.xs 0, .xs 1, .agg [.int .i64 lo, .int .i64 hi]]).toArray w _
  rw [e1]
  refine h.mono ?_
  rintro e'' w' ⟨rfl, hb⟩
  refine ⟨congrArg Ending.returned ?_, hb⟩
  show Value.int .i64 _ = Value.int .i64 (r.den ρ)
  rw [hr]
  rfl
end
end Go.Proofs.Ytopgidgkpafeeaa
