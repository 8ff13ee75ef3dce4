/- Several texts in one. -/
import Derived.Test.YtopgidgkpafeeaaM27
import Derived.Test.YtopgidgkpafeeaaM28
import Derived.Test.YtopgidgkpafeeaaM14
import Derived.Test.YtopgidgkpafeeaaM21
/- Laws with loops and with slices of the caller's. -/
namespace Go.Proofs.Ytopgidgkpafeeaa
open Go Go.RowKit Ev
set_option linter.unusedVariables false
set_option maxRecDepth 100000

/-- the loops' sums are kept -/
def LpOk (ρ : Env) (E : List (Nat × Nat)) (lp : FuncId → List Nat → Nat → Option LoopSum) : Prop :=
  ∀ f p u L, lp f p u = some L → ∀ c, codeAt Try.prog f p = .loop c → sameIds L.bl L.bl' = true → LoopGoes Try.prog ρ E L c
theorem LpOk.none {ρ : Env} {E : List (Nat × Nat)} : LpOk ρ E (fun _ _ _ => none) := fun f p u L h => by cases h
/-- the bounds of functions -/
def ArIn (ρ : Env) (ar : List (Int × Int)) : Prop := ∀ (f : Nat) v, ar[f]? = some v → ∀ a b c, v.1 ≤ ρ.a f a b c ∧ ρ.a f a b c ≤ v.2
theorem knowsC_all {cr : List (FuncId × List SV × SV)} {rg ar : List (Int × Int)} {lp : FuncId → List Nat → Nat → Option LoopSum} {xs : List XD} {nm : List (IE × IE)} {ρ : Env} {E : List (Nat × Nat)} (hrg : ∀ (i : Nat) v, rg[i]? = some v → v.1 ≤ ρ.i i ∧ ρ.i i ≤ v.2) (ha : NumA ρ) (har : ArIn ρ ar) (hcr : ∀ c ∈ cr, Known Try.prog ρ c) (hlp : LpOk ρ E lp) :
    KnowsC Try.prog ρ E { pc := [], cr := cr ++ crS, rg := rg, ar := ar, ct := conCt rg ar consN, lp := lp, xs := xs, nm := nm } :=
  ⟨fun c hc φ w hx => (by rcases List.mem_append.1 hc with hc | hc; exact hcr c hc φ w hx; exact crS_ok c hc φ w hx), fun pc hpc f vs v h _ φ w _ => conCt_ok hrg har (consN_ok ha) hpc h φ w, hlp⟩
/-- a law by its tree: known calls, contracts, loops, slices -/
theorem law_all {ρ : Env} {rg ar : List (Int × Int)} (hin : AllIn ρ.i rg 0) (ha : NumA ρ) (har : ArIn ρ ar) {cr : List (FuncId × List SV × SV)} (hcr : ∀ c ∈ cr, Known Try.prog ρ c) {lp : FuncId → List Nat → Nat → Option LoopSum} (hlp : LpOk ρ [] lp) {xs : List XD} (hxs : ∀ (j : Nat) d, xs[j]? = some d → XOk ρ d (ρ.x j))
    (T : Tree) {n : Nat} {f : FuncId} {args : List SV} (hT : T.check Try.prog { pc := [], cr := cr ++ crS, rg := rg, ar := ar, ct := conCt rg ar consN, lp := lp, xs := xs } n f args = true) (hl : T.live ρ = true) {v : Value} (hv : T.val ρ = v) (w : World) (hx : ExtIn ρ w) :
    Calls Try.prog f (SV.denL ρ id args).toArray w fun e w' => e = .returned v ∧ Below w.heap.size w w' := by
  have h := tree_soundX (P := Try.prog) mixed (ρ := ρ) T (X := { pc := [], cr := cr ++ crS, rg := rg, ar := ar, ct := conCt rg ar consN, lp := lp, xs := xs }) (knows_env rfl hin har hxs)
    (knowsC_all hin.get0 ha har hcr hlp) (Tree.ok_of_check hT) hl w hx
  rw [hv] at h
  exact h
/-- a path of the tree is taken, and what it comes to is true -/
def good (ρ : Env) : Tree → Bool
  | .dead => false
  | .leaf (.bool b) => b.den ρ
  | .leaf _ => false
  | .node c t e => cond (c.den ρ) (good ρ t) (good ρ e)
theorem good_ok {ρ : Env} : ∀ {T : Tree}, good ρ T = true → T.live ρ = true ∧ T.val ρ = .bool true
  | .dead, h => by cases h
  | .leaf v, h => by
    cases v <;> simp only [good, Bool.false_eq_true] at h
    exact ⟨rfl, by simp only [Tree.val, SV.den, h]⟩
  | .node c t e, h => by
    simp only [good] at h
    simp only [Tree.live, Tree.val]
    cases hc : c.den ρ with
    | true => rw [hc] at h; exact good_ok h
    | false => rw [hc] at h; exact good_ok h
/-- a law by its tree, path by path -/
theorem law_good {ρ : Env} {rg ar : List (Int × Int)} (hin : AllIn ρ.i rg 0) (ha : NumA ρ) (har : ArIn ρ ar) {cr : List (FuncId × List SV × SV)} (hcr : ∀ c ∈ cr, Known Try.prog ρ c) {lp : FuncId → List Nat → Nat → Option LoopSum} (hlp : LpOk ρ [] lp) {xs : List XD} (hxs : ∀ (j : Nat) d, xs[j]? = some d → XOk ρ d (ρ.x j)) {nm : List (IE × IE)} (hnm : ∀ p ∈ nm, p.1.den ρ = p.2.den ρ)
    (T : Tree) {n : Nat} {f : FuncId} {args : List SV} (hT : T.Ok Try.prog { pc := [], cr := cr ++ crS, rg := rg, ar := ar, ct := conCt rg ar consN, lp := lp, xs := xs, nm := nm } n f args) (hg : good ρ T = true) (w : World) (hx : ExtIn ρ w) :
    Calls Try.prog f (SV.denL ρ id args).toArray w fun e w' => e = .returned (.bool true) ∧ Below w.heap.size w w' := by
  obtain ⟨hl, hv⟩ := good_ok hg
  have h := tree_soundX (P := Try.prog) mixed (ρ := ρ) T (X := { pc := [], cr := cr ++ crS, rg := rg, ar := ar, ct := conCt rg ar consN, lp := lp, xs := xs, nm := nm }) (knows_env rfl hin har hxs hnm)
    (knowsC_all hin.get0 ha har hcr hlp) hT hl w hx
  rw [hv] at h
  exact h
theorem arIn_N {ρ : Env} (h : ρ.a = apN) : ArIn ρ arN := by unfold ArIn; rw [h]; exact arN_ok
theorem arIn_R {ρ : Env} {rows : List (Int → Int)} {l : List (Int × Int)} (h : ρ.a = apR rows) (hr : ∀ (i : Nat) v, l[i]? = some v → ∀ a, v.1 ≤ (rows.getD i (fun _ => 0)) a ∧ (rows.getD i (fun _ => 0)) a ≤ v.2) : ArIn ρ (arN ++ l) := by unfold ArIn; rw [h]; exact arR_ok hr
/-- the slice of a law that has one -/
theorem xok_one {ks : List EK} {W : World} {v : Value} {B : Ext} {rows : List (Int → Int)} (h : XIn ks W v B rows) {ρ : Env} (ha : ρ.a = apR rows) {n : Nat} (hn : ρ.i n = B.len) : XOk ρ ⟨n, 20, ks⟩ (some B) := by
  refine ⟨hn, h.sz, .inl h.em, fun i c k hi hk => ?_⟩
  rw [h.cells i c k hi hk]
  have hc := (List.getElem?_eq_some_iff.1 hk).1
  cases k <;> simp only [ekV, cellV, ha, apR, if_neg (show ¬ 20 + c < 20 by omega), show 20 + c - 20 = c by omega]
theorem xs_one {ρ : Env} {d : XD} {o : Option Ext} (h : XOk ρ d o) (hx : ρ.x 0 = o) : ∀ (j : Nat) d', [d][j]? = some d' → XOk ρ d' (ρ.x j) := by
  intro j d' hj
  have h0 := (List.getElem?_eq_some_iff.1 hj).1
  obtain rfl : j = 0 := by simp at h0; exact h0
  simp at hj
  subst hj
  rw [hx]
  exact h
theorem ext_one {ks : List EK} {W : World} {v : Value} {B : Ext} {rows : List (Int → Int)} (h : XIn ks W v B rows) {ρ : Env} (hx : ρ.x = fun n => [some B].getD n none) : ExtIn ρ W := by
  exact ext_any ⟨h.val, h.le, .inl h.em, fun _ => h.heap, h.sz, h.len, h.cells, h.rg, h.ng⟩ hx
theorem xok_any {ks : List EK} {W : World} {v : Value} {B : Ext} {rows : List (Int → Int)} (h : XAny ks W v B rows) {ρ : Env} (ha : ρ.a = apR rows) {n : Nat} (hn : ρ.i n = B.len) : XOk ρ ⟨n, 20, ks⟩ (some B) := by
  refine ⟨hn, h.sz, h.emp, fun i c k hi hk => ?_⟩
  rw [h.cells i c k hi hk]
  have hc := (List.getElem?_eq_some_iff.1 hk).1
  cases k <;> simp only [ekV, cellV, ha, apR, if_neg (show ¬ 20 + c < 20 by omega), show 20 + c - 20 = c by omega]
/-- a loop's sum by what holds at its head; the rounds' environments may tell more than the head has variables -/
theorem rt_lpx {L : LoopSum} {n : Nat} {f : FuncId} {p : List Nat} {u : Nat} {H : St} {T : RT} {X : Ctx} {es : List IE} {bs : List BE} (hB : lpB Try.prog X n f p u L H T es bs = true) {c : Code} (hc : codeAt Try.prog f p = .loop c) {ρ : Env} {E : List (Nat × Nat)}
    (J : Nat → List Int → List Bool → Prop) (hX : ∀ m is bs, J m is bs → Knows (ρ.on is bs) X) (hC : ∀ m is bs, J m is bs → ∀ E, KnowsC Try.prog (ρ.on is bs) E X)
    (h0 : ∃ m is bs', J m is bs' ∧ dens ρ es <+: is ∧ bdens ρ bs <+: bs') (hstep : ∀ m is bs, J m is bs → (∃ is' bs' m' js cs, T.next (ρ.on is bs) = some (is', bs') ∧ m' < m ∧ J m' js cs ∧ is' <+: js ∧ bs' <+: cs) ∨ (∃ is' bs', T.out (ρ.on is bs) = some (is', bs') ∧ ρ.has is' bs'))
    : LoopGoes Try.prog ρ E L c := by
  simp only [lpB, Bool.and_eq_true] at hB
  obtain ⟨⟨⟨⟨⟨⟨hown, hHs⟩, hLs⟩, hT⟩, hf0⟩, hv0⟩, hne⟩ := hB
  have hcp : codeAt Try.prog f (0 :: p) = c := by simp only [codeAt, hc, child]
  have pre : ∀ {is js : List Int} {bs cs : List Bool}, is <+: js → bs <+: cs → (ρ.on js cs).has is bs := by
    rintro is _ bs _ ⟨r, rfl⟩ ⟨s, rfl⟩
    exact Env.has_left (ρ.on_has (is ++ r) (bs ++ s))
  refine lp_frame hown (fun w1 φ1 a D hr1 Q hQ1 => ?_)
  have al : ∀ {t : Store}, L.bl.all (fun q => (Store.get t q.1).isSome) = true → L.bl.all (fun q => (Store.get t q.1).isSome && Nat.beq (Ev.pi [] q.1) q.1) = true := by
    intro t ht
    rw [List.all_eq_true] at ht ⊢
    intro q hq
    simp only [Bool.and_eq_true]
    exact ⟨ht q hq, by simp [Ev.pi]⟩
  obtain ⟨m0, is0, bs0, hJ0, hi0, hb0⟩ := h0
  have hh := pre hi0 hb0
  have hr2 := hr1.goes (ρ' := ρ.on is0 bs0) es bs [] hf0 (al hHs) (by simp) hv0 (fun i e he => hh.1 i _ (by simp [dens, he])) (fun i e he => hh.2 i _ (by simp [bdens, he])) rfl rfl rfl rfl
  refine wpIn_loop_ind (fun m a w => ∃ is bs, J m is bs ∧ RelF Try.prog (ρ.on is bs) (L.bl.map fun p => (p.1, φ1 p.1)) D w1 φ1 L.bl H a w) ?_ (m := m0) ⟨_, _, hJ0, hr2⟩
  rintro m a w ⟨is, bs', hJ, hr⟩
  rcases hstep m is bs' hJ with ⟨is', bs'', m', js, cs, h1, hlt, hJ', hp1, hp2⟩ | ⟨is', bs'', h1, h2⟩
  · exact rt_go mixed hcp hHs T (ρ' := ρ.on js cs) (hX m is bs' hJ) (hC m is bs' hJ _) hT hr ⟨rfl, rfl, rfl, rfl⟩ h1 (pre hp1 hp2) (fun a' w' hr' => ⟨m', hlt, js, cs, hJ', hr'⟩)
  · refine rt_stop mixed hcp hLs T (ρ' := ρ) (hX m is bs' hJ) (hC m is bs' hJ _) hT hr ⟨rfl, rfl, rfl, rfl⟩ h1 h2 (fun a' w' hr' => ?_)
    have := hQ1 a' w' hr'
    cases hex : L.ex with
    | normal => rw [hex] at hne; cases hne
    | pan v => rw [hex] at hne; cases hne
    | exit i => rw [hex] at this; exact this
    | ret => rw [hex] at this; exact this
end Go.Proofs.Ytopgidgkpafeeaa
/- Law 18: CombineNear. -/
namespace Go.Proofs.Ytopgidgkpafeeaa
open Go Go.RowKit Ev
set_option linter.unusedVariables false
set_option linter.unusedSimpArgs false
set_option maxRecDepth 100000

theorem shown18 (w : World) : Calls Try.prog 37 #[] w fun e w' => e = .returned (.bool true) ∧ Below w.heap.size w w' :=
  law_any (is := []) (bs := []) (fs := []) (rg := []) (args := []) trivial (cr := []) (fun c hc => by cases hc) (.leaf (.bool (.lit true))) (n := 2000) (by kernel_rfl) rfl rfl w
/-- a weight of a distance that is no great one -/
noncomputable def cbW (d : Int) : Int := max (apN 8 4294967296 (max d 21474836) 0) 1
theorem mxI_max (a b : Int) : mxI a b = max a b := by unfold mxI; split <;> omega
theorem mnI_min (a b : Int) : mnI a b = min a b := by unfold mnI; split <;> omega
theorem weight_any (d : Int) (hd : InI d) (w : World) : Calls Try.prog 39 #[.int .i64 d] w fun e w' => e = .returned (.int .i64 (cbW d)) ∧ Below w.heap.size w w' :=
  law_any (bs := []) (fs := []) (is := [d]) (rg := [i64R]) (args := [.int .i64 (.var 0)]) ⟨hd, trivial⟩ (cr := []) (fun c hc => by cases hc) (.leaf (.int .i64 (.mx (.ap 8 (.lit 4294967296) (.mx (.var 0) (.lit 21474836)) (.lit 0)) (.lit 1)))) (n := 600) (by kernel_rfl) rfl (by
    show Value.int .i64 (mxI (apN 8 4294967296 (mxI d 21474836) 0) 1) = _
    rw [mxI_max, mxI_max]; rfl) w
theorem cbW_eq {d : Int} (h : 0 ≤ d ∧ d ≤ 4294967295) : cbW d = 18446744073709551616 / max d 21474836 ∧ 4294967297 ≤ cbW d ∧ cbW d ≤ 858993478400 := by
  have hD : 21474836 ≤ max d 21474836 ∧ max d 21474836 ≤ 4294967295 := by omega
  unfold cbW
  generalize max d 21474836 = D at hD
  have h2 : 18446744073709551616 / D < 858993478401 := Int.ediv_lt_of_lt_mul (by omega) (by omega)
  have h3 : 4294967297 ≤ 18446744073709551616 / D := by
    rw [Int.le_ediv_iff_mul_le (by omega)]; omega
  have e : apN 8 4294967296 D 0 = 18446744073709551616 / D := by
    show sat (fDiv 4294967296 D) = _
    unfold fDiv
    rw [if_neg (by decide), if_neg (by omega), Int.fdiv_eq_ediv_of_nonneg _ (by omega)]
    have h1 : (4294967296 * 4294967296 : Int) = 18446744073709551616 := by decide
    rw [h1]
    unfold sat
    omega
  rw [e]
  omega
theorem cbW_mono {a b : Int} (ha : 0 ≤ a) (hab : a ≤ b) (hb : b ≤ 4294967295) : cbW b ≤ cbW a := by
  rw [(cbW_eq (d := a) ⟨ha, by omega⟩).1, (cbW_eq (d := b) ⟨by omega, hb⟩).1]
  have h1 : max a 21474836 ≤ max b 21474836 := by omega
  have h0 : 0 < max a 21474836 := by omega
  generalize max a 21474836 = A at h0 h1
  generalize max b 21474836 = B at h1
  rw [Int.le_ediv_iff_mul_le h0]
  have h2 : 0 ≤ 18446744073709551616 / B := Int.ediv_nonneg (by decide) (by omega)
  have h3 := Int.mul_le_mul_of_nonneg_left h1 h2
  have h4 : 18446744073709551616 / B * B ≤ 18446744073709551616 := Int.ediv_mul_le _ (by omega)
  omega
/-- the mean of two, weighed -/
noncomputable def cbM (x y a b : Int) : Int := apN 10 (apN 8 (apN 1 (apN 1 0 (apN 4 x a 0) 0) (apN 4 y b 0) 0) (apN 1 (apN 1 0 a 0) b 0) 0) (-1125899906842624) 1125899906842624
theorem mul_in {x w : Int} (hx : -2147483648 ≤ x ∧ x ≤ 2147483647) (hw : 0 ≤ w ∧ w ≤ 858993478400) : -2147483648 * w ≤ x * w ∧ x * w ≤ 2147483647 * w := by
  have h1 := Int.mul_le_mul_of_nonneg_right hx.1 hw.1
  have h2 := Int.mul_le_mul_of_nonneg_right hx.2 hw.1
  exact ⟨h1, h2⟩
theorem cbM_at {x y a b : Int} (hx : -2147483648 ≤ x ∧ x ≤ 2147483647) (hy : -2147483648 ≤ y ∧ y ≤ 2147483647) (ha : 4294967297 ≤ a ∧ a ≤ 858993478400) (hb : 4294967297 ≤ b ∧ b ≤ 858993478400) :
    a * (cbM x y a b - x) + b * (cbM x y a b - y) ≤ 0 ∧ 0 < a * (cbM x y a b - x + 2) + b * (cbM x y a b - y + 2) := by
  have hxa := mul_in hx (w := a) ⟨by omega, ha.2⟩
  have hyb := mul_in hy (w := b) ⟨by omega, hb.2⟩
  have e1 : apN 4 x a 0 = x * a / 4294967296 := by
    show sat (x * a / 4294967296) = _
    unfold sat; omega
  have e2 : apN 4 y b 0 = y * b / 4294967296 := by
    show sat (y * b / 4294967296) = _
    unfold sat; omega
  have e3 : apN 1 (apN 1 0 (apN 4 x a 0) 0) (apN 4 y b 0) 0 = x * a / 4294967296 + y * b / 4294967296 := by
    rw [e1, e2]
    show sat (sat (0 + x * a / 4294967296) + y * b / 4294967296) = _
    unfold sat; omega
  have e4 : apN 1 (apN 1 0 a 0) b 0 = a + b := by
    show sat (sat (0 + a) + b) = _
    unfold sat; omega
  unfold cbM
  rw [e3, e4]
  generalize hS : x * a / 4294967296 + y * b / 4294967296 = S
  have hT : 8589934594 ≤ a + b := by omega
  have e5 : apN 8 S (a + b) 0 = sat (S * 4294967296 / (a + b)) := by
    show sat (fDiv S (a + b)) = _
    unfold fDiv
    by_cases h0 : S = 0
    · subst h0; rw [if_pos rfl, Int.zero_mul, Int.zero_ediv]
    · rw [if_neg h0, if_neg (by omega), Int.fdiv_eq_ediv_of_nonneg _ (by omega)]
      unfold sat; omega
  have q1 : (a + b) * (S * 4294967296 / (a + b)) ≤ S * 4294967296 := Int.mul_ediv_self_le (by omega)
  have q2 : S * 4294967296 < (a + b) * (S * 4294967296 / (a + b)) + (a + b) := Int.lt_mul_ediv_self_add (by omega)
  have b1 : S * 4294967296 / (a + b) < 2147483648 * 2 := Int.ediv_lt_of_lt_mul (by omega) (by omega)
  have b2 : -(2147483648 * 4) ≤ S * 4294967296 / (a + b) := by
    rw [Int.le_ediv_iff_mul_le (by omega)]; omega
  rw [e5]
  generalize S * 4294967296 / (a + b) = q at q1 q2 b1 b2
  have e6 : apN 10 (sat q) (-1125899906842624) 1125899906842624 = q := by
    show sat (fClamp (sat q) (-1125899906842624) 1125899906842624) = q
    have : sat q = q := by unfold sat; omega
    rw [this]
    unfold fClamp sat
    rw [if_neg (by omega), if_neg (by omega)]
    omega
  rw [e6]
  rw [Int.add_mul] at q1 q2
  simp only [Int.mul_add, Int.mul_sub]
  rw [Int.mul_comm x a] at hS hxa
  rw [Int.mul_comm y b] at hS hyb
  omega
theorem cbM_in (x y a b : Int) : -1125899906842624 ≤ cbM x y a b ∧ cbM x y a b ≤ 1125899906842624 := by
  unfold cbM
  generalize apN 8 _ _ _ = q
  show -1125899906842624 ≤ sat (fClamp q (-1125899906842624) 1125899906842624) ∧ sat (fClamp q (-1125899906842624) 1125899906842624) ≤ 1125899906842624
  unfold fClamp sat
  split
  · omega
  · split <;> omega
/-- the mean lies near the nearer one -/
theorem cb_near {x y a b q : Int} (hb : 0 < b) (hab : b ≤ a) (h1 : a * (q - x) + b * (q - y) ≤ 0) (h2 : 0 < a * (q - x + 2) + b * (q - y + 2)) :
    (q ≤ x ∨ q ≤ y) ∧ (x - 2 < q ∨ y - 2 < q) ∧ (x ≤ q → q - x ≤ y - q) ∧ (q < x → x - q ≤ 1 ∨ x - q < q - y + 4) := by
  have ha : 0 < a := by omega
  refine ⟨?_, ?_, fun h => ?_, fun h => ?_⟩
  · by_cases h3 : q ≤ x
    · exact .inl h3
    · by_cases h4 : q ≤ y
      · exact .inr h4
      · have := Int.mul_pos ha (show 0 < q - x by omega)
        have := Int.mul_pos hb (show 0 < q - y by omega)
        omega
  · by_cases h3 : x - 2 < q
    · exact .inl h3
    · by_cases h4 : y - 2 < q
      · exact .inr h4
      · have := Int.mul_nonneg (Int.le_of_lt ha) (show 0 ≤ -(q - x + 2) by omega)
        have := Int.mul_nonneg (Int.le_of_lt hb) (show 0 ≤ -(q - y + 2) by omega)
        rw [Int.mul_neg] at *
        omega
  · by_cases h3 : q - x ≤ y - q
    · exact h3
    · have h4 := Int.mul_le_mul_of_nonneg_right hab (show 0 ≤ q - x by omega)
      have h5 := Int.mul_le_mul_of_nonneg_left (show 1 ≤ (q - x) + (q - y) by omega) (Int.le_of_lt hb)
      rw [Int.mul_add] at h5
      omega
  · by_cases h6 : x - q ≤ 1
    · exact .inl h6
    · by_cases h3 : x - q < q - y + 4
      · exact .inr h3
      · have h4 := Int.mul_le_mul_of_nonneg_right hab (show 0 ≤ x - q - 2 by omega)
        have h5 := Int.mul_le_mul_of_nonneg_left (show (q - y + 2) ≤ x - q - 2 by omega) (Int.le_of_lt hb)
        have e : a * (q - x + 2) = -(a * (x - q - 2)) := by rw [← Int.mul_neg]; congr 1; omega
        omega
abbrev cnR : List (Int × Int) := [(0, 4294967295), (0, 4294967295), (-2147483648, 2147483647), (-2147483648, 2147483647), (4294967297, 858993478400), (4294967297, 858993478400), (-1125899906842624, 1125899906842624)]
abbrev cnK : List (FuncId × List SV × SV) := [(37, [], .bool (.lit true)), (39, [.int .i64 (.mn (.var 0) (.var 1))], .int .i64 (.var 4)), (39, [.int .i64 (.mx (.var 0) (.var 1))], .int .i64 (.var 5)), (72, [.int .i64 (.ap 8 (.ap 1 (.ap 1 (.lit 0) (.ap 4 (.var 2) (.var 4) (.lit 0)) (.lit 0)) (.ap 4 (.var 3) (.var 5) (.lit 0)) (.lit 0)) (.ap 1 (.ap 1 (.lit 0) (.var 4) (.lit 0)) (.var 5) (.lit 0)) (.lit 0)), .int .i64 (.lit (-1125899906842624)), .int .i64 (.lit 1125899906842624)], .int .i64 (.var 6))]
def cnRest (e d : IE) : Tree := .node (.cmp .lss (.var 4) (.var 5)) (.leaf (.bool (.lit false))) (.node (.cmp .lss (.pl .add e (.lit 4)) d) (.leaf (.bool (.lit false))) (.node (.cmp .lss (.var 6) (.pl .sub (.mn (.var 2) (.var 3)) (.lit 2))) (.leaf (.bool (.lit false))) (.node (.cmp .lss (.mx (.var 2) (.var 3)) (.var 6)) (.leaf (.bool (.lit false))) (.leaf (.bool (.lit true))))))
abbrev cnD : IE := .pl .sub (.var 6) (.var 2)
abbrev cnE : IE := .pl .sub (.var 6) (.var 3)
def cnT : Tree := .node (.cmp .lss cnD (.lit 0)) (.node (.cmp .lss cnE (.lit 0)) (cnRest (.pl .sub (.lit 0) cnE) (.pl .sub (.lit 0) cnD)) (cnRest cnE (.pl .sub (.lit 0) cnD))) (.node (.cmp .lss cnE (.lit 0)) (cnRest (.pl .sub (.lit 0) cnE) cnD) (cnRest cnE cnD))
theorem cn_ok : cnT.check Try.prog { pc := [], cr := cnK ++ crS, rg := cnR, ar := arN, ct := conCt cnR arN consN } 1000 13 [.int .u32 (.var 0), .int .u32 (.var 1), .int .i32 (.var 2), .int .i32 (.var 3)] = true := by kernel_rfl
theorem combineNear_walk (a b x y : Int) (ha : 0 ≤ a ∧ a ≤ 4294967295) (hb : 0 ≤ b ∧ b ≤ 4294967295) (hx : -2147483648 ≤ x ∧ x ≤ 2147483647) (hy : -2147483648 ≤ y ∧ y ≤ 2147483647) (w : World) :
    Calls Try.prog 13 #[.int .u32 a, .int .u32 b, .int .i32 x, .int .i32 y] w fun e w' => e = .returned (.bool true) ∧ Below w.heap.size w w' := by
  obtain ⟨_, p1, p2⟩ := cbW_eq (d := min a b) (by omega)
  obtain ⟨_, q1, q2⟩ := cbW_eq (d := max a b) (by omega)
  have hmono := cbW_mono (a := min a b) (b := max a b) (by omega) (by omega) (by omega)
  obtain ⟨m1, m2⟩ := cbM_at hx hy ⟨p1, p2⟩ ⟨q1, q2⟩
  have m3 := cbM_in x y (cbW (min a b)) (cbW (max a b))
  have near := cb_near (by omega) hmono m1 m2
  refine law_any (bs := []) (fs := []) (is := [a, b, x, y, cbW (min a b), cbW (max a b), cbM x y (cbW (min a b)) (cbW (max a b))]) (rg := cnR) (args := [.int .u32 (.var 0), .int .u32 (.var 1), .int .i32 (.var 2), .int .i32 (.var 3)])
    ⟨ha, hb, hx, hy, ⟨p1, p2⟩, ⟨q1, q2⟩, m3, trivial⟩ (cr := cnK) (fun c hc => ?_) cnT cn_ok (Tree.whole_live (by kernel_rfl)) ?_ w
  · simp only [cnK, List.mem_cons, List.not_mem_nil, or_false] at hc
    rcases hc with rfl | rfl | rfl | rfl
    · exact fun φ w _ => shown18 w
    · intro φ w _
      show Calls _ _ #[.int .i64 (mnI a b)] w _
      rw [mnI_min]
      exact weight_any (min a b) ⟨by omega, by omega⟩ w
    · intro φ w _
      show Calls _ _ #[.int .i64 (mxI a b)] w _
      rw [mxI_max]
      exact weight_any (max a b) ⟨by omega, by omega⟩ w
    · intro φ w _
      have r := arN_ok 8 (-9223372036854775807, 9223372036854775807) rfl
      exact clamp_any (apN 8 (apN 1 (apN 1 0 (apN 4 x (cbW (min a b)) 0) 0) (apN 4 y (cbW (max a b)) 0) 0) (apN 1 (apN 1 0 (cbW (min a b)) 0) (cbW (max a b)) 0) 0) (-1125899906842624) 1125899906842624 ⟨by have := r (apN 1 (apN 1 0 (apN 4 x (cbW (min a b)) 0) 0) (apN 4 y (cbW (max a b)) 0) 0) (apN 1 (apN 1 0 (cbW (min a b)) 0) (cbW (max a b)) 0) 0; omega, by have := r (apN 1 (apN 1 0 (apN 4 x (cbW (min a b)) 0) 0) (apN 4 y (cbW (max a b)) 0) 0) (apN 1 (apN 1 0 (cbW (min a b)) 0) (cbW (max a b)) 0) 0; omega⟩ ⟨by decide, by decide⟩ ⟨by decide, by decide⟩ w
  · generalize cbM x y (cbW (min a b)) (cbW (max a b)) = q at near m3
    generalize cbW (min a b) = u at hmono
    generalize cbW (max a b) = v at hmono
    simp only [cnT, cnRest, Tree.val, BE.den, cmpI, SV.den, IE.den, Bool.cond_decide, List.getD_cons_zero, List.getD_cons_succ, plI, mxI_max, mnI_min]
    obtain ⟨n1, n2, n3, n4⟩ := near
    repeat' split
    all_goals first
      | rfl
      | (exfalso; omega)
end Go.Proofs.Ytopgidgkpafeeaa
/- A checked evaluator: loops whose rounds have more variables than the head; rounds path by path. -/
namespace Go.Proofs.Ytopgidgkpafeeaa
open Go Go.RowKit
set_option linter.unusedVariables false
namespace Ev
/-- a loop's sum by what holds at its head; the rounds' environments may tell more than the head has variables -/
theorem rt_lpg {P : Program} (hmix : P.follows .mixedOrders = true) {L : LoopSum} {n : Nat} {f : FuncId} {p : List Nat} {u : Nat} {H : St} {T : RT} {X : Ctx} {es : List IE} {bs : List BE} (hB : lpB P X n f p u L H T es bs = true) {c : Code} (hc : codeAt P f p = .loop c) {ρ : Env} {E : List (Nat × Nat)}
    (J : Nat → List Int → List Bool → Prop) (hX : ∀ m is bs, J m is bs → Knows (ρ.on is bs) X) (hC : ∀ m is bs, J m is bs → ∀ E, KnowsC P (ρ.on is bs) E X)
    (h0 : ∃ m is bs', J m is bs' ∧ dens ρ es <+: is ∧ bdens ρ bs <+: bs') (hstep : ∀ m is bs, J m is bs → (∃ is' bs' m' js cs, T.next (ρ.on is bs) = some (is', bs') ∧ m' < m ∧ J m' js cs ∧ is' <+: js ∧ bs' <+: cs) ∨ (∃ is' bs', T.out (ρ.on is bs) = some (is', bs') ∧ ρ.has is' bs'))
    : LoopGoes P ρ E L c := by
  simp only [lpB, Bool.and_eq_true] at hB
  obtain ⟨⟨⟨⟨⟨⟨hown, hHs⟩, hLs⟩, hT⟩, hf0⟩, hv0⟩, hne⟩ := hB
  have hcp : codeAt P f (0 :: p) = c := by simp only [codeAt, hc, child]
  have pre : ∀ {is js : List Int} {bs cs : List Bool}, is <+: js → bs <+: cs → (ρ.on js cs).has is bs := by
    rintro is _ bs _ ⟨r, rfl⟩ ⟨s, rfl⟩
    exact Env.has_left (ρ.on_has (is ++ r) (bs ++ s))
  refine lp_frame hown (fun w1 φ1 a D hr1 Q hQ1 => ?_)
  have al : ∀ {t : Store}, L.bl.all (fun q => (Store.get t q.1).isSome) = true → L.bl.all (fun q => (Store.get t q.1).isSome && Nat.beq (Ev.pi [] q.1) q.1) = true := by
    intro t ht
    rw [List.all_eq_true] at ht ⊢
    intro q hq
    simp only [Bool.and_eq_true]
    exact ⟨ht q hq, by simp [Ev.pi]⟩
  obtain ⟨m0, is0, bs0, hJ0, hi0, hb0⟩ := h0
  have hh := pre hi0 hb0
  have hr2 := hr1.goes (ρ' := ρ.on is0 bs0) es bs [] hf0 (al hHs) (by simp) hv0 (fun i e he => hh.1 i _ (by simp [dens, he])) (fun i e he => hh.2 i _ (by simp [bdens, he])) rfl rfl rfl rfl
  refine wpIn_loop_ind (fun m a w => ∃ is bs, J m is bs ∧ RelF P (ρ.on is bs) (L.bl.map fun p => (p.1, φ1 p.1)) D w1 φ1 L.bl H a w) ?_ (m := m0) ⟨_, _, hJ0, hr2⟩
  rintro m a w ⟨is, bs', hJ, hr⟩
  rcases hstep m is bs' hJ with ⟨is', bs'', m', js, cs, h1, hlt, hJ', hp1, hp2⟩ | ⟨is', bs'', h1, h2⟩
  · exact rt_go hmix hcp hHs T (ρ' := ρ.on js cs) (hX m is bs' hJ) (hC m is bs' hJ _) hT hr ⟨rfl, rfl, rfl, rfl⟩ h1 (pre hp1 hp2) (fun a' w' hr' => ⟨m', hlt, js, cs, hJ', hr'⟩)
  · refine rt_stop hmix hcp hLs T (ρ' := ρ) (hX m is bs' hJ) (hC m is bs' hJ _) hT hr ⟨rfl, rfl, rfl, rfl⟩ h1 h2 (fun a' w' hr' => ?_)
    have := hQ1 a' w' hr'
    cases hex : L.ex with
    | normal => rw [hex] at hne; cases hne
    | pan v => rw [hex] at hne; cases hne
    | exit i => rw [hex] at this; exact this
    | ret => rw [hex] at this; exact this
/-- the same; what is known, and the round's tree, may be other ones where the loop is left -/
theorem rt_lpg2 {P : Program} (hmix : P.follows .mixedOrders = true) {L : LoopSum} {n : Nat} {f : FuncId} {p : List Nat} {u : Nat} {H : St} {T T2 : RT} {X X2 : Ctx} {es : List IE} {bs : List BE} (hB : lpB P X n f p u L H T es bs = true) (hB2 : lpB P X2 n f p u L H T2 es bs = true) {c : Code} (hc : codeAt P f p = .loop c) {ρ : Env} {E : List (Nat × Nat)}
    (J : Nat → List Int → List Bool → Prop) (h0 : ∃ m is bs', J m is bs' ∧ dens ρ es <+: is ∧ bdens ρ bs <+: bs')
    (hstep : ∀ m is bs, J m is bs → (Knows (ρ.on is bs) X ∧ (∀ E, KnowsC P (ρ.on is bs) E X) ∧ ∃ is' bs' m' js cs, T.next (ρ.on is bs) = some (is', bs') ∧ m' < m ∧ J m' js cs ∧ is' <+: js ∧ bs' <+: cs) ∨ (Knows (ρ.on is bs) X2 ∧ (∀ E, KnowsC P (ρ.on is bs) E X2) ∧ ∃ is' bs', T2.out (ρ.on is bs) = some (is', bs') ∧ ρ.has is' bs'))
    : LoopGoes P ρ E L c := by
  simp only [lpB, Bool.and_eq_true] at hB hB2
  obtain ⟨⟨⟨⟨⟨⟨_, _⟩, _⟩, hT2⟩, _⟩, _⟩, _⟩ := hB2
  obtain ⟨⟨⟨⟨⟨⟨hown, hHs⟩, hLs⟩, hT⟩, hf0⟩, hv0⟩, hne⟩ := hB
  have hcp : codeAt P f (0 :: p) = c := by simp only [codeAt, hc, child]
  have pre : ∀ {is js : List Int} {bs cs : List Bool}, is <+: js → bs <+: cs → (ρ.on js cs).has is bs := by
    rintro is _ bs _ ⟨r, rfl⟩ ⟨s, rfl⟩
    exact Env.has_left (ρ.on_has (is ++ r) (bs ++ s))
  refine lp_frame hown (fun w1 φ1 a D hr1 Q hQ1 => ?_)
  have al : ∀ {t : Store}, L.bl.all (fun q => (Store.get t q.1).isSome) = true → L.bl.all (fun q => (Store.get t q.1).isSome && Nat.beq (Ev.pi [] q.1) q.1) = true := by
    intro t ht
    rw [List.all_eq_true] at ht ⊢
    intro q hq
    simp only [Bool.and_eq_true]
    exact ⟨ht q hq, by simp [Ev.pi]⟩
  obtain ⟨m0, is0, bs0, hJ0, hi0, hb0⟩ := h0
  have hh := pre hi0 hb0
  have hr2 := hr1.goes (ρ' := ρ.on is0 bs0) es bs [] hf0 (al hHs) (by simp) hv0 (fun i e he => hh.1 i _ (by simp [dens, he])) (fun i e he => hh.2 i _ (by simp [bdens, he])) rfl rfl rfl rfl
  refine wpIn_loop_ind (fun m a w => ∃ is bs, J m is bs ∧ RelF P (ρ.on is bs) (L.bl.map fun p => (p.1, φ1 p.1)) D w1 φ1 L.bl H a w) ?_ (m := m0) ⟨_, _, hJ0, hr2⟩
  rintro m a w ⟨is, bs', hJ, hr⟩
  rcases hstep m is bs' hJ with ⟨hX, hC, is', bs'', m', js, cs, h1, hlt, hJ', hp1, hp2⟩ | ⟨hX, hC, is', bs'', h1, h2⟩
  · exact rt_go hmix hcp hHs T (ρ' := ρ.on js cs) hX (hC _) hT hr ⟨rfl, rfl, rfl, rfl⟩ h1 (pre hp1 hp2) (fun a' w' hr' => ⟨m', hlt, js, cs, hJ', hr'⟩)
  · refine rt_stop hmix hcp hLs T2 (ρ' := ρ) hX (hC _) hT2 hr ⟨rfl, rfl, rfl, rfl⟩ h1 h2 (fun a' w' hr' => ?_)
    have := hQ1 a' w' hr'
    cases hex : L.ex with
    | normal => rw [hex] at hne; cases hne
    | pan v => rw [hex] at hne; cases hne
    | exit i => rw [hex] at this; exact this
    | ret => rw [hex] at this; exact this
/-- each path of the round is what the evaluator comes to (one theorem a path, if it is a great one) -/
def RT.Ok (P : Program) (X : Ctx) (n : Nat) (f : FuncId) (p : List Nat) (u : Nat) (H : St) (ex : Ex) (O : St) : RT → Prop
  | .dead => True
  | .go es bs => RT.check P X n f p u H ex O (.go es bs) = true
  | .stop es bs => RT.check P X n f p u H ex O (.stop es bs) = true
  | .node b t e => t.Ok P { X with pc := (b, true) :: X.pc } n f p u H ex O ∧ e.Ok P { X with pc := (b, false) :: X.pc } n f p u H ex O
theorem RT.check_ok {P : Program} {n : Nat} {f : FuncId} {p : List Nat} {u : Nat} {H : St} {ex : Ex} {O : St} : ∀ {T : RT} {X : Ctx}, T.Ok P X n f p u H ex O → T.check P X n f p u H ex O = true
  | .dead, X, _ => rfl
  | .go es bs, X, h => h
  | .stop es bs, X, h => h
  | .node b t e, X, h => by
    simp only [RT.check, Bool.and_eq_true]
    exact ⟨RT.check_ok h.1, RT.check_ok h.2⟩
/-- all of a loop's sum but its rounds -/
def lpB0 (L : LoopSum) (H : St) (es : List IE) (bs : List BE) : Bool :=
  L.own && (L.bl.all (fun q => (Store.get H.st q.1).isSome)) && (L.bl.all (fun q => (Store.get L.bl' q.1).isSome)) && fitsB es bs [] ⟨L.tm, L.bl⟩ H && H.vb es.length bs.length && (match L.ex with | .normal => false | .pan _ => false | _ => true)
theorem lpB_of {P : Program} {X : Ctx} {n : Nat} {f : FuncId} {p : List Nat} {u : Nat} {L : LoopSum} {H : St} {T : RT} {es : List IE} {bs : List BE} (h0 : lpB0 L H es bs = true) (hT : T.Ok P X n f (0 :: p) u H L.ex ⟨L.tm', L.bl'⟩) : lpB P X n f p u L H T es bs = true := by
  simp only [lpB0, Bool.and_eq_true] at h0
  obtain ⟨⟨⟨⟨⟨h1, h2⟩, h3⟩, h4⟩, h5⟩, h6⟩ := h0
  simp only [lpB, Bool.and_eq_true]
  exact ⟨⟨⟨⟨⟨⟨h1, h2⟩, h3⟩, RT.check_ok hT⟩, h4⟩, h5⟩, h6⟩
end Ev
end Go.Proofs.Ytopgidgkpafeeaa
/- Law 18: the mean of any offsets: its loop. -/
namespace Go.Proofs.Ytopgidgkpafeeaa
open Go Go.RowKit Ev
set_option linter.unusedVariables false
set_option linter.unusedSimpArgs false
set_option maxRecDepth 100000
set_option maxHeartbeats 0
def mnL : LoopSum := ⟨[(.yld 1099517919239), (.ptr 1099516870657 0), (.ptr 1099516870658 0), (.raw (.tuple #[])), (.raw (.tuple #[])), (.xs 0), (.int .i64 (.var 0)), (.xs 1), (.int .i64 (.var 1)), (.int .i64 (.mn (.var 0) (.var 1))), (.int .i64 (.lit 0)), (.raw (.tuple #[])), (.raw (.tuple #[])), (.raw (.tuple #[])), (.raw (.tuple #[])), (.raw (.tuple #[])), (.raw (.tuple #[])), (.raw (.tuple #[])), (.raw (.tuple #[])), (.raw (.tuple #[])), (.raw (.tuple #[])), (.raw (.tuple #[])), (.raw (.tuple #[])), (.raw (.tuple #[])), (.raw (.tuple #[])), (.raw (.tuple #[]))], [(1099517919239, ⟨0, [(.mark 1 73 [0, 1, 0, 1, 1] 1099517919238), (.mark 10 0 [] 1099517919238), (.func (.func 99) [] [(.ptr 1099516870657 0), (.ptr 1099516870658 0)]), (.func (.func 56) [] []), (.raw (.tuple #[])), (.ptr 1099517919233 0), (.int .i64 (.lit 0)), (.ptr 1099517919235 0), (.ptr 1099517919236 0), (.raw (.tuple #[])), (.raw (.tuple #[])), (.func (.func 99) [] [(.ptr 1099516870657 0), (.ptr 1099516870658 0)]), (.raw (.tuple #[])), (.raw (.tuple #[])), (.raw (.tuple #[])), (.raw (.tuple #[])), (.raw (.tuple #[])), (.raw (.tuple #[])), (.raw (.tuple #[])), (.raw (.tuple #[])), (.raw (.tuple #[])), (.raw (.tuple #[])), (.raw (.tuple #[])), (.raw (.tuple #[])), (.raw (.tuple #[])), (.raw (.tuple #[]))]⟩), (1099517919238, ⟨0, [(.mark 5 0 [] 1099517919238)]⟩), (1099517919236, ⟨2, [(.int .i64 (.lit 0))]⟩), (1099517919235, ⟨2, [(.int .i64 (.lit 0))]⟩), (1099517919233, ⟨95, [(.func (.func 56) [] [])]⟩), (1099516870658, ⟨71, [(.xs 1)]⟩), (1099516870657, ⟨71, [(.xs 0)]⟩)],
  (.exit 0), [(.yld 1099517919239), (.ptr 1099516870657 0), (.ptr 1099516870658 0), (.raw (.tuple #[])), .any, (.xs 0), (.int .i64 (.var 0)), (.xs 1), (.int .i64 (.var 1)), (.int .i64 (.mn (.var 0) (.var 1))), .any, .any, .any, .any, .any, .any, .any, .any, .any, .any, .any, .any, .any, .any, .any, .any], [(1099517919239, ⟨0, [(.mark 1 73 [0, 1, 0, 1, 1] 1099517919238), (.mark 10 0 [] 1099517919238), (.func (.func 99) [] [(.ptr 1099516870657 0), (.ptr 1099516870658 0)]), (.func (.func 56) [] []), (.raw (.tuple #[])), (.ptr 1099517919233 0), (.int .i64 (.lit 0)), (.ptr 1099517919235 0), (.ptr 1099517919236 0), (.raw (.tuple #[])), (.raw (.tuple #[])), (.func (.func 99) [] [(.ptr 1099516870657 0), (.ptr 1099516870658 0)]), (.raw (.tuple #[])), (.raw (.tuple #[])), (.raw (.tuple #[])), (.raw (.tuple #[])), (.raw (.tuple #[])), (.raw (.tuple #[])), (.raw (.tuple #[])), (.raw (.tuple #[])), (.raw (.tuple #[])), (.raw (.tuple #[])), (.raw (.tuple #[])), (.raw (.tuple #[])), (.raw (.tuple #[])), (.raw (.tuple #[]))]⟩), (1099517919238, ⟨0, [(.mark 5 0 [] 1099517919238)]⟩), (1099517919236, ⟨2, [(.int .i64 (.var 4))]⟩), (1099517919235, ⟨2, [(.int .i64 (.var 5))]⟩), (1099517919233, ⟨95, [(.func (.func 56) [] [])]⟩), (1099516870658, ⟨71, [(.xs 1)]⟩), (1099516870657, ⟨71, [(.xs 0)]⟩)]⟩
def mnH : St := ⟨Tm.ofL [(.yld 1099517919239), (.ptr 1099516870657 0), (.ptr 1099516870658 0), (.raw (.tuple #[])), .any, (.xs 0), (.int .i64 (.var 0)), (.xs 1), (.int .i64 (.var 1)), (.int .i64 (.mn (.var 0) (.var 1))), (.int .i64 (.var 8)), .any, .any, .any, .any, .any, .any, .any, .any, .any, .any, .any, .any, .any, .any, .any], [(1099517919239, ⟨0, [(.mark 1 73 [0, 1, 0, 1, 1] 1099517919238), (.mark 10 0 [] 1099517919238), (.func (.func 99) [] [(.ptr 1099516870657 0), (.ptr 1099516870658 0)]), (.func (.func 56) [] []), (.raw (.tuple #[])), (.ptr 1099517919233 0), (.int .i64 (.lit 0)), (.ptr 1099517919235 0), (.ptr 1099517919236 0), (.raw (.tuple #[])), (.raw (.tuple #[])), (.func (.func 99) [] [(.ptr 1099516870657 0), (.ptr 1099516870658 0)]), (.raw (.tuple #[])), (.raw (.tuple #[])), (.raw (.tuple #[])), (.raw (.tuple #[])), (.raw (.tuple #[])), (.raw (.tuple #[])), (.raw (.tuple #[])), (.raw (.tuple #[])), (.raw (.tuple #[])), (.raw (.tuple #[])), (.raw (.tuple #[])), (.raw (.tuple #[])), (.raw (.tuple #[])), (.raw (.tuple #[]))]⟩), (1099517919238, ⟨0, [(.mark 5 0 [] 1099517919238)]⟩), (1099517919236, ⟨2, [(.int .i64 (.var 6))]⟩), (1099517919235, ⟨2, [(.int .i64 (.var 7))]⟩), (1099517919233, ⟨95, [(.func (.func 56) [] [])]⟩), (1099516870658, ⟨71, [(.xs 1)]⟩), (1099516870657, ⟨71, [(.xs 0)]⟩)]⟩
def mnE : List IE := [(.var 0), (.var 1), (.var 2), (.var 3), (.var 4), (.var 5), (.lit 0), (.lit 0), (.lit 0)]
def mnB : List BE := []
def mnT : RT :=
(.node (.cmp .lss (.var 8) (.mn (.var 0) (.var 1)))
 (.node (.cmp .lss (.var 8) (.var 0))
 (.node (.cmp .lss (.var 8) (.var 1))
 (.go [(.var 0), (.var 1), (.var 2), (.var 3), (.var 4), (.var 5), (.ap 1 (.var 6) (.mx (.ap 8 (.lit 4294967296) (.mx (.ap 21 (.var 8) (.lit 0) (.lit 0)) (.lit 21474836)) (.lit 0)) (.lit 1)) (.lit 0)), (.ap 1 (.var 7) (.ap 4 (.ap 20 (.var 8) (.lit 0) (.lit 0)) (.mx (.ap 8 (.lit 4294967296) (.mx (.ap 21 (.var 8) (.lit 0) (.lit 0)) (.lit 21474836)) (.lit 0)) (.lit 1)) (.lit 0)) (.lit 0)), (.pl .add (.var 8) (.lit 1))] [])
 .dead)
 .dead)
 (.stop [(.var 0), (.var 1), (.var 2), (.var 3), (.var 6), (.var 7)] []))
abbrev i64J : Int × Int := (-9223372036854775808, 9223372036854775807)
abbrev mXs : List XD := [⟨0, 20, [.int .i64]⟩, ⟨1, 21, [.int .i64]⟩]
noncomputable abbrev mAr : List (Int × Int) := arN ++ [i64J, i64J]
abbrev mRl : List (Int × Int) := [(0, 60), (0, 60), i64J, i64J, satR, satR]
abbrev mRg : List (Int × Int) := [(0, 60), (0, 60), i64J, i64J, satR, satR, satR, satR, (0, 60)]
noncomputable def mnX : Ctx := { pc := [], cr := crS, rg := mRg, ar := mAr, ct := conCt mRg mAr consN, xs := mXs }
abbrev mnP : List Nat := [0, 1]
theorem mn_B : lpB Try.prog mnX 2000 99 mnP 3 mnL mnH mnT mnE mnB = true := by kernel_rfl
/-! two slices of the caller's -/
theorem xok_off {ks : List EK} {W : World} {v : Value} {B : Ext} {rows : List (Int → Int)} (h : XAny ks W v B rows) {ρ : Env} {all : List (Int → Int)} (ha : ρ.a = apR all) {o : Nat} (ho : ∀ c, c < ks.length → all.getD (o + c) (fun _ => 0) = rows.getD c (fun _ => 0)) {n : Nat} (hn : ρ.i n = B.len) : XOk ρ ⟨n, 20 + o, ks⟩ (some B) := by
  refine ⟨hn, h.sz, h.emp, fun i c k hi hk => ?_⟩
  rw [h.cells i c k hi hk]
  have hc := (List.getElem?_eq_some_iff.1 hk).1
  have e := ho c hc
  cases k <;> simp only [ekV, cellV, ha, apR, if_neg (show ¬ 20 + o + c < 20 by omega), show 20 + o + c - 20 = o + c by omega, e]
theorem xs_two {ρ : Env} {d e : XD} {o p : Option Ext} (h : XOk ρ d o) (k : XOk ρ e p) (hx : ρ.x 0 = o) (hy : ρ.x 1 = p) : ∀ (j : Nat) d', [d, e][j]? = some d' → XOk ρ d' (ρ.x j)
  | 0, d', hj => by cases hj; rw [hx]; exact h
  | 1, d', hj => by cases hj; rw [hy]; exact k
  | j + 2, d', hj => by simp at hj
theorem ext_two {ks ls : List EK} {W : World} {v u : Value} {B C : Ext} {rows cols : List (Int → Int)} (h : XAny ks W v B rows) (k : XAny ls W u C cols) {ρ : Env} (hx : ρ.x = fun n => [some B, some C].getD n none) : ExtIn ρ W := by
  intro j B' hB
  unfold Env.y at hB
  rw [hx] at hB
  match j with
  | 0 =>
    simp only [List.getD_cons_zero] at hB
    cases hem : B.em with
    | none => rw [hem] at hB; cases hB; exact h.heap hem
    | some q => rw [hem] at hB; cases hB
  | 1 =>
    simp only [List.getD_cons_succ, List.getD_cons_zero] at hB
    cases hem : C.em with
    | none => rw [hem] at hB; cases hB; exact k.heap hem
    | some q => rw [hem] at hB; cases hB
  | j + 2 => simp at hB
theorem getD_left {α : Type} {a b : List α} {d : α} {c : Nat} (h : c < a.length) : (a ++ b).getD (0 + c) d = a.getD c d := by
  rw [Nat.zero_add, List.getD_eq_getElem?_getD, List.getElem?_append_left h, List.getD_eq_getElem?_getD]
theorem getD_right {α : Type} {a b : List α} {d : α} {o c : Nat} (h : a.length = o) : (a ++ b).getD (o + c) d = b.getD c d := by
  rw [List.getD_eq_getElem?_getD, List.getElem?_append_right (by omega), List.getD_eq_getElem?_getD]
  congr 2; omega
/-- the i-th offset, the i-th weight; the sums -/
def mOf (all : List (Int → Int)) (c : Nat) (i : Nat) : Int := (all.getD c (fun _ => 0)) (i : Int)
noncomputable def mWt (d : Int) : Int := mxI (apN 8 4294967296 (mxI d 21474836) 0) 1
noncomputable def mW (all : List (Int → Int)) : Nat → Int
  | 0 => 0
  | i + 1 => sat (mW all i + mWt (mOf all 1 i))
noncomputable def mS (all : List (Int → Int)) : Nat → Int
  | 0 => 0
  | i + 1 => sat (mS all i + sat (mOf all 0 i * mWt (mOf all 1 i) / 4294967296))
theorem sat_zero : (-9223372036854775807 : Int) ≤ 0 ∧ (0 : Int) ≤ 9223372036854775807 := by decide
theorem mW_in {all : List (Int → Int)} : ∀ i, -9223372036854775807 ≤ mW all i ∧ mW all i ≤ 9223372036854775807
  | 0 => sat_zero
  | i + 1 => sat_in _
theorem mS_in {all : List (Int → Int)} : ∀ i, -9223372036854775807 ≤ mS all i ∧ mS all i ≤ 9223372036854775807
  | 0 => sat_zero
  | i + 1 => sat_in _
section
variable {W : World} {v v1 : Value} {B C : Ext} {rows cols : List (Int → Int)}
theorem mRow_in (hB : XAny [.int .i64] W v B rows) (hC : XAny [.int .i64] W v1 C cols) : ∀ (i : Nat) v, ([i64J, i64J] : List (Int × Int))[i]? = some v → ∀ a, v.1 ≤ ((rows ++ cols).getD i (fun _ => 0)) a ∧ ((rows ++ cols).getD i (fun _ => 0)) a ≤ v.2 := by
  intro i v hv a
  match i with
  | 0 =>
    have e := getD_left (a := rows) (b := cols) (d := fun _ => 0) (c := 0) (by rw [hB.len]; decide)
    rw [Nat.zero_add] at e
    rw [e]
    cases hv
    exact hB.rg 0 _ rfl a
  | 1 =>
    have e := getD_right (a := rows) (b := cols) (d := fun _ => 0) (o := 1) (c := 0) hB.len
    rw [Nat.add_zero] at e
    rw [e]
    cases hv
    exact hC.rg 0 _ rfl a
  | i + 2 => simp at hv
theorem mArIn (hB : XAny [.int .i64] W v B rows) (hC : XAny [.int .i64] W v1 C cols) {ρ : Env} (ha : ρ.a = apR (rows ++ cols)) : ArIn ρ mAr := arIn_R ha (mRow_in hB hC)
theorem mXok (hB : XAny [.int .i64] W v B rows) (hC : XAny [.int .i64] W v1 C cols) {ρ : Env} (ha : ρ.a = apR (rows ++ cols)) (hx : ρ.x = fun n => [some B, some C].getD n none) (h0 : ρ.i 0 = B.len) (h1 : ρ.i 1 = C.len) : ∀ (j : Nat) d, mXs[j]? = some d → XOk ρ d (ρ.x j) :=
  xs_two (xok_off hB ha (o := 0) (fun c hc => getD_left (by rw [hB.len]; exact hc)) h0) (xok_off hC ha (o := 1) (fun c hc => getD_right hB.len) h1) (by rw [hx]; rfl) (by rw [hx]; rfl)
/-- the mean's numbers -/
noncomputable def mnEv (B C : Ext) (all : List (Int → Int)) (lo hi : Int) : Env := envOf [(B.len : Int), (C.len : Int), lo, hi, mW all (min B.len C.len), mS all (min B.len C.len)] (ap := apR all) (xs := [some B, some C])
theorem mn_in (hB : XAny [.int .i64] W v B rows) (hC : XAny [.int .i64] W v1 C cols) (hl : B.len ≤ 60) (hg : C.len ≤ 60) {lo hi : Int} (h1 : InI lo) (h2 : InI hi) : AllIn (mnEv B C (rows ++ cols) lo hi).i mRl 0 := by
  refine ⟨?_, ?_, h1, h2, mW_in _, mS_in _, trivial⟩
  · show (0 : Int) ≤ (B.len : Nat) ∧ ((B.len : Nat) : Int) ≤ 60
    omega
  · show (0 : Int) ≤ (C.len : Nat) ∧ ((C.len : Nat) : Int) ≤ 60
    omega
theorem apR_of {all : List (Int → Int)} {c : Nat} {i : Nat} : apR all (20 + c) (i : Int) 0 0 = mOf all c i := by
  unfold apR mOf
  rw [if_neg (by omega), Nat.add_sub_cancel_left]
theorem mn_loop (hB : XAny [.int .i64] W v B rows) (hC : XAny [.int .i64] W v1 C cols) (hl : B.len ≤ 60) (hg : C.len ≤ 60) {lo hi : Int} (h1 : InI lo) (h2 : InI hi) {c : Code} (hc : codeAt Try.prog 99 mnP = .loop c) (E : List (Nat × Nat)) : LoopGoes Try.prog (mnEv B C (rows ++ cols) lo hi) E mnL c := by
  have hin := mn_in hB hC hl hg h1 h2
  refine rt_lpg mixed mn_B hc (ρ := mnEv B C (rows ++ cols) lo hi) (fun n is bs => ∃ i : Nat, n + i = min B.len C.len ∧ is = [(B.len : Int), (C.len : Int), lo, hi, mW (rows ++ cols) (min B.len C.len), mS (rows ++ cols) (min B.len C.len), mW (rows ++ cols) i, mS (rows ++ cols) i, (i : Int)] ∧ bs = []) ?_ ?_ ?_ ?_
  · rintro n is bs ⟨i, hi0, rfl, rfl⟩
    refine knows_env rfl ?_ (mArIn hB hC rfl) (mXok hB hC rfl rfl rfl rfl)
    exact ⟨hin.1, hin.2.1, h1, h2, mW_in _, mS_in _, mW_in _, mS_in _, ⟨by show (0 : Int) ≤ (i : Nat); omega, by show ((i : Nat) : Int) ≤ 60; omega⟩, trivial⟩
  · rintro n is bs ⟨i, hi0, rfl, rfl⟩ E
    have hAll : AllIn ((mnEv B C (rows ++ cols) lo hi).on [(B.len : Int), (C.len : Int), lo, hi, mW (rows ++ cols) (min B.len C.len), mS (rows ++ cols) (min B.len C.len), mW (rows ++ cols) i, mS (rows ++ cols) i, (i : Int)] []).i mRg 0 := ⟨hin.1, hin.2.1, h1, h2, mW_in _, mS_in _, mW_in _, mS_in _, ⟨by show (0 : Int) ≤ (i : Nat); omega, by show ((i : Nat) : Int) ≤ 60; omega⟩, trivial⟩
    exact ⟨fun q hq φ w hx => crS_ok q hq φ w hx, fun pc hpc f vs v h _ φ w _ => conCt_ok hAll.get0 (mArIn hB hC rfl) (consN_ok (numA_R rfl)) hpc h φ w, fun f p u L h => (by cases h)⟩
  · exact ⟨min B.len C.len, _, _, ⟨0, rfl, rfl, rfl⟩, List.prefix_rfl, List.prefix_rfl⟩
  · rintro n is bs ⟨i, hi0, rfl, rfl⟩
    generalize hρ : (mnEv B C (rows ++ cols) lo hi).on [(B.len : Int), (C.len : Int), lo, hi, mW (rows ++ cols) (min B.len C.len), mS (rows ++ cols) (min B.len C.len), mW (rows ++ cols) i, mS (rows ++ cols) i, (i : Int)] [] = ρ'
    have g : ∀ k x, ([(B.len : Int), (C.len : Int), lo, hi, mW (rows ++ cols) (min B.len C.len), mS (rows ++ cols) (min B.len C.len), mW (rows ++ cols) i, mS (rows ++ cols) i, (i : Int)] : List Int)[k]? = some x → ρ'.i k = x := fun k x h => by
      rw [← hρ]
      show List.getD _ _ _ = _
      rw [List.getD_eq_getElem?_getD, h]; rfl
    have ha : ρ'.a = apR (rows ++ cols) := by rw [← hρ]; rfl
    have hmn : mnI (B.len : Int) (C.len : Int) = ((min B.len C.len : Nat) : Int) := by unfold mnI; split <;> omega
    by_cases hlt : i < min B.len C.len
    · left
      refine ⟨_, _, n - 1, _, _, ?_, by omega, ⟨i + 1, by omega, rfl, rfl⟩, List.prefix_rfl, List.prefix_rfl⟩
      have e : mnT.next ρ' = cond (decide (ρ'.i 8 < mnI (ρ'.i 0) (ρ'.i 1))) (cond (decide (ρ'.i 8 < ρ'.i 0)) (cond (decide (ρ'.i 8 < ρ'.i 1)) (some ([ρ'.i 0, ρ'.i 1, ρ'.i 2, ρ'.i 3, ρ'.i 4, ρ'.i 5, ρ'.a 1 (ρ'.i 6) (mxI (ρ'.a 8 4294967296 (mxI (ρ'.a 21 (ρ'.i 8) 0 0) 21474836) 0) 1) 0, ρ'.a 1 (ρ'.i 7) (ρ'.a 4 (ρ'.a 20 (ρ'.i 8) 0 0) (mxI (ρ'.a 8 4294967296 (mxI (ρ'.a 21 (ρ'.i 8) 0 0) 21474836) 0) 1) 0) 0, ρ'.i 8 + 1], [])) none) none) none := rfl
      rw [e, ha, g 0 _ rfl, g 1 _ rfl, g 2 _ rfl, g 3 _ rfl, g 4 _ rfl, g 5 _ rfl, g 6 _ rfl, g 7 _ rfl, g 8 _ rfl, show apR (rows ++ cols) 21 (i : Int) 0 0 = _ from apR_of (c := 1), show apR (rows ++ cols) 20 (i : Int) 0 0 = _ from apR_of (c := 0), hmn, decide_eq_true (by omega), decide_eq_true (by omega), decide_eq_true (by omega)]
      rfl
    · right
      have hii : i = min B.len C.len := by omega
      have e : mnT.out ρ' = cond (decide (ρ'.i 8 < mnI (ρ'.i 0) (ρ'.i 1))) (cond (decide (ρ'.i 8 < ρ'.i 0)) (cond (decide (ρ'.i 8 < ρ'.i 1)) none none) none) (some ([ρ'.i 0, ρ'.i 1, ρ'.i 2, ρ'.i 3, ρ'.i 6, ρ'.i 7], [])) := rfl
      rw [e, g 0 _ rfl, g 1 _ rfl, g 2 _ rfl, g 3 _ rfl, g 6 _ rfl, g 7 _ rfl, g 8 _ rfl, hmn, decide_eq_false (by omega)]
      refine ⟨_, _, rfl, ?_⟩
      rw [hii]
      exact envOf_has_pre List.prefix_rfl List.prefix_rfl
def mnLp (f : FuncId) (p : List Nat) (_ : Nat) : Option LoopSum := if Nat.beq f 99 && decide (p = mnP) then some mnL else none
/-- the mean of any offsets, weighed -/
theorem mean_known (hB : XAny [.int .i64] W v B rows) (hC : XAny [.int .i64] W v1 C cols) (hl : B.len ≤ 60) (hg : C.len ≤ 60) {ρ : Env} (hx : ρ.x = fun n => [some B, some C].getD n none) {lo hi r : IE} (h1 : InI (lo.den ρ)) (h2 : InI (hi.den ρ)) (hr : r.den ρ = apN 10 (apN 8 (mS (rows ++ cols) (min B.len C.len)) (mW (rows ++ cols) (min B.len C.len)) 0) (lo.den ρ) (hi.den ρ)) : Known Try.prog ρ (38, [.xs 0, .xs 1, .agg [.int .i64 lo, .int .i64 hi]], .int .i64 r) := by
  intro φ w hw
  have hin := mn_in hB hC hl hg h1 h2
  have h := tree_soundX (P := Try.prog) mixed (ρ := mnEv B C (rows ++ cols) (lo.den ρ) (hi.den ρ)) (n := 2000) (f := 38) (args := [.xs 0, .xs 1, .agg [.int .i64 (.var 2), .int .i64 (.var 3)]]) (.leaf (.int .i64 (.ap 10 (.ap 8 (.var 5) (.var 4) (.lit 0)) (.var 2) (.var 3)))) (X := { pc := [], cr := crS, rg := mRl, ar := mAr, ct := conCt mRl mAr consN, xs := mXs, lp := mnLp }) (knows_env rfl hin (mArIn hB hC rfl) (mXok hB hC rfl rfl rfl rfl))
    ⟨fun q hq φ w hx => crS_ok q hq φ w hx, fun pc hpc f vs v h _ φ w _ => conCt_ok hin.get0 (mArIn hB hC rfl) (consN_ok (numA_R rfl)) hpc h φ w, fun f p u L h c hc _ => (by
      replace h : mnLp f p u = some L := h
      unfold mnLp at h
      split at h
      · rename_i hcc
        simp only [Bool.and_eq_true, Nat.beq_eq, decide_eq_true_eq] at hcc
        obtain ⟨rfl, rfl⟩ := hcc
        cases h
        exact mn_loop hB hC hl hg h1 h2 hc []
      · cases h)⟩ (Tree.ok_of_check (by kernel_rfl)) rfl w (fun j B' hB' => hw j B' (by rw [← Env.y_congr (ρ := mnEv B C (rows ++ cols) (lo.den ρ) (hi.den ρ)) (ρ' := ρ) hx] at hB'; exact hB'))
  have e1 : (SV.denL ρ φ [.xs 0, .xs 1, .agg [.int .i64 lo, .int .i64 hi]]).toArray = (SV.denL (mnEv B C (rows ++ cols) (lo.den ρ) (hi.den ρ)) id [.xs 0, .xs 1, .agg [.int .i64 (.var 2), .int .i64 (.var 3)]]).toArray := by
    simp only [SV.denL, SV.den, hx]
    rfl
  show Calls _ _ (SV.denL ρ φ [.xs 0, .xs 1, .agg [.int .i64 lo, .int .i64 hi]]).toArray w _
  rw [e1]
  refine h.mono ?_
  rintro e'' w' ⟨rfl, hb⟩
  refine ⟨congrArg Ending.returned ?_, hb⟩
  show Value.int .i64 _ = Value.int .i64 (r.den ρ)
  rw [hr]
  rfl
end
end Go.Proofs.Ytopgidgkpafeeaa
/- The document's numbers: Plus, Mul, Shift by their contracts; laws with them. -/
namespace Go.Proofs.Ytopgidgkpafeeaa
open Go Go.RowKit Ev
set_option linter.unusedVariables false
set_option linter.unusedSimpArgs false
set_option maxRecDepth 100000

abbrev U02 : SV := .raw (.tuple #[])
abbrev u64Q : Int × Int := (0, 18446744073709551615)
def rpHi (ah al bh bl : Int) : Int := (ah + bh + (al + bl) / 18446744073709551616) % 18446744073709551616
def rpLo (al bl : Int) : Int := (al + bl) % 18446744073709551616
def rpC (ah al bh bl : Int) : Bool := decide (18446744073709551616 ≤ ah + bh + (al + bl) / 18446744073709551616)
theorem rpHi_in (ah al bh bl : Int) : 0 ≤ rpHi ah al bh bl ∧ rpHi ah al bh bl ≤ 18446744073709551615 := by unfold rpHi; omega
theorem rpLo_in (al bl : Int) : 0 ≤ rpLo al bl ∧ rpLo al bl ≤ 18446744073709551615 := by unfold rpLo; omega
def rpT : Tree :=
(.node (.cmp .lss (.ar .add .u64 (.var 1) (.var 3)) (.var 1))
 (.node (.cmp .lss (.ar .add .u64 (.var 0) (.var 2)) (.var 0))
 (.leaf (.tuple [(.int .u64 (.ar .add .u64 (.ar .add .u64 (.var 0) (.var 2)) (.lit 1))), (.int .u64 (.ar .add .u64 (.var 1) (.var 3))), (.bool (.lit true))]))
 (.leaf (.tuple [(.int .u64 (.ar .add .u64 (.ar .add .u64 (.var 0) (.var 2)) (.lit 1))), (.int .u64 (.ar .add .u64 (.var 1) (.var 3))), (.bool (.cmp .lss (.ar .add .u64 (.ar .add .u64 (.var 0) (.var 2)) (.lit 1)) (.ar .add .u64 (.var 0) (.var 2))))])))
 (.node (.cmp .lss (.ar .add .u64 (.var 0) (.var 2)) (.var 0))
 (.leaf (.tuple [(.int .u64 (.pl .add (.ar .add .u64 (.var 0) (.var 2)) (.lit 0))), (.int .u64 (.ar .add .u64 (.var 1) (.var 3))), (.bool (.lit true))]))
 (.leaf (.tuple [(.int .u64 (.pl .add (.ar .add .u64 (.var 0) (.var 2)) (.lit 0))), (.int .u64 (.ar .add .u64 (.var 1) (.var 3))), (.bool (.cmp .lss (.pl .add (.ar .add .u64 (.var 0) (.var 2)) (.lit 0)) (.ar .add .u64 (.var 0) (.var 2))))]))))
theorem tup3 {x y x' y' : Int} {b b' : Bool} (h1 : x = x') (h2 : y = y') (h3 : b = b') : Value.tuple #[.int .u64 x, .int .u64 y, .bool b] = Value.tuple #[.int .u64 x', .int .u64 y', .bool b'] := by rw [h1, h2, h3]
theorem rplus_any (ah al bh bl : Int) (h0 : 0 ≤ ah ∧ ah ≤ 18446744073709551615) (h1 : 0 ≤ al ∧ al ≤ 18446744073709551615) (h2 : 0 ≤ bh ∧ bh ≤ 18446744073709551615) (h3 : 0 ≤ bl ∧ bl ≤ 18446744073709551615) (w : World) :
    Calls Try.prog 109 #[.int .u64 ah, .int .u64 al, .int .u64 bh, .int .u64 bl] w fun e w' => e = .returned (.tuple #[.int .u64 (rpHi ah al bh bl), .int .u64 (rpLo al bl), .bool (rpC ah al bh bl)]) ∧ Below w.heap.size w w' :=
  law_any (bs := []) (fs := []) (is := [ah, al, bh, bl]) (rg := [u64Q, u64Q, u64Q, u64Q]) (args := [.int .u64 (.var 0), .int .u64 (.var 1), .int .u64 (.var 2), .int .u64 (.var 3)]) ⟨h0, h1, h2, h3, trivial⟩ (cr := []) (fun c hc => by cases hc) rpT (n := 400) (by kernel_rfl) (Tree.whole_live (by kernel_rfl)) (by
    simp only [rpT, Tree.val, BE.den, cmpI, SV.den, SV.denL, IE.den, Bool.cond_decide, List.getD_cons_zero, List.getD_cons_succ, addW, plI]
    unfold rpHi rpLo rpC
    split
    · split
      · exact tup3 (by omega) rfl (decide_eq_true (by omega)).symm
      · exact tup3 (by omega) rfl (decide_eq_decide.2 (by omega))
    · split
      · exact tup3 (by omega) rfl (decide_eq_true (by omega)).symm
      · exact tup3 (by omega) rfl (decide_eq_decide.2 (by omega))) w

/-! Mul by adding what is shifted -/
def rmL : LoopSum := ⟨[(.int .u64 (.var 0)), (.int .u64 (.var 1)), U02, U02, (.int .u64 (.lit 0)), (.int .u64 (.lit 0)), (.int .u64 (.lit 0)), (.int .u64 (.lit 0)), (.int .i64 (.lit 63)), U02, U02, U02, U02, U02, U02, U02, U02, U02, U02, U02, U02, U02, U02, U02, U02, U02, U02, U02, U02, U02, U02, U02, U02, U02, U02, U02], [],
  (.exit 0), [(.int .u64 (.var 0)), (.int .u64 (.var 1)), U02, U02, (.int .u64 (.lit 0)), (.int .u64 (.lit 0)), (.int .u64 (.var 2)), (.int .u64 (.var 3)), .any, .any, .any, .any, .any, .any, .any, .any, .any, .any, .any, .any, .any, .any, .any, .any, .any, .any, .any, .any, .any, .any, .any, .any, .any, .any, U02, U02], []⟩
def rmH : St := ⟨Tm.ofL [(.int .u64 (.var 0)), (.int .u64 (.var 1)), U02, U02, (.int .u64 (.lit 0)), (.int .u64 (.lit 0)), (.int .u64 (.var 4)), (.int .u64 (.var 5)), (.int .i64 (.var 6)), .any, .any, .any, .any, .any, .any, .any, .any, .any, .any, .any, .any, .any, .any, .any, .any, .any, .any, .any, .any, .any, .any, .any, .any, .any, U02, U02], []⟩
def rmE : List IE := [(.var 0), (.var 1), (.var 2), (.var 3), (.lit 0), (.lit 0), (.lit 63)]
def rmB : List BE := []
def rmT : RT :=
(.node (.cmp .lss (.var 6) (.lit 0))
 (.stop [(.var 0), (.var 1), (.var 4), (.var 5)] [])
 (.node (.cmp .eql (.ar .and .u64 (.ar .shr .u64 (.var 1) (.var 6)) (.lit 1)) (.lit 1))
 (.go [(.var 0), (.var 1), (.var 2), (.var 3), (.var 9), (.var 10), (.pl .sub (.var 6) (.lit 1))] [])
 (.go [(.var 0), (.var 1), (.var 2), (.var 3), (.var 7), (.var 8), (.pl .sub (.var 6) (.lit 1))] [])))
abbrev rmP : List Nat := [0, 1, 0, 1, 1, 1]
abbrev rmR : List (Int × Int) := [u64Q, u64Q, u64Q, u64Q]
abbrev rmRx : List (Int × Int) := rmR ++ [u64Q, u64Q, (-1, 63), u64Q, u64Q, u64Q, u64Q]
abbrev rmK : List (FuncId × List SV × SV) := [(109, [.int .u64 (.var 4), .int .u64 (.var 5), .int .u64 (.var 4), .int .u64 (.var 5)], .tuple [.int .u64 (.var 7), .int .u64 (.var 8), .bool (.var 0)]), (109, [.int .u64 (.var 7), .int .u64 (.var 8), .int .u64 (.lit 0), .int .u64 (.var 0)], .tuple [.int .u64 (.var 9), .int .u64 (.var 10), .bool (.var 1)])]
noncomputable abbrev rmX : Ctx := { pc := [], cr := rmK ++ crS, rg := rmRx, ar := arN, ct := conCt rmRx arN consN }
theorem rm_lpB : lpB Try.prog rmX 400 93 rmP 1 rmL rmH rmT rmE rmB = true := by kernel_rfl
def rmV (a b j : Nat) : Nat := a * (b / 2 ^ j)
theorem rmV_step (a b j : Nat) : rmV a b j = 2 * rmV a b (j + 1) + a * (b / 2 ^ j % 2) := by
  unfold rmV
  rw [Nat.pow_succ, ← Nat.div_div_eq_div_mul]
  generalize b / 2 ^ j = q
  have h := Nat.div_add_mod q 2
  rw [Nat.mul_left_comm 2 a, ← Nat.mul_add, h]
theorem rmV_le {a b : Nat} (ha : a ≤ 18446744073709551615) (hb : b ≤ 18446744073709551615) (j : Nat) : rmV a b j ≤ 18446744073709551615 * 18446744073709551615 :=
  Nat.mul_le_mul ha (Nat.le_trans (Nat.div_le_self _ _) hb)
abbrev rmHi (a b j : Nat) : Int := (rmV a b j : Int) / 18446744073709551616
abbrev rmLo (a b j : Nat) : Int := (rmV a b j : Int) % 18446744073709551616
abbrev rmH1 (a b j : Nat) : Int := rpHi (rmHi a b j) (rmLo a b j) (rmHi a b j) (rmLo a b j)
abbrev rmL1 (a b j : Nat) : Int := rpLo (rmLo a b j) (rmLo a b j)
abbrev rmSt (a b j : Nat) : List Int := [(a : Int), b, rmHi a b 0, rmLo a b 0, rmHi a b j, rmLo a b j, (j : Int) - 1, rmH1 a b j, rmL1 a b j, rpHi (rmH1 a b j) (rmL1 a b j) 0 a, rpLo (rmL1 a b j) a]
abbrev rmBs (a b j : Nat) : List Bool := [rpC (rmHi a b j) (rmLo a b j) (rmHi a b j) (rmLo a b j), rpC (rmH1 a b j) (rmL1 a b j) 0 a]
theorem and1 {x : Int} (hx : 0 ≤ x ∧ x < 18446744073709551616) : arI .and .u64 x 1 = x % 2 := by
  obtain ⟨a, rfl⟩ := Int.eq_ofNat_of_zero_le hx.1
  have ha64 : a < 18446744073709551616 := by omega
  have e64 : (2 : Nat) ^ 64 = 18446744073709551616 := by decide
  show IntKind.u64.wrap (((BitVec.ofInt 64 a &&& BitVec.ofInt 64 1).toNat : Nat) : Int) = _
  have ea : ((a : Int) % ((2 ^ 64 : Nat) : Int)).toNat = a := by rw [e64]; omega
  have eb : (BitVec.ofInt 64 1).toNat = 2 ^ 1 - 1 := by decide
  rw [BitVec.toNat_and, BitVec.toNat_ofInt, ea, eb, Nat.and_two_pow_sub_one_eq_mod, IntKind.wrap_u64]
  show ((a % 2 : Nat) : Int) % 18446744073709551616 = (a : Int) % 2
  omega
theorem and1N {q : Nat} (h : q ≤ 18446744073709551615) : arI .and .u64 ((q : Nat) : Int) 1 = ((q % 2 : Nat) : Int) := by
  rw [and1 (by omega)]; omega
theorem rm_rg {ρ : Env} {a b : Nat} (ha : a ≤ 18446744073709551615) (hb : b ≤ 18446744073709551615) {j : Nat} (hj : j ≤ 64) (bs : List Bool) : AllIn (ρ.on (rmSt a b j) bs).i rmRx 0 := by
  have h0 := rmV_le ha hb 0
  have h1 := rmV_le ha hb j
  have k0 : 0 ≤ rmHi a b 0 ∧ rmHi a b 0 ≤ 18446744073709551615 := by unfold rmHi; omega
  have k1 : 0 ≤ rmHi a b j ∧ rmHi a b j ≤ 18446744073709551615 := by unfold rmHi; omega
  have k2 : 0 ≤ rmLo a b 0 ∧ rmLo a b 0 ≤ 18446744073709551615 := by unfold rmLo; omega
  have k3 : 0 ≤ rmLo a b j ∧ rmLo a b j ≤ 18446744073709551615 := by unfold rmLo; omega
  have k4 : -1 ≤ (j : Int) - 1 ∧ (j : Int) - 1 ≤ 63 := by omega
  have ka : 0 ≤ (a : Int) ∧ (a : Int) ≤ 18446744073709551615 := by omega
  have kb : 0 ≤ (b : Int) ∧ (b : Int) ≤ 18446744073709551615 := by omega
  simp only [AllIn, Env.on, rmSt, List.getD_cons_zero, List.getD_cons_succ]
  exact ⟨ka, kb, k0, k2, k1, k3, k4, rpHi_in .., rpLo_in .., rpHi_in .., rpLo_in .., trivial⟩
theorem rm_next {ρ : Env} {a b : Nat} (ha : a ≤ 18446744073709551615) (hb : b ≤ 18446744073709551615) {j : Nat} (hj : j < 64) :
    rmT.next (ρ.on (rmSt a b (j + 1)) (rmBs a b (j + 1))) = some ([(a : Int), b, rmHi a b 0, rmLo a b 0, rmHi a b j, rmLo a b j, (j : Int) - 1], []) := by
  have hs := rmV_step a b j
  have h1 := rmV_le ha hb j
  have e0 : (((j + 1 : Nat) : Int) - 1) = (j : Int) := by omega
  have f0 : ¬ ((j : Int) < 0) := by omega
  have esh : arI .shr .u64 (b : Int) (j : Int) = ((b / 2 ^ j : Nat) : Int) := by
    rw [shrW _ j (by omega)]
    rw [show ((2 : Int) ^ j) = ((2 ^ j : Nat) : Int) from (Int.natCast_pow 2 j).symm]
    exact (Int.natCast_ediv b (2 ^ j)).symm
  have hq : b / 2 ^ j ≤ b := Nat.div_le_self _ _
  have eand : arI .and .u64 ((b / 2 ^ j : Nat) : Int) 1 = ((b / 2 ^ j % 2 : Nat) : Int) := and1N (Nat.le_trans hq hb)
  simp only [rmT, RT.next, BE.den, cmpI, IE.den, Env.on, rmSt, List.getD_cons_zero, List.getD_cons_succ, dens, bdens, List.map_cons, List.map_nil, e0, decide_eq_false f0, cond_false, esh, eand, plI]
  have hb2 : b / 2 ^ j % 2 = 0 ∨ b / 2 ^ j % 2 = 1 := by omega
  rcases hb2 with h2 | h2
  · rw [h2] at hs ⊢
    rw [show (((0 : Nat) : Int) == 1) = false from rfl, cond_false]
    have g1 : rmH1 a b (j + 1) = rmHi a b j := by unfold rmH1 rmHi rmLo rpHi; omega
    have g2 : rmL1 a b (j + 1) = rmLo a b j := by unfold rmL1 rmLo rpLo; omega
    rw [g1, g2]
  · rw [h2] at hs ⊢
    rw [show (((1 : Nat) : Int) == 1) = true from rfl, cond_true]
    have g1 : rpHi (rmH1 a b (j + 1)) (rmL1 a b (j + 1)) 0 a = rmHi a b j := by unfold rmH1 rmL1 rmHi rmLo rpHi rpLo; omega
    have g2 : rpLo (rmL1 a b (j + 1)) a = rmLo a b j := by unfold rmL1 rmLo rpLo; omega
    rw [g1, g2]
theorem rm_loop {a b : Nat} (ha : a ≤ 18446744073709551615) (hb : b ≤ 18446744073709551615) {E : List (Nat × Nat)} {cd : Code} (hc : codeAt Try.prog 93 rmP = .loop cd) : LoopGoes Try.prog (envOf [(a : Int), b, rmHi a b 0, rmLo a b 0] (ap := apN)) E rmL cd := by
  generalize hρ : envOf [(a : Int), b, rmHi a b 0, rmLo a b 0] (ap := apN) = ρ
  have hap : ρ.a = apN := by rw [← hρ]
  refine rt_lpx rm_lpB hc (fun m is bs => ∃ j : Nat, j ≤ 64 ∧ m = j ∧ bs = rmBs a b j ∧ is = rmSt a b j) ?_ ?_ ⟨64, rmSt a b 64, rmBs a b 64, ⟨64, Nat.le_refl _, rfl, rfl, rfl⟩, ?_, ⟨_, rfl⟩⟩ ?_
  · rintro m is bs ⟨j, hj, _, rfl, rfl⟩
    exact knows_env rfl (rm_rg ha hb hj _) (by rw [show (ρ.on (rmSt a b j) (rmBs a b j)).a = apN from hap]; exact arN_ok)
  · rintro m is bs ⟨j, hj, _, rfl, rfl⟩ E
    have hr := rm_rg (ρ := ρ) ha hb hj (rmBs a b j)
    refine knowsC_all (AllIn.get0 hr) (numA_N hap) (arIn_N hap) (fun c0 hc0 => ?_) LpOk.none
    have h1 := rmV_le ha hb j
    have k1 : 0 ≤ rmHi a b j ∧ rmHi a b j ≤ 18446744073709551615 := by unfold rmHi; omega
    have k3 : 0 ≤ rmLo a b j ∧ rmLo a b j ≤ 18446744073709551615 := by unfold rmLo; omega
    simp only [rmK, List.mem_cons, List.not_mem_nil, or_false] at hc0
    rcases hc0 with rfl | rfl
    · exact fun φ w _ => rplus_any (rmHi a b j) (rmLo a b j) (rmHi a b j) (rmLo a b j) k1 k3 k1 k3 w
    · exact fun φ w _ => rplus_any (rmH1 a b j) (rmL1 a b j) 0 a (rpHi_in ..) (rpLo_in ..) (by decide) (by omega) w
  · rw [← hρ]
    have z : rmV a b 64 = 0 := by
      have h64 : (2 : Nat) ^ 64 = 18446744073709551616 := by decide
      unfold rmV; rw [Nat.div_eq_of_lt (by rw [h64]; omega), Nat.mul_zero]
    have z1 : rmHi a b 64 = 0 := by unfold rmHi; rw [z]; rfl
    have z2 : rmLo a b 64 = 0 := by unfold rmLo; rw [z]; rfl
    refine ⟨[rmH1 a b 64, rmL1 a b 64, rpHi (rmH1 a b 64) (rmL1 a b 64) 0 a, rpLo (rmL1 a b 64) a], ?_⟩
    show _ = [(a : Int), b, rmHi a b 0, rmLo a b 0, rmHi a b 64, rmLo a b 64, ((64 : Nat) : Int) - 1, rmH1 a b 64, rmL1 a b 64, rpHi (rmH1 a b 64) (rmL1 a b 64) 0 a, rpLo (rmL1 a b 64) a]
    rw [z1, z2]
    rfl
  · rintro m is bs ⟨j, hj, rfl, rfl, rfl⟩
    rcases m with _ | j
    · refine .inr ⟨[(a : Int), b, rmHi a b 0, rmLo a b 0], [], ?_, by rw [← hρ]; exact envOf_has _ _ _ _ _ _⟩
      simp only [rmT, RT.out, BE.den, cmpI, IE.den, Env.on, rmSt, List.getD_cons_zero, List.getD_cons_succ, dens, bdens, List.map_cons, List.map_nil]
      rfl
    · exact .inl ⟨_, [], j, rmSt a b j, rmBs a b j, rm_next ha hb (by omega), by omega, ⟨j, by omega, rfl, rfl, rfl⟩, ⟨[rmH1 a b j, rmL1 a b j, rpHi (rmH1 a b j) (rmL1 a b j) 0 a, rpLo (rmL1 a b j) a], rfl⟩, ⟨_, List.nil_append _⟩⟩
abbrev rmLp : FuncId → List Nat → Nat → Option LoopSum := fun f p _ => if Nat.beq f 93 && decide (p = rmP) then some rmL else none
theorem rmul_any (a b : Int) (ha : 0 ≤ a ∧ a ≤ 18446744073709551615) (hb : 0 ≤ b ∧ b ≤ 18446744073709551615) (w : World) :
    Calls Try.prog 93 #[.int .u64 a, .int .u64 b] w fun e w' => e = .returned (.tuple #[.int .u64 (a * b / 18446744073709551616), .int .u64 (a * b % 18446744073709551616)]) ∧ Below w.heap.size w w' := by
  obtain ⟨a, rfl⟩ := Int.eq_ofNat_of_zero_le ha.1
  obtain ⟨b, rfl⟩ := Int.eq_ofNat_of_zero_le hb.1
  have ha' : a ≤ 18446744073709551615 := by omega
  have hb' : b ≤ 18446744073709551615 := by omega
  have h0 := rmV_le ha' hb' 0
  have hV : (rmV a b 0 : Int) = (a : Int) * b := by unfold rmV; rw [Nat.pow_zero, Nat.div_one, Int.natCast_mul]
  have key := law_all (ρ := envOf [(a : Int), b, rmHi a b 0, rmLo a b 0] (ap := apN)) (rg := rmR) (ar := arN) (f := 93) (args := [.int .u64 (.var 0), .int .u64 (.var 1)]) ⟨ha, hb, ⟨by show 0 ≤ rmHi a b 0; unfold rmHi; omega, by show rmHi a b 0 ≤ 18446744073709551615; unfold rmHi; omega⟩, ⟨by show 0 ≤ rmLo a b 0; unfold rmLo; omega, by show rmLo a b 0 ≤ 18446744073709551615; unfold rmLo; omega⟩, trivial⟩ (numA_N rfl) (arIn_N rfl) (cr := []) (fun c hc => by cases hc) (lp := rmLp) ?_ (xs := []) (fun _ _ h => by cases h) (.leaf (.tuple [.int .u64 (.var 2), .int .u64 (.var 3)])) (n := 400) (by kernel_rfl) rfl rfl w (ExtIn.none fun _ => rfl)
  · have e1 : rmHi a b 0 = (a : Int) * b / 18446744073709551616 := by show (rmV a b 0 : Int) / _ = _; rw [hV]
    have e2 : rmLo a b 0 = (a : Int) * b % 18446744073709551616 := by show (rmV a b 0 : Int) % _ = _; rw [hV]
    rw [← e1, ← e2]
    exact key
  · intro f p u L hL cd hcd _
    dsimp only [rmLp] at hL
    split at hL
    · rename_i hfp
      simp only [Bool.and_eq_true, Nat.beq_eq, decide_eq_true_eq] at hfp
      obtain ⟨rfl, rfl⟩ := hfp
      cases hL
      exact rm_loop ha' hb' hcd
    · cases hL

/-! Mul of numbers with a sign -/
def zSize (a : Int) : Int := if a < 0 then -a else a
theorem zSize_in {a : Int} (h : InI a) : 0 ≤ zSize a ∧ zSize a ≤ 9223372036854775808 := by unfold zSize; have := h.1; have := h.2; split <;> omega
theorem rsize_any (a : Int) (h : InI a) (w : World) : Calls Try.prog 92 #[.int .i64 a] w fun e w' => e = .returned (.int .u64 (zSize a)) ∧ Below w.heap.size w w' :=
  law_any (bs := []) (fs := []) (is := [a]) (rg := [i64R]) (args := [.int .i64 (.var 0)]) ⟨h, trivial⟩ (cr := []) (fun c hc => by cases hc) (.node (.cmp .lss (.var 0) (.lit 0)) (.leaf (.int .u64 (.ar .sub .u64 (.lit 0) (.wr .u64 (.var 0))))) (.leaf (.int .u64 (.var 0)))) (n := 400) (by kernel_rfl) (Tree.whole_live (by kernel_rfl)) (by
    have h1 := h.1; have h2 := h.2
    simp only [Tree.val, BE.den, cmpI, SV.den, IE.den, Bool.cond_decide, List.getD_cons_zero]
    unfold zSize
    split
    · have : arI .sub .u64 0 (IntKind.u64.wrap a) = -a := by
        show IntKind.u64.wrap (0 - IntKind.u64.wrap a) = -a
        rw [IntKind.wrap_u64, IntKind.wrap_u64]; omega
      rw [this]
    · rfl) w
def rsT : Tree :=
(.node (.cmp .lss (.var 4) (.lit 2147483648))
 (.node (.cmp .lss (.var 0) (.lit 0))
 (.node (.cmp .lss (.var 1) (.lit 0))
 (.node (.cmp .lss (.lit 9223372036854775807) (.ar .or .u64 (.ar .shl .u64 (.var 4) (.lit 32)) (.ar .shr .u64 (.var 5) (.lit 32))))
 (.leaf (.int .i64 (.lit 9223372036854775807)))
 (.leaf (.int .i64 (.ar .or .u64 (.ar .shl .u64 (.var 4) (.lit 32)) (.ar .shr .u64 (.var 5) (.lit 32))))))
 (.node (.cmp .eql (.ar .shl .u64 (.var 5) (.lit 32)) (.lit 0))
 (.node (.cmp .lss (.lit 9223372036854775807) (.ar .or .u64 (.ar .shl .u64 (.var 4) (.lit 32)) (.ar .shr .u64 (.var 5) (.lit 32))))
 (.leaf (.int .i64 (.lit (-9223372036854775807))))
 (.leaf (.int .i64 (.pl .sub (.lit 0) (.ar .or .u64 (.ar .shl .u64 (.var 4) (.lit 32)) (.ar .shr .u64 (.var 5) (.lit 32)))))))
 (.node (.cmp .lss (.ar .or .u64 (.ar .shl .u64 (.var 4) (.lit 32)) (.ar .shr .u64 (.var 5) (.lit 32))) (.lit 9223372036854775808))
 (.node (.cmp .lss (.lit 9223372036854775807) (.pl .add (.ar .or .u64 (.ar .shl .u64 (.var 4) (.lit 32)) (.ar .shr .u64 (.var 5) (.lit 32))) (.lit 1)))
 (.leaf (.int .i64 (.lit (-9223372036854775807))))
 (.leaf (.int .i64 (.pl .sub (.lit 0) (.pl .add (.ar .or .u64 (.ar .shl .u64 (.var 4) (.lit 32)) (.ar .shr .u64 (.var 5) (.lit 32))) (.lit 1))))))
 (.leaf (.int .i64 (.lit (-9223372036854775807)))))))
 (.node (.cmp .lss (.var 1) (.lit 0))
 (.node (.cmp .eql (.ar .shl .u64 (.var 5) (.lit 32)) (.lit 0))
 (.node (.cmp .lss (.lit 9223372036854775807) (.ar .or .u64 (.ar .shl .u64 (.var 4) (.lit 32)) (.ar .shr .u64 (.var 5) (.lit 32))))
 (.leaf (.int .i64 (.lit (-9223372036854775807))))
 (.leaf (.int .i64 (.pl .sub (.lit 0) (.ar .or .u64 (.ar .shl .u64 (.var 4) (.lit 32)) (.ar .shr .u64 (.var 5) (.lit 32)))))))
 (.node (.cmp .lss (.ar .or .u64 (.ar .shl .u64 (.var 4) (.lit 32)) (.ar .shr .u64 (.var 5) (.lit 32))) (.lit 9223372036854775808))
 (.node (.cmp .lss (.lit 9223372036854775807) (.pl .add (.ar .or .u64 (.ar .shl .u64 (.var 4) (.lit 32)) (.ar .shr .u64 (.var 5) (.lit 32))) (.lit 1)))
 (.leaf (.int .i64 (.lit (-9223372036854775807))))
 (.leaf (.int .i64 (.pl .sub (.lit 0) (.pl .add (.ar .or .u64 (.ar .shl .u64 (.var 4) (.lit 32)) (.ar .shr .u64 (.var 5) (.lit 32))) (.lit 1))))))
 (.leaf (.int .i64 (.lit (-9223372036854775807))))))
 (.node (.cmp .lss (.lit 9223372036854775807) (.ar .or .u64 (.ar .shl .u64 (.var 4) (.lit 32)) (.ar .shr .u64 (.var 5) (.lit 32))))
 (.leaf (.int .i64 (.lit 9223372036854775807)))
 (.leaf (.int .i64 (.ar .or .u64 (.ar .shl .u64 (.var 4) (.lit 32)) (.ar .shr .u64 (.var 5) (.lit 32))))))))
 (.node (.cmp .lss (.var 0) (.lit 0))
 (.node (.cmp .lss (.var 1) (.lit 0))
 (.leaf (.int .i64 (.lit 9223372036854775807)))
 (.leaf (.int .i64 (.lit (-9223372036854775807)))))
 (.node (.cmp .lss (.var 1) (.lit 0))
 (.leaf (.int .i64 (.lit (-9223372036854775807))))
 (.leaf (.int .i64 (.lit 9223372036854775807))))))
abbrev rsR : List (Int × Int) := [i64R, i64R, (0, 9223372036854775808), (0, 9223372036854775808), (0, 4611686018427387904), u64Q]
abbrev rsK : List (FuncId × List SV × SV) := [(92, [.int .i64 (.var 0)], .int .u64 (.var 2)), (92, [.int .i64 (.var 1)], .int .u64 (.var 3)), (93, [.int .u64 (.var 2), .int .u64 (.var 3)], .tuple [.int .u64 (.var 4), .int .u64 (.var 5)])]
theorem rsT_val (a b P : Int) (ha : InI a) (hb : InI b) (hP : P = zSize a * zSize b) (hP0 : 0 ≤ P) (hP1 : P ≤ 9223372036854775808 * 9223372036854775808) : rsT.val (envOf [a, b, zSize a, zSize b, P / 18446744073709551616, P % 18446744073709551616] (ap := apN)) = .int .i64 (sat (a * b / 4294967296)) := by
  have hab : (a < 0 ∧ b < 0 ∧ a * b = P) ∨ (a < 0 ∧ ¬ b < 0 ∧ a * b = -P) ∨ (¬ a < 0 ∧ b < 0 ∧ a * b = -P) ∨ (¬ a < 0 ∧ ¬ b < 0 ∧ a * b = P) := by
    rw [hP]; unfold zSize
    by_cases h1 : a < 0 <;> by_cases h2 : b < 0 <;> simp [h1, h2, Int.neg_mul, Int.mul_neg]
  clear hP
  by_cases hh : P / 18446744073709551616 < 2147483648
  · have e1 : arI .shl .u64 (P / 18446744073709551616) 32 = P / 18446744073709551616 * 4294967296 := by rw [shl32]; omega
    have e2 : arI .shr .u64 (P % 18446744073709551616) 32 = P % 18446744073709551616 / 4294967296 := shr32 _
    have e3 : arI .or .u64 (arI .shl .u64 (P / 18446744073709551616) 32) (arI .shr .u64 (P % 18446744073709551616) 32) = P / 4294967296 := by
      rw [e1, e2, or32 (by omega) (by omega) (by omega)]; omega
    have e4 : arI .shl .u64 (P % 18446744073709551616) 32 = P * 4294967296 % 18446744073709551616 := by rw [shl32]; omega
    simp only [rsT, Tree.val, BE.den, cmpI, SV.den, IE.den, Bool.cond_decide, List.getD_cons_zero, List.getD_cons_succ, plI, e3, e4]
    rw [if_pos hh]
    unfold sat
    rcases hab with ⟨h1, h2, h3⟩ | ⟨h1, h2, h3⟩ | ⟨h1, h2, h3⟩ | ⟨h1, h2, h3⟩ <;> simp only [h1, h2, if_true, if_false, h3]
    · split <;> (congr 1; omega)
    · by_cases h4 : P * 4294967296 % 18446744073709551616 = 0
      · rw [beq_iff_eq.2 h4, cond_true]; split <;> (congr 1; omega)
      · rw [beq_false_of_ne h4, cond_false]; repeat' split
        all_goals (congr 1; omega)
    · by_cases h4 : P * 4294967296 % 18446744073709551616 = 0
      · rw [beq_iff_eq.2 h4, cond_true]; split <;> (congr 1; omega)
      · rw [beq_false_of_ne h4, cond_false]; repeat' split
        all_goals (congr 1; omega)
    · split <;> (congr 1; omega)
  · simp only [rsT, Tree.val, BE.den, cmpI, SV.den, IE.den, Bool.cond_decide, List.getD_cons_zero, List.getD_cons_succ]
    rw [if_neg hh]
    unfold sat
    rcases hab with ⟨h1, h2, h3⟩ | ⟨h1, h2, h3⟩ | ⟨h1, h2, h3⟩ | ⟨h1, h2, h3⟩ <;> simp only [h1, h2, if_true, if_false, h3] <;> (congr 1; omega)
theorem refmul_any (a b : Int) (ha : InI a) (hb : InI b) (w : World) : Calls Try.prog 62 #[.int .i64 a, .int .i64 b] w fun e w' => e = .returned (.int .i64 (apN 4 a b 0)) ∧ Below w.heap.size w w' := by
  have za := zSize_in ha
  have zb := zSize_in hb
  have hP0 : 0 ≤ zSize a * zSize b := Int.mul_nonneg za.1 zb.1
  have hP1 : zSize a * zSize b ≤ 9223372036854775808 * 9223372036854775808 := Int.mul_le_mul za.2 zb.2 zb.1 (by decide)
  refine law_any (bs := []) (fs := []) (is := [a, b, zSize a, zSize b, zSize a * zSize b / 18446744073709551616, zSize a * zSize b % 18446744073709551616]) (rg := rsR) (args := [.int .i64 (.var 0), .int .i64 (.var 1)]) ⟨ha, hb, za, zb, ⟨by show 0 ≤ zSize a * zSize b / 18446744073709551616; omega, by show zSize a * zSize b / 18446744073709551616 ≤ 4611686018427387904; omega⟩, ⟨by show 0 ≤ zSize a * zSize b % 18446744073709551616; omega, by show zSize a * zSize b % 18446744073709551616 ≤ 18446744073709551615; omega⟩, trivial⟩ (cr := rsK) (fun c hc => ?_) rsT (n := 400) (by kernel_rfl) (Tree.whole_live (by kernel_rfl)) (rsT_val a b _ ha hb rfl hP0 hP1) w
  simp only [rsK, List.mem_cons, List.not_mem_nil, or_false] at hc
  rcases hc with rfl | rfl | rfl
  · exact fun φ w _ => rsize_any a ha w
  · exact fun φ w _ => rsize_any b hb w
  · exact fun φ w _ => rmul_any (zSize a) (zSize b) ⟨za.1, by omega⟩ ⟨zb.1, by omega⟩ w
noncomputable abbrev mulCon2 : Con := con2 62 4
theorem mulCon2_ok {ρ : Env} (ha : NumA ρ) : mulCon2.holds Try.prog ρ := con2_ok ha (by decide) fun a b h k w => refmul_any a b h k w

/-! plainly -/
def sU : Nat → Int → Int × Int
  | 0, a => (a, 0)
  | k + 1, a => if a = 0 ∨ a = -1 then (a, -((k : Int) + 1)) else sU k (a / 2)
def sA (a m : Int) : Int × Int := if m < 0 then sU (-m).toNat a else (a, m)
def sD : Nat → Int → Int
  | 0, a => a
  | k + 1, a => if a = 0 then 0 else sD k (sat (a + a))
theorem sD_zero (a : Int) : sD 0 a = a := rfl
theorem sD_succ (k : Nat) (a : Int) : sD (k + 1) a = if a = 0 then 0 else sD k (sat (a + a)) := rfl
theorem mxI_maxm (a b : Int) : mxI a b = max a b := by unfold mxI; split <;> omega
theorem sU_fst : ∀ (k : Nat) (a : Int), (sU k a).1 = a / 2 ^ k
  | 0, a => by show a = a / 1; omega
  | k + 1, a => by
    unfold sU
    have hp : (0 : Int) < 2 ^ (k + 1) := Int.pow_pos (by decide)
    split
    · rename_i h
      rcases h with h | h
      · subst h; exact (Int.zero_ediv _).symm
      · subst h; exact (Int.neg_one_ediv _).symm ▸ (by rw [Int.sign_eq_one_of_pos hp])
    · rw [sU_fst k, Int.pow_succ', Int.ediv_ediv_of_nonneg (by decide)]
theorem sU_snd : ∀ (k : Nat) (a : Int), (sU k a).2 = 0 ∨ (-(k : Int) ≤ (sU k a).2 ∧ (sU k a).2 < 0 ∧ ((sU k a).1 = 0 ∨ (sU k a).1 = -1))
  | 0, a => .inl rfl
  | k + 1, a => by
    unfold sU
    split
    · rename_i h
      exact .inr ⟨by show -((k + 1 : Nat) : Int) ≤ -((k : Int) + 1); omega, by show -((k : Int) + 1) < 0; omega, h⟩
    · rcases sU_snd k (a / 2) with h | ⟨h1, h2, h3⟩
      · exact .inl h
      · exact .inr ⟨by omega, h2, h3⟩
theorem sat_sat_mul (x : Int) {p : Int} (hp : 1 ≤ p) : sat (sat x * p) = sat (x * p) := by
  by_cases h1 : x < -9223372036854775807
  · have e : sat x = -9223372036854775807 := by unfold sat; omega
    have k1 : -9223372036854775807 * p ≤ -9223372036854775807 := by omega
    have k2 : x * p ≤ -9223372036854775807 * p := Int.mul_le_mul_of_nonneg_right (by omega) (by omega)
    rw [e]; unfold sat; omega
  · by_cases h2 : 9223372036854775807 < x
    · have e : sat x = 9223372036854775807 := by unfold sat; omega
      have k1 : 9223372036854775807 ≤ 9223372036854775807 * p := by omega
      have k2 : 9223372036854775807 * p ≤ x * p := Int.mul_le_mul_of_nonneg_right (by omega) (by omega)
      rw [e]; unfold sat; omega
    · rw [sat_of (x := x) ⟨by omega, by omega⟩]
theorem sD_sat : ∀ (k : Nat) (a : Int), sat (sD k a) = sat (a * 2 ^ k)
  | 0, a => by unfold sD; rw [Int.pow_zero, Int.mul_one]
  | k + 1, a => by
    unfold sD
    split
    · rename_i h; rw [h, Int.zero_mul]
    · have hp : (1 : Int) ≤ 2 ^ k := Int.pow_pos (by decide)
      rw [sD_sat k, sat_sat_mul _ hp, Int.pow_succ', ← Int.mul_assoc, show a * 2 = a + a by omega]
theorem sD_in : ∀ (k : Nat) {a : Int}, InI a → InI (sD k a)
  | 0, a, h => h
  | k + 1, a, h => by
    unfold sD
    split
    · exact ⟨by decide, by decide⟩
    · have := sat_in (a + a); exact sD_in k ⟨by omega, by omega⟩
theorem sD_big (a : Int) {k : Nat} (hk : 64 ≤ k) : sat (a * 2 ^ k) = sat (a * 2 ^ 64) := by
  have hp : (2 : Int) ^ 64 ≤ 2 ^ k := by
    rw [show k = 64 + (k - 64) by omega, Int.pow_add]
    have : (1 : Int) ≤ 2 ^ (k - 64) := Int.pow_pos (by decide)
    have e : (2 : Int) ^ 64 = 18446744073709551616 := by decide
    rw [e]; omega
  have e : (2 : Int) ^ 64 = 18446744073709551616 := by decide
  rw [e] at hp ⊢
  generalize (2 : Int) ^ k = p at *
  rcases Int.lt_trichotomy a 0 with h | h | h
  · have k1 : a * p ≤ -1 * p := Int.mul_le_mul_of_nonneg_right (by omega) (by omega)
    unfold sat; omega
  · subst h; rw [Int.zero_mul, Int.zero_mul]
  · have k1 : 1 * p ≤ a * p := Int.mul_le_mul_of_nonneg_right (by omega) (by omega)
    unfold sat; omega
theorem sU_big {a : Int} (h : InI a) {k : Nat} (hk : 63 ≤ k) : a / 2 ^ k = a / 2 ^ 63 := by
  have h1 := h.1; have h2 := h.2
  have e : (2 : Int) ^ 63 = 9223372036854775808 := by decide
  have hp : (2 : Int) ^ 63 ≤ 2 ^ k := by
    rw [show k = 63 + (k - 63) by omega, Int.pow_add]
    have : (1 : Int) ≤ 2 ^ (k - 63) := Int.pow_pos (by decide)
    rw [e]; omega
  rw [e] at hp ⊢
  generalize (2 : Int) ^ k = p at *
  by_cases h0 : a < 0
  · have k1 : a / p = -1 := by
      refine Int.le_antisymm ?_ ?_
      · have := (Int.ediv_lt_iff_lt_mul (show (0 : Int) < p by omega) (a := a) (b := 0)).2 (by omega); omega
      · exact (Int.le_ediv_iff_mul_le (by omega)).2 (by omega)
    rw [k1]; omega
  · rw [Int.ediv_eq_zero_of_lt (by omega) (by omega)]; omega
abbrev sM (n : Int) : Int := mxI (-1000) (mnI n 1000)
abbrev sa1 (a n : Int) : Int := (sA a (sM n)).1
abbrev sn1 (a n : Int) : Int := (sA a (sM n)).2
abbrev sa2 (a n : Int) : Int := sD (sn1 a n).toNat (sa1 a n)
theorem sM_eq (n : Int) : sM n = max (-1000) (min n 1000) := by
  have mn : ∀ a b : Int, mnI a b = min a b := fun a b => by unfold mnI; split <;> omega
  unfold sM; rw [mxI_maxm, mn]
theorem div_in {a : Int} (h : InI a) (k : Nat) : InI (a / 2 ^ k) := by
  have hp : (1 : Int) ≤ 2 ^ k := Int.pow_pos (by decide)
  have h1 := h.1; have h2 := h.2
  generalize (2 : Int) ^ k = p at *
  refine ⟨(Int.le_ediv_iff_mul_le (by omega)).2 ?_, ?_⟩
  · omega
  · by_cases h0 : a < 0
    · have := (Int.ediv_lt_iff_lt_mul (show (0 : Int) < p by omega) (a := a) (b := 0)).2 (by omega); omega
    · have := Int.ediv_le_self p (show 0 ≤ a by omega); omega
theorem sA_in {a m : Int} (h : InI a) (hm : -1000 ≤ m ∧ m ≤ 1000) : InI (sA a m).1 ∧ -1000 ≤ (sA a m).2 ∧ (sA a m).2 ≤ 1000 := by
  unfold sA
  split
  · refine ⟨by rw [sU_fst]; exact div_in h _, ?_⟩
    rcases sU_snd (-m).toNat a with h1 | ⟨h1, h2, _⟩ <;> omega
  · exact ⟨h, hm⟩
theorem shift_plain {a n : Int} (h : InI a) (hn : InI n) : (if sn1 a n < 0 then sa1 a n else mxI (sa2 a n) (-9223372036854775807)) = apN 3 a n 0 := by
  have h1 := h.1; have h2 := h.2
  rw [mxI_maxm]
  show _ = sat (if n ≤ 0 then a / 2 ^ (min 63 (-n).toNat) else a * 2 ^ (min n.toNat 64))
  have hd := div_in h
  by_cases n0 : n < 0
  · have e0 : sA a (sM n) = sU (-sM n).toNat a := by unfold sA; rw [sM_eq, if_pos (by omega)]
    have eq : a / 2 ^ (-sM n).toNat = a / 2 ^ (min 63 (-n).toNat) := by
      by_cases h63 : n ≤ -63
      · rw [show min 63 (-n).toNat = 63 by omega]; exact sU_big h (by rw [sM_eq]; omega)
      · rw [sM_eq, show (-(max (-1000) (min n 1000))).toNat = min 63 (-n).toNat by omega]
    have f1 : sa1 a n = a / 2 ^ (min 63 (-n).toNat) := by unfold sa1; rw [e0, sU_fst, eq]
    rw [if_pos (show n ≤ 0 by omega), ← f1]
    rcases sU_snd (-sM n).toNat a with g | ⟨g1, g2, g3⟩
    · have f2 : sn1 a n = 0 := by unfold sn1; rw [e0]; exact g
      rw [if_neg (by omega)]
      unfold sa2
      rw [f2]
      have := f1 ▸ hd (min 63 (-n).toNat)
      have k1 := this.1; have k2 := this.2
      show max (sa1 a n) _ = _
      unfold sat; omega
    · have f2 : sn1 a n < 0 := by unfold sn1; rw [e0]; exact g2
      have f3 : sa1 a n = 0 ∨ sa1 a n = -1 := by unfold sa1; rw [e0]; exact g3
      rw [if_pos f2]
      unfold sat; omega
  · have e0 : sA a (sM n) = (a, sM n) := by unfold sA; rw [sM_eq, if_neg (by omega)]
    have f1 : sa1 a n = a := by unfold sa1; rw [e0]
    have f2 : sn1 a n = max (-1000) (min n 1000) := by unfold sn1; rw [e0, sM_eq]
    rw [if_neg (by omega)]
    have key : max (sa2 a n) (-9223372036854775807) = sat (sa2 a n) := by
      have := sD_in (sn1 a n).toNat (f1.symm ▸ h : InI (sa1 a n))
      have k1 := this.1; have k2 := this.2
      unfold sat; show max (sD _ _) _ = max _ (min (sD _ _) _); omega
    rw [key]
    unfold sa2
    rw [sD_sat, f1, f2]
    by_cases hz : n = 0
    · subst hz
      rw [if_pos (Int.le_refl 0)]
      show sat (a * 2 ^ 0) = sat (a / 2 ^ 0)
      rw [Int.pow_zero, Int.mul_one, Int.ediv_one]
    · rw [if_neg (by omega)]
      by_cases h64 : 64 ≤ n
      · rw [show min n.toNat 64 = 64 by omega]; exact sD_big a (by omega)
      · rw [show min n.toNat 64 = n.toNat by omega, show (max (-1000) (min n 1000)).toNat = n.toNat by omega]

/-! the loops -/
def raL : LoopSum := ⟨[(.int .i64 (.var 0)), (.int .i64 (.mx (.lit (-1000)) (.mn (.var 1) (.lit 1000)))), U02, U02, (.int .i64 (.lit 0)), (.int .i64 (.var 1)), (.int .i64 (.mn (.var 1) (.lit 1000))), (.int .i64 (.mx (.lit (-1000)) (.mn (.var 1) (.lit 1000)))), U02, U02, U02, U02, U02, U02, U02, U02, U02, U02, U02, U02, U02, U02, U02, U02, U02, U02, U02, U02, U02, U02, U02, U02, U02, U02, U02, U02, U02, U02], [],
  (.exit 0), [(.int .i64 (.var 2)), (.int .i64 (.var 3)), U02, U02, (.int .i64 (.lit 0)), (.int .i64 (.var 1)), (.int .i64 (.mn (.var 1) (.lit 1000))), (.int .i64 (.mx (.lit (-1000)) (.mn (.var 1) (.lit 1000)))), .any, .any, .any, .any, .any, .any, .any, .any, .any, .any, .any, .any, .any, .any, U02, U02, U02, U02, U02, U02, U02, U02, U02, U02, U02, U02, U02, U02, U02, U02], []⟩
def raH : St := ⟨Tm.ofL [(.int .i64 (.var 5)), (.int .i64 (.var 6)), U02, U02, (.int .i64 (.lit 0)), (.int .i64 (.var 1)), (.int .i64 (.mn (.var 1) (.lit 1000))), (.int .i64 (.mx (.lit (-1000)) (.mn (.var 1) (.lit 1000)))), .any, .any, .any, .any, .any, .any, .any, .any, .any, .any, .any, .any, .any, .any, U02, U02, U02, U02, U02, U02, U02, U02, U02, U02, U02, U02, U02, U02, U02, U02], []⟩
def raE : List IE := [(.var 0), (.var 1), (.var 2), (.var 3), (.var 4), (.var 0), (.mx (.lit (-1000)) (.mn (.var 1) (.lit 1000)))]
def raB : List BE := []
def raT : RT :=
(.node (.cmp .lss (.var 6) (.lit 0))
 (.node (.cmp .eql (.var 5) (.lit 0))
 (.stop [(.var 0), (.var 1), (.var 5), (.var 6), (.var 4)] [])
 (.node (.cmp .eql (.var 5) (.lit (-1)))
 (.stop [(.var 0), (.var 1), (.var 5), (.var 6), (.var 4)] [])
 (.go [(.var 0), (.var 1), (.var 2), (.var 3), (.var 4), (.ar .shr .i64 (.var 5) (.lit 1)), (.pl .add (.var 6) (.lit 1))] [])))
 (.stop [(.var 0), (.var 1), (.var 5), (.var 6), (.var 4)] []))
def rbL : LoopSum := ⟨[(.int .i64 (.var 2)), (.int .i64 (.var 3)), U02, U02, (.int .i64 (.lit 0)), (.int .i64 (.var 1)), (.int .i64 (.mn (.var 1) (.lit 1000))), (.int .i64 (.mx (.lit (-1000)) (.mn (.var 1) (.lit 1000)))), .any, .any, .any, .any, .any, .any, .any, .any, .any, .any, .any, .any, .any, .any, (.int .i64 (.var 3)), (.bool (.cmp .lss (.var 3) (.lit 0))), U02, U02, U02, U02, U02, U02, U02, U02, U02, U02, U02, U02, U02, U02], [],
  (.exit 2), [(.int .i64 (.var 4)), .any, U02, U02, (.int .i64 (.lit 0)), (.int .i64 (.var 1)), (.int .i64 (.mn (.var 1) (.lit 1000))), (.int .i64 (.mx (.lit (-1000)) (.mn (.var 1) (.lit 1000)))), .any, .any, .any, .any, .any, .any, .any, .any, .any, .any, .any, .any, .any, .any, (.int .i64 (.var 3)), (.bool (.cmp .lss (.var 3) (.lit 0))), U02, .any, .any, .any, .any, .any, .any, .any, .any, .any, .any, .any, U02, U02], []⟩
def rbH : St := ⟨Tm.ofL [(.int .i64 (.var 5)), (.int .i64 (.var 6)), U02, U02, (.int .i64 (.lit 0)), (.int .i64 (.var 1)), (.int .i64 (.mn (.var 1) (.lit 1000))), (.int .i64 (.mx (.lit (-1000)) (.mn (.var 1) (.lit 1000)))), .any, .any, .any, .any, .any, .any, .any, .any, .any, .any, .any, .any, .any, .any, (.int .i64 (.var 3)), (.bool (.cmp .lss (.var 3) (.lit 0))), U02, .any, .any, .any, .any, .any, .any, .any, .any, .any, .any, .any, U02, U02], []⟩
def rbE : List IE := [(.var 0), (.var 1), (.var 2), (.var 3), (.var 4), (.var 2), (.var 3)]
def rbB : List BE := []
def rbT : RT :=
(.node (.cmp .lss (.lit 0) (.var 6))
 (.node (.cmp .eql (.var 5) (.lit 0))
 (.stop [(.var 0), (.var 1), (.var 2), (.var 3), (.var 5)] [])
 (.go [(.var 0), (.var 1), (.var 2), (.var 3), (.var 4), (.ap 1 (.var 5) (.var 5) (.lit 0)), (.pl .sub (.var 6) (.lit 1))] []))
 (.stop [(.var 0), (.var 1), (.var 2), (.var 3), (.var 5)] []))
abbrev raP : List Nat := [0, 0, 1, 1]
abbrev rbP : List Nat := [0, 0, 1, 1, 1, 1]
abbrev shR : List (Int × Int) := [i64R, i64R, i64R, (-1000, 1000), i64R]
abbrev shRx : List (Int × Int) := shR ++ [i64R, (-1000, 1000)]
noncomputable abbrev raX : Ctx := { pc := [], cr := [] ++ crS, rg := shRx, ar := arN, ct := conCt shRx arN consN }
theorem ra_lpB : lpB Try.prog raX 400 68 raP 1 raL raH raT raE raB = true := by kernel_rfl
theorem rb_lpB : lpB Try.prog raX 400 68 rbP 3 rbL rbH rbT rbE rbB = true := by kernel_rfl
abbrev shSt (a n x m : Int) : List Int := [a, n, sa1 a n, sn1 a n, sa2 a n, x, m]
theorem sM_in (n : Int) : -1000 ≤ sM n ∧ sM n ≤ 1000 := by rw [sM_eq]; omega
theorem sh_rg {ρ : Env} {a n : Int} (ha : InI a) (hn : InI n) {x m : Int} (hx : InI x) (hm : -1000 ≤ m ∧ m ≤ 1000) (bs : List Bool) : AllIn (ρ.on (shSt a n x m) bs).i shRx 0 := by
  have k := sA_in ha (sM_in n)
  exact ⟨ha, hn, k.1, k.2, sD_in _ k.1, hx, hm, trivial⟩
theorem sh_rg0 {a n : Int} (ha : InI a) (hn : InI n) : AllIn (envOf [a, n, sa1 a n, sn1 a n, sa2 a n] (ap := apN)).i shR 0 := by
  have k := sA_in ha (sM_in n)
  exact ⟨ha, hn, k.1, k.2, sD_in _ k.1, trivial⟩
theorem shr1i (x : Int) : arI .shr .i64 x 1 = x / 2 := by
  show x.fdiv (2 ^ (min (1 : Int).toNat 64)) = _
  rw [Int.fdiv_eq_ediv_of_nonneg _ (by decide)]; rfl
theorem sA_step {x m : Int} (hm : m < 0) (h0 : ¬ x = 0) (h1 : ¬ x = -1) : sA x m = sA (x / 2) (m + 1) := by
  unfold sA
  rw [if_pos hm]
  rw [show (-m).toNat = (-(m + 1)).toNat + 1 by omega]
  show (if x = 0 ∨ x = -1 then _ else sU _ (x / 2)) = _
  rw [if_neg (by omega)]
  split
  · rfl
  · rw [show (-(m + 1)).toNat = 0 by omega, show m + 1 = 0 by omega]; rfl
theorem sA_stop {x m : Int} (h : m < 0 → x = 0 ∨ x = -1) : sA x m = (x, m) := by
  unfold sA
  split
  · rename_i hm
    rw [show (-m).toNat = (-(m + 1)).toNat + 1 by omega]
    show (if x = 0 ∨ x = -1 then _ else _) = _
    rw [if_pos (h hm), show -(((-(m + 1)).toNat : Int) + 1) = m by omega]
  · rfl
theorem ra_loop {a n : Int} (ha : InI a) (hn : InI n) {E : List (Nat × Nat)} {cd : Code} (hc : codeAt Try.prog 68 raP = .loop cd) : LoopGoes Try.prog (envOf [a, n, sa1 a n, sn1 a n, sa2 a n] (ap := apN)) E raL cd := by
  generalize hρ : envOf [a, n, sa1 a n, sn1 a n, sa2 a n] (ap := apN) = ρ
  have hap : ρ.a = apN := by rw [← hρ]
  refine rt_lpx ra_lpB hc (fun k is bs => ∃ x m : Int, InI x ∧ (-1000 ≤ m ∧ m ≤ 1000) ∧ k = (-m).toNat ∧ bs = [] ∧ is = shSt a n x m ∧ sA x m = (sa1 a n, sn1 a n)) ?_ ?_ ⟨_, shSt a n a (sM n), [], ⟨a, sM n, ha, sM_in n, rfl, rfl, rfl, rfl⟩, ?_, ⟨_, rfl⟩⟩ ?_
  · rintro k is bs ⟨x, m, hx, hm, _, rfl, rfl, _⟩
    exact knows_env rfl (sh_rg ha hn hx hm _) (by rw [show (ρ.on (shSt a n x m) []).a = apN from hap]; exact arN_ok)
  · rintro k is bs ⟨x, m, hx, hm, _, rfl, rfl, _⟩ E
    exact knowsC_all (AllIn.get0 (sh_rg (ρ := ρ) ha hn hx hm _)) (numA_N hap) (arIn_N hap) (fun c0 hc0 => by cases hc0) LpOk.none
  · rw [← hρ]
    exact ⟨[], rfl⟩
  · rintro k is bs ⟨x, m, hx, hm, rfl, rfl, rfl, hs⟩
    have hstop : ∀ (h : m < 0 → x = 0 ∨ x = -1), x = sa1 a n ∧ m = sn1 a n := fun h => by
      rw [sA_stop h] at hs; exact ⟨(Prod.mk.injEq .. ▸ hs).1, (Prod.mk.injEq .. ▸ hs).2⟩
    by_cases h0 : m < 0
    · by_cases h1 : x = 0
      · obtain ⟨q1, q2⟩ := hstop fun _ => .inl h1
        refine .inr ⟨[a, n, sa1 a n, sn1 a n, sa2 a n], [], ?_, by rw [← hρ]; exact envOf_has _ _ _ _ _ _⟩
        simp only [raT, RT.out, BE.den, cmpI, IE.den, Env.on, shSt, List.getD_cons_zero, List.getD_cons_succ, dens, bdens, List.map_cons, List.map_nil, decide_eq_true h0, cond_true, beq_iff_eq.2 h1, ← q1, ← q2]
      · by_cases h2 : x = -1
        · obtain ⟨q1, q2⟩ := hstop fun _ => .inr h2
          refine .inr ⟨[a, n, sa1 a n, sn1 a n, sa2 a n], [], ?_, by rw [← hρ]; exact envOf_has _ _ _ _ _ _⟩
          simp only [raT, RT.out, BE.den, cmpI, IE.den, Env.on, shSt, List.getD_cons_zero, List.getD_cons_succ, dens, bdens, List.map_cons, List.map_nil, decide_eq_true h0, cond_true, cond_false, beq_false_of_ne h1, beq_iff_eq.2 h2, ← q1, ← q2]
        · have hx' : InI (x / 2) := by have k1 := hx.1; have k2 := hx.2; exact ⟨by omega, by omega⟩
          refine .inl ⟨[a, n, sa1 a n, sn1 a n, sa2 a n, x / 2, m + 1], [], (-(m + 1)).toNat, shSt a n (x / 2) (m + 1), [], ?_, by omega, ⟨x / 2, m + 1, hx', by omega, rfl, rfl, rfl, by rw [← sA_step h0 h1 h2]; exact hs⟩, ⟨[], rfl⟩, ⟨_, List.nil_append _⟩⟩
          simp only [raT, RT.next, BE.den, cmpI, IE.den, Env.on, shSt, List.getD_cons_zero, List.getD_cons_succ, dens, bdens, List.map_cons, List.map_nil, decide_eq_true h0, cond_true, cond_false, beq_false_of_ne h1, beq_false_of_ne h2, shr1i, plI]
    · obtain ⟨q1, q2⟩ := hstop fun h => absurd h h0
      refine .inr ⟨[a, n, sa1 a n, sn1 a n, sa2 a n], [], ?_, by rw [← hρ]; exact envOf_has _ _ _ _ _ _⟩
      simp only [raT, RT.out, BE.den, cmpI, IE.den, Env.on, shSt, List.getD_cons_zero, List.getD_cons_succ, dens, bdens, List.map_cons, List.map_nil, decide_eq_false h0, cond_false, ← q1, ← q2]
theorem rb_loop {a n : Int} (ha : InI a) (hn : InI n) {E : List (Nat × Nat)} {cd : Code} (hc : codeAt Try.prog 68 rbP = .loop cd) : LoopGoes Try.prog (envOf [a, n, sa1 a n, sn1 a n, sa2 a n] (ap := apN)) E rbL cd := by
  generalize hρ : envOf [a, n, sa1 a n, sn1 a n, sa2 a n] (ap := apN) = ρ
  have hap : ρ.a = apN := by rw [← hρ]
  have k := sA_in ha (sM_in n)
  refine rt_lpx rb_lpB hc (fun k is bs => ∃ x m : Int, InI x ∧ (-1000 ≤ m ∧ m ≤ 1000) ∧ k = m.toNat ∧ bs = [] ∧ is = shSt a n x m ∧ sD m.toNat x = sa2 a n) ?_ ?_ ⟨_, shSt a n (sa1 a n) (sn1 a n), [], ⟨sa1 a n, sn1 a n, k.1, k.2, rfl, rfl, rfl, rfl⟩, ?_, ⟨_, rfl⟩⟩ ?_
  · rintro k is bs ⟨x, m, hx, hm, _, rfl, rfl, _⟩
    exact knows_env rfl (sh_rg ha hn hx hm _) (by rw [show (ρ.on (shSt a n x m) []).a = apN from hap]; exact arN_ok)
  · rintro k is bs ⟨x, m, hx, hm, _, rfl, rfl, _⟩ E
    exact knowsC_all (AllIn.get0 (sh_rg (ρ := ρ) ha hn hx hm _)) (numA_N hap) (arIn_N hap) (fun c0 hc0 => by cases hc0) LpOk.none
  · rw [← hρ]
    exact ⟨[], rfl⟩
  · rintro k is bs ⟨x, m, hx, hm, rfl, rfl, rfl, hs⟩
    by_cases h0 : 0 < m
    · rw [show m.toNat = (m - 1).toNat + 1 by omega, sD_succ] at hs
      by_cases h1 : x = 0
      · rw [if_pos h1] at hs
        refine .inr ⟨[a, n, sa1 a n, sn1 a n, sa2 a n], [], ?_, by rw [← hρ]; exact envOf_has _ _ _ _ _ _⟩
        simp only [rbT, RT.out, BE.den, cmpI, IE.den, Env.on, shSt, List.getD_cons_zero, List.getD_cons_succ, dens, bdens, List.map_cons, List.map_nil, decide_eq_true h0, cond_true, beq_iff_eq.2 h1]
        rw [h1, hs]
      · rw [if_neg h1] at hs
        have hx' : InI (sat (x + x)) := by have := sat_in (x + x); exact ⟨by omega, by omega⟩
        refine .inl ⟨[a, n, sa1 a n, sn1 a n, sa2 a n, sat (x + x), m - 1], [], (m - 1).toNat, shSt a n (sat (x + x)) (m - 1), [], ?_, by omega, ⟨sat (x + x), m - 1, hx', by omega, rfl, rfl, rfl, hs⟩, ⟨[], rfl⟩, ⟨_, List.nil_append _⟩⟩
        have e1 : ρ.a 1 x x 0 = sat (x + x) := by rw [hap]; rfl
        simp only [rbT, RT.next, BE.den, cmpI, IE.den, Env.on, shSt, List.getD_cons_zero, List.getD_cons_succ, dens, bdens, List.map_cons, List.map_nil, decide_eq_true h0, cond_true, cond_false, beq_false_of_ne h1, plI, e1]
    · rw [show m.toNat = 0 by omega, sD_zero] at hs
      refine .inr ⟨[a, n, sa1 a n, sn1 a n, sa2 a n], [], ?_, by rw [← hρ]; exact envOf_has _ _ _ _ _ _⟩
      simp only [rbT, RT.out, BE.den, cmpI, IE.den, Env.on, shSt, List.getD_cons_zero, List.getD_cons_succ, dens, bdens, List.map_cons, List.map_nil, decide_eq_false h0, cond_false]
      rw [hs]
abbrev shLp : FuncId → List Nat → Nat → Option LoopSum := fun f p _ => if Nat.beq f 68 && decide (p = raP) then some raL else if Nat.beq f 68 && decide (p = rbP) then some rbL else none
theorem refshift_any (a n : Int) (ha : InI a) (hn : InI n) (w : World) : Calls Try.prog 68 #[.int .i64 a, .int .i64 n] w fun e w' => e = .returned (.int .i64 (apN 3 a n 0)) ∧ Below w.heap.size w w' := by
  refine law_all (ρ := envOf [a, n, sa1 a n, sn1 a n, sa2 a n] (ap := apN)) (rg := shR) (ar := arN) (f := 68) (args := [.int .i64 (.var 0), .int .i64 (.var 1)]) (sh_rg0 ha hn) (numA_N rfl) (arIn_N rfl) (cr := []) (fun c hc => by cases hc) (lp := shLp) ?_ (xs := []) (fun _ _ h => by cases h) (.node (.cmp .lss (.var 3) (.lit 0)) (.leaf (.int .i64 (.var 2))) (.leaf (.int .i64 (.mx (.var 4) (.lit (-9223372036854775807)))))) (n := 400) (by kernel_rfl) (Tree.whole_live (by kernel_rfl)) ?_ w (ExtIn.none fun _ => rfl)
  · intro f p u L hL cd hcd _
    dsimp only [shLp] at hL
    split at hL
    · rename_i hfp
      simp only [Bool.and_eq_true, Nat.beq_eq, decide_eq_true_eq] at hfp
      obtain ⟨rfl, rfl⟩ := hfp
      cases hL
      exact ra_loop ha hn hcd
    · split at hL
      · rename_i hfp
        simp only [Bool.and_eq_true, Nat.beq_eq, decide_eq_true_eq] at hfp
        obtain ⟨rfl, rfl⟩ := hfp
        cases hL
        exact rb_loop ha hn hcd
      · cases hL
  · rw [← shift_plain ha hn]
    simp only [Tree.val, BE.den, cmpI, SV.den, IE.den, Bool.cond_decide, List.getD_cons_zero, List.getD_cons_succ]
    split <;> rfl
noncomputable abbrev shiftCon2 : Con := con2 68 3
theorem shiftCon2_ok {ρ : Env} (ha : NumA ρ) : shiftCon2.holds Try.prog ρ := con2_ok ha (by decide) fun a b h k w => refshift_any a b h k w
noncomputable abbrev mulCon2s : Con := ⟨62, [.i64, .i64], fun es => match es with | [a, b] => .int .i64 (mkAp 4 b a (.lit 0)) | _ => .any⟩
theorem mulCon2s_ok {ρ : Env} (ha : NumA ρ) : mulCon2s.holds Try.prog ρ := by
  intro es hi φ w
  match es, hi with
  | [e, d], hi =>
    obtain ⟨h0, h1, _⟩ := hi
    refine (refmul_any (e.den ρ) (d.den ρ) h0 h1 w).mono ?_
    rintro e' w' ⟨rfl, hb⟩
    refine ⟨?_, hb⟩
    refine congrArg (fun z => Ending.returned (.int .i64 z)) (Eq.trans ?_ (mkAp_den (f := 4) ha (by decide) d e (.lit 0)).symm)
    show sat (e.den ρ * d.den ρ / 4294967296) = sat (d.den ρ * e.den ρ / 4294967296)
    rw [Int.mul_comm]
  | [], hi => exact hi.elim
  | [_], hi => exact hi.2.elim
  | _ :: _ :: _ :: _, hi => exact hi.2.2.elim
noncomputable abbrev consM : List Con := mulCon2 :: shiftCon2 :: consN
noncomputable abbrev consS : List Con := mulCon2s :: shiftCon2 :: consN
theorem consM_ok {ρ : Env} (ha : NumA ρ) : ∀ c ∈ consM, c.holds Try.prog ρ :=
  List.forall_mem_cons.2 ⟨mulCon2_ok ha, List.forall_mem_cons.2 ⟨shiftCon2_ok ha, consN_ok ha⟩⟩
theorem consS_ok {ρ : Env} (ha : NumA ρ) : ∀ c ∈ consS, c.holds Try.prog ρ :=
  List.forall_mem_cons.2 ⟨mulCon2s_ok ha, List.forall_mem_cons.2 ⟨shiftCon2_ok ha, consN_ok ha⟩⟩
/-- a law by its tree, path by path, with any contracts -/
theorem law_con {ρ : Env} {rg ar : List (Int × Int)} (hin : AllIn ρ.i rg 0) (har : ArIn ρ ar) {cs : List Con} (hcs : ∀ c ∈ cs, c.holds Try.prog ρ) {cr : List (FuncId × List SV × SV)} (hcr : ∀ c ∈ cr, Known Try.prog ρ c) {lp : FuncId → List Nat → Nat → Option LoopSum} (hlp : LpOk ρ [] lp) {xs : List XD} (hxs : ∀ (j : Nat) d, xs[j]? = some d → XOk ρ d (ρ.x j)) {nm : List (IE × IE)} (hnm : ∀ p ∈ nm, p.1.den ρ = p.2.den ρ) {nz : Bool}
    (T : Tree) {n : Nat} {f : FuncId} {args : List SV} (hT : T.Ok Try.prog { pc := [], cr := cr ++ crS, rg := rg, ar := ar, ct := conCt rg ar cs, lp := lp, xs := xs, nm := nm, nz := nz } n f args) (hg : good ρ T = true) (w : World) (hx : ExtIn ρ w) :
    Calls Try.prog f (SV.denL ρ id args).toArray w fun e w' => e = .returned (.bool true) ∧ Below w.heap.size w w' := by
  obtain ⟨hl, hv⟩ := good_ok hg
  have h := tree_soundX (P := Try.prog) mixed (ρ := ρ) T (X := { pc := [], cr := cr ++ crS, rg := rg, ar := ar, ct := conCt rg ar cs, lp := lp, xs := xs, nm := nm, nz := nz }) (knows_env rfl hin har hxs hnm)
    ⟨fun c hc φ w hx => (by rcases List.mem_append.1 hc with hc | hc; exact hcr c hc φ w hx; exact crS_ok c hc φ w hx), fun pc hpc f vs v h _ φ w _ => conCt_ok hin.get0 har hcs hpc h φ w, hlp⟩ hT hl w hx
  rw [hv] at h
  exact h
end Go.Proofs.Ytopgidgkpafeeaa
