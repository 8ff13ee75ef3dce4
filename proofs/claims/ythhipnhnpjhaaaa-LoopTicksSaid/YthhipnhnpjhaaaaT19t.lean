/- Law 19: LoopTicks. -/
import Derived.Test.YthhipnhnpjhaaaaT19
namespace Go.Proofs.Ythhipnhnpjhaaaa
open Go Go.RowKit Ev
set_option linter.unusedVariables false
set_option linter.unusedSimpArgs false
set_option maxRecDepth 100000

def lkL : LoopSum := ⟨[(.int .i64 (.var 0)), (.int .u8 (.var 1)), (.int .u8 (.var 2)), U0, U0, U0, (.bool (.lit false)), (.ptr 1048581 0), (.int .i64 (.lit 0)), (.int .i64 (.lit 0)), U0, U0, (.int .i64 (.var 0)), (.int .i64 (.ar .quo .i64 (.var 0) (.lit 2))), (.agg [(.int .i64 (.lit 0)), (.int .i64 (.lit 0)), (.int .i64 (.lit 0)), (.int .i64 (.lit 0)), (.int .i64 (.lit 0)), (.int .i64 (.lit 0)), (.int .i64 (.ar .quo .i64 (.var 0) (.lit 2)))]), U0, U0, U0, U0, U0, U0, U0, U0, U0, U0, U0, U0, U0, U0, U0, U0, U0, U0, U0, U0, U0, U0, U0, U0, U0, U0, U0, U0, U0, U0, U0, U0, U0, U0, U0, U0, U0, U0, U0, U0, U0, U0, U0, U0, U0, U0, U0, U0, U0, U0, U0, U0, U0, U0, U0, U0, U0, U0], [(1048581, ⟨50, [(.int .i64 (.lit 0)), (.int .i64 (.lit 0)), (.int .i64 (.lit 0)), (.int .i64 (.lit 0)), (.int .i64 (.lit 0)), (.int .i64 (.lit 0)), (.int .i64 (.ar .quo .i64 (.var 0) (.lit 2)))]⟩)],
  (.exit 0), [(.int .i64 (.var 0)), (.int .u8 (.var 1)), (.int .u8 (.var 2)), U0, U0, U0, (.bool (.lit false)), (.ptr 1048581 0), .any, .any, .any, .any, (.int .i64 (.var 0)), (.int .i64 (.ar .quo .i64 (.var 0) (.lit 2))), (.agg [(.int .i64 (.lit 0)), (.int .i64 (.lit 0)), (.int .i64 (.lit 0)), (.int .i64 (.lit 0)), (.int .i64 (.lit 0)), (.int .i64 (.lit 0)), (.int .i64 (.ar .quo .i64 (.var 0) (.lit 2)))]), .any, .any, .any, .any, .any, .any, .any, .any, .any, .any, .any, .any, .any, .any, .any, .any, .any, .any, .any, .any, .any, .any, .any, .any, .any, .any, .any, .any, .any, .any, .any, .any, .any, .any, .any, .any, .any, .any, .any, .any, .any, .any, .any, .any, .any, .any, .any, .any, .any, .any, .any, .any, .any, .any, .any, .any, .any, U0], [(1048581, ⟨50, [(.int .i64 (.lit 0)), (.int .i64 (.lit 0)), (.int .i64 (.lit 0)), (.int .i64 (.lit 0)), (.int .i64 (.lit 0)), (.int .i64 (.lit 0)), (.int .i64 (.var 3))]⟩)]⟩
def lkH : St := ⟨[(.int .i64 (.var 0)), (.int .u8 (.var 1)), (.int .u8 (.var 2)), U0, U0, U0, (.bool (.lit false)), (.ptr 1048581 0), (.int .i64 (.var 5)), (.int .i64 (.var 6)), .any, .any, (.int .i64 (.var 0)), (.int .i64 (.ar .quo .i64 (.var 0) (.lit 2))), (.agg [(.int .i64 (.lit 0)), (.int .i64 (.lit 0)), (.int .i64 (.lit 0)), (.int .i64 (.lit 0)), (.int .i64 (.lit 0)), (.int .i64 (.lit 0)), (.int .i64 (.ar .quo .i64 (.var 0) (.lit 2)))]), .any, .any, .any, .any, .any, .any, .any, .any, .any, .any, .any, .any, .any, .any, .any, .any, .any, .any, .any, .any, .any, .any, .any, .any, .any, .any, .any, .any, .any, .any, .any, .any, .any, .any, .any, .any, .any, .any, .any, .any, .any, .any, .any, .any, .any, .any, .any, .any, .any, .any, .any, .any, .any, .any, .any, .any, .any, U0], [(1048581, ⟨50, [(.int .i64 (.lit 0)), (.int .i64 (.lit 0)), (.int .i64 (.lit 0)), (.int .i64 (.lit 0)), (.int .i64 (.lit 0)), (.int .i64 (.lit 0)), (.int .i64 (.var 4))]⟩)]⟩
def lkE : List IE := [(.var 0), (.var 1), (.var 2), (.var 3), (.ar .quo .i64 (.var 0) (.lit 2)), (.lit 0), (.lit 0)]
def lkB : List BE := []
def lkT : RT :=
(.node (.cmp .lss (.var 6) (.var 2))
 (.node (.cmp .lss (.lit 0) (.ap 3 (.var 4) (.pl .sub (.lit (-4)) (.mn (.mx (.ar .rem .i64 (.var 1) (.lit 20)) (.lit 4)) (.lit 17))) (.lit 0)))
 (.node (.cmp .lss (.lit 0) (.var 4))
 (.node (.cmp .lss (.mx (.var 4) (.lit 0)) (.ap 2 (.var 4) (.ap 3 (.var 4) (.pl .sub (.lit (-4)) (.mn (.mx (.ar .rem .i64 (.var 1) (.lit 20)) (.lit 4)) (.lit 17))) (.lit 0)) (.lit 0)))
 .dead
 (.node (.cmp .lss (.ap 2 (.var 4) (.ap 3 (.var 4) (.pl .sub (.lit (-4)) (.mn (.mx (.ar .rem .i64 (.var 1) (.lit 20)) (.lit 4)) (.lit 17))) (.lit 0)) (.lit 0)) (.mn (.var 4) (.lit 0)))
 .dead
 (.node (.cmp .eql (.ar .add .i64 (.ar .add .i64 (.var 5) (.ap 3 (.var 4) (.pl .sub (.lit (-4)) (.mn (.mx (.ar .rem .i64 (.var 1) (.lit 20)) (.lit 4)) (.lit 17))) (.lit 0))) (.ap 2 (.var 4) (.ap 3 (.var 4) (.pl .sub (.lit (-4)) (.mn (.mx (.ar .rem .i64 (.var 1) (.lit 20)) (.lit 4)) (.lit 17))) (.lit 0)) (.lit 0))) (.ar .quo .i64 (.var 0) (.lit 2)))
 (.go [(.var 0), (.var 1), (.var 2), (.var 3), (.ap 2 (.var 4) (.ap 3 (.var 4) (.pl .sub (.lit (-4)) (.mn (.mx (.ar .rem .i64 (.var 1) (.lit 20)) (.lit 4)) (.lit 17))) (.lit 0)) (.lit 0)), (.ar .add .i64 (.var 5) (.ap 3 (.var 4) (.pl .sub (.lit (-4)) (.mn (.mx (.ar .rem .i64 (.var 1) (.lit 20)) (.lit 4)) (.lit 17))) (.lit 0))), (.pl .add (.var 6) (.lit 1))] [])
 .dead)))
 .dead)
 (.node (.cmp .lss (.ap 3 (.var 4) (.pl .sub (.lit (-4)) (.mn (.mx (.ar .rem .i64 (.var 1) (.lit 20)) (.lit 4)) (.lit 17))) (.lit 0)) (.lit 0))
 (.node (.cmp .lss (.var 4) (.lit 0))
 (.node (.cmp .lss (.mx (.var 4) (.lit 0)) (.ap 2 (.var 4) (.ap 3 (.var 4) (.pl .sub (.lit (-4)) (.mn (.mx (.ar .rem .i64 (.var 1) (.lit 20)) (.lit 4)) (.lit 17))) (.lit 0)) (.lit 0)))
 .dead
 (.node (.cmp .lss (.ap 2 (.var 4) (.ap 3 (.var 4) (.pl .sub (.lit (-4)) (.mn (.mx (.ar .rem .i64 (.var 1) (.lit 20)) (.lit 4)) (.lit 17))) (.lit 0)) (.lit 0)) (.mn (.var 4) (.lit 0)))
 .dead
 (.node (.cmp .eql (.ar .add .i64 (.ar .add .i64 (.var 5) (.ap 3 (.var 4) (.pl .sub (.lit (-4)) (.mn (.mx (.ar .rem .i64 (.var 1) (.lit 20)) (.lit 4)) (.lit 17))) (.lit 0))) (.ap 2 (.var 4) (.ap 3 (.var 4) (.pl .sub (.lit (-4)) (.mn (.mx (.ar .rem .i64 (.var 1) (.lit 20)) (.lit 4)) (.lit 17))) (.lit 0)) (.lit 0))) (.ar .quo .i64 (.var 0) (.lit 2)))
 (.go [(.var 0), (.var 1), (.var 2), (.var 3), (.ap 2 (.var 4) (.ap 3 (.var 4) (.pl .sub (.lit (-4)) (.mn (.mx (.ar .rem .i64 (.var 1) (.lit 20)) (.lit 4)) (.lit 17))) (.lit 0)) (.lit 0)), (.ar .add .i64 (.var 5) (.ap 3 (.var 4) (.pl .sub (.lit (-4)) (.mn (.mx (.ar .rem .i64 (.var 1) (.lit 20)) (.lit 4)) (.lit 17))) (.lit 0))), (.pl .add (.var 6) (.lit 1))] [])
 .dead)))
 .dead)
 (.node (.cmp .lss (.mx (.var 4) (.lit 0)) (.ap 2 (.var 4) (.ap 3 (.var 4) (.pl .sub (.lit (-4)) (.mn (.mx (.ar .rem .i64 (.var 1) (.lit 20)) (.lit 4)) (.lit 17))) (.lit 0)) (.lit 0)))
 .dead
 (.node (.cmp .lss (.ap 2 (.var 4) (.ap 3 (.var 4) (.pl .sub (.lit (-4)) (.mn (.mx (.ar .rem .i64 (.var 1) (.lit 20)) (.lit 4)) (.lit 17))) (.lit 0)) (.lit 0)) (.mn (.var 4) (.lit 0)))
 .dead
 (.node (.cmp .eql (.ar .add .i64 (.pl .add (.var 5) (.ap 3 (.var 4) (.pl .sub (.lit (-4)) (.mn (.mx (.ar .rem .i64 (.var 1) (.lit 20)) (.lit 4)) (.lit 17))) (.lit 0))) (.ap 2 (.var 4) (.ap 3 (.var 4) (.pl .sub (.lit (-4)) (.mn (.mx (.ar .rem .i64 (.var 1) (.lit 20)) (.lit 4)) (.lit 17))) (.lit 0)) (.lit 0))) (.ar .quo .i64 (.var 0) (.lit 2)))
 (.go [(.var 0), (.var 1), (.var 2), (.var 3), (.ap 2 (.var 4) (.ap 3 (.var 4) (.pl .sub (.lit (-4)) (.mn (.mx (.ar .rem .i64 (.var 1) (.lit 20)) (.lit 4)) (.lit 17))) (.lit 0)) (.lit 0)), (.pl .add (.var 5) (.ap 3 (.var 4) (.pl .sub (.lit (-4)) (.mn (.mx (.ar .rem .i64 (.var 1) (.lit 20)) (.lit 4)) (.lit 17))) (.lit 0))), (.pl .add (.var 6) (.lit 1))] [])
 .dead)))))
 (.stop [(.var 0), (.var 1), (.var 2), (.var 4)] []))

abbrev lkR : List (Int × Int) := [i64R, (0, 255), (0, 255), i64R]
abbrev lkRl : List (Int × Int) := [i64R, (0, 255), (0, 255), i64R, i64R, i64R, (0, 255)]
noncomputable abbrev lkXr : Ctx := { pc := [], cr := k19 ++ crS, rg := lkRl, ar := arN, ct := conCt lkRl arN consN }
theorem lk_lpB : lpB Try.prog lkXr 600 13 [0, 1, 0, 1, 1, 1] 1 lkL lkH lkT lkE lkB = true := by kernel_rfl
/-- known calls and contracts are so in each environment that has the contracts' names -/
theorem knowsC_law {cr : List (FuncId × List SV × SV)} {rg : List (Int × Int)} {lp : FuncId → List Nat → Nat → Option LoopSum} {xs : List XD} {nm : List (IE × Nat)} {ρ : Env} {E : List (Nat × Nat)} (hrg : ∀ (i : Nat) v, rg[i]? = some v → v.1 ≤ ρ.i i ∧ ρ.i i ≤ v.2) (ha : ρ.a = apN) (hcr : ∀ c ∈ cr, Known Try.prog ρ c)
    (hlp : ∀ f p u L, lp f p u = some L → ∀ c, codeAt Try.prog f p = .loop c → ∀ st, (∀ q ∈ L.bl, Store.get st q.1 = some q.2) → sameIds L.bl L.bl' = true → ∀ w0 φ0 st0 a w, RelF ρ E w0 φ0 st0 ⟨L.tm, st⟩ a w → ∀ Q : Exit → Act → World → Prop, (∀ a' w', RelF ρ E w0 φ0 st0 ⟨L.tm', setAll st L.bl'⟩ a' w' → Q L.ex.to a' w') → (Code.loop c).wp Try.prog Q a w) :
    KnowsC Try.prog ρ E { pc := [], cr := cr ++ crS, rg := rg, ar := arN, ct := conCt rg arN consN, lp := lp, xs := xs, nm := nm } :=
  ⟨fun c hc φ w hx => (by rcases List.mem_append.1 hc with hc | hc; exact hcr c hc φ w hx; exact crS_ok c hc φ w hx), fun pc hpc f vs v h _ φ w _ => conCt_ok hrg (by rw [ha]; exact arN_ok) (consN_ok (numA_N ha)) hpc h φ w, hlp⟩
/-- a law with loops by its tree -/
theorem law_lp {is : List Int} {bs : List Bool} {rg : List (Int × Int)} (hin : AllIn (envOf is bs [] (ap := apN)).i rg 0) {cr : List (FuncId × List SV × SV)} (hcr : ∀ c ∈ cr, Known Try.prog (envOf is bs [] (ap := apN)) c) {lp : FuncId → List Nat → Nat → Option LoopSum}
    (hlp : ∀ f p u L, lp f p u = some L → ∀ c, codeAt Try.prog f p = .loop c → ∀ st, (∀ q ∈ L.bl, Store.get st q.1 = some q.2) → sameIds L.bl L.bl' = true → ∀ w0 φ0 st0 a w, RelF (envOf is bs [] (ap := apN)) [] w0 φ0 st0 ⟨L.tm, st⟩ a w → ∀ Q : Exit → Act → World → Prop, (∀ a' w', RelF (envOf is bs [] (ap := apN)) [] w0 φ0 st0 ⟨L.tm', setAll st L.bl'⟩ a' w' → Q L.ex.to a' w') → (Code.loop c).wp Try.prog Q a w)
    (T : Tree) {n : Nat} {f : FuncId} {args : List SV} (hT : T.check Try.prog { pc := [], cr := cr ++ crS, rg := rg, ar := arN, ct := conCt rg arN consN, lp := lp } n f args = true) (hl : T.live (envOf is bs [] (ap := apN)) = true) {v : Value} (hv : T.val (envOf is bs [] (ap := apN)) = v) (w : World) :
    Calls Try.prog f (SV.denL (envOf is bs [] (ap := apN)) id args).toArray w fun e w' => e = .returned v ∧ Below w.heap.size w w' := by
  have h := tree_sound (P := Try.prog) mixed (ρ := envOf is bs [] (ap := apN)) T (X := { pc := [], cr := cr ++ crS, rg := rg, ar := arN, ct := conCt rg arN consN, lp := lp }) (knows_env rfl hin arN_ok)
    (knowsC_law hin.get0 rfl hcr hlp) (Tree.ok_of_check hT) hl w
  rw [hv] at h
  exact h
/-- what is slewed in a second -/
theorem tick_of {r n : Int} (hr : InI r) (hn : 4 ≤ n ∧ n ≤ 17) : (0 < r → 0 ≤ apN 3 r (-4 - n) 0 ∧ apN 3 r (-4 - n) 0 ≤ r) ∧ (r < 0 → r ≤ apN 3 r (-4 - n) 0 ∧ apN 3 r (-4 - n) 0 < 0) ∧ (r = 0 → apN 3 r (-4 - n) 0 = 0) := by
  simp only [apN, if_pos (show -4 - n ≤ 0 by omega)]
  have hp : (2 : Int) ^ 8 ≤ 2 ^ (min 63 (-(-4 - n)).toNat) := by
    have := Nat.pow_le_pow_right (n := 2) (by decide) (show 8 ≤ min 63 (-(-4 - n)).toNat by omega)
    rw [pow_cast, pow_cast]
    exact Int.ofNat_le.2 this
  have e8 : (2 : Int) ^ 8 = 256 := by decide
  rw [e8] at hp
  generalize (2 : Int) ^ (min 63 (-(-4 - n)).toNat) = q at hp
  have hr1 := hr.1
  have hr2 := hr.2
  have hd : 0 < q := by omega
  have em := Int.mul_ediv_add_emod r q
  have m0 := Int.emod_nonneg r (show q ≠ 0 by omega)
  refine ⟨fun h => ?_, fun h => ?_, fun h => ?_⟩
  · have h1 := Int.ediv_nonneg (show 0 ≤ r by omega) (show 0 ≤ q by omega)
    have h2 := Int.ediv_le_self q (show 0 ≤ r by omega)
    unfold sat; omega
  · have h1 : r / q < 0 := Int.ediv_neg_of_neg_of_pos h hd
    have h2 : r ≤ r / q := by
      rw [Int.le_ediv_iff_mul_le hd]
      have : r * q ≤ r * 1 := Int.mul_le_mul_of_nonpos_left (by omega) (by omega)
      omega
    have h3 : r / q ≠ r ∨ r = -1 := by
      by_cases h4 : r / q = r
      · right
        have h5 : r * q ≤ r := by have := Int.mul_ediv_add_emod r q; rw [h4, Int.mul_comm] at this; omega
        have h6 : r * q ≤ r * 256 := Int.mul_le_mul_of_nonpos_left (by omega) hp
        have h7 : r < q := by omega
        rw [Int.mul_comm, ← h4] at h5
        have h8 := Int.emod_lt_of_pos r hd
        rw [h4, Int.mul_comm] at em
        have h9 : r * q + r % q = r := em
        have h10 : r * (q - 1) = -(r % q) := by rw [Int.mul_sub]; omega
        by_cases h11 : r = -1
        · exact h11
        · exfalso
          have h12 : r * (q - 1) ≤ -2 * (q - 1) := Int.mul_le_mul_of_nonneg_right (by omega) (by omega)
          omega
      · exact .inl h4
    unfold sat; omega
  · subst h; simp; decide
theorem half_in {r : Int} (hr : InI r) : -4611686018427387904 ≤ r.tdiv 2 ∧ r.tdiv 2 ≤ 4611686018427387903 := by
  obtain ⟨h1, h2⟩ := hr
  by_cases h : 0 ≤ r
  · rw [Int.tdiv_eq_ediv_of_nonneg h]; omega
  · have e : r.tdiv 2 = -((-r).tdiv 2) := by rw [Int.neg_tdiv, Int.neg_neg]
    rw [e, Int.tdiv_eq_ediv_of_nonneg (by omega)]; omega
theorem half_quo {r : Int} (hr : InI r) : arI .quo .i64 r 2 = r.tdiv 2 := by
  have h := half_in hr
  show IntKind.i64.wrap (r.tdiv 2) = _
  rw [IntKind.wrap_i64]
  generalize r.tdiv 2 = q at *
  omega
/-- what is left behind some seconds -/
noncomputable def restIt (n r : Int) : Nat → Int
  | 0 => r
  | k + 1 => restIt n r k - apN 3 (restIt n r k) (-4 - n) 0
theorem restIt_in {n r : Int} (hr : -4611686018427387904 ≤ r ∧ r ≤ 4611686018427387904) (hn : 4 ≤ n ∧ n ≤ 17) : ∀ k, min r 0 ≤ restIt n r k ∧ restIt n r k ≤ max r 0
  | 0 => by simp only [restIt]; omega
  | k + 1 => by
    have h := restIt_in hr hn k
    obtain ⟨t1, t2, t3⟩ := tick_of (r := restIt n r k) (n := n) ⟨by omega, by omega⟩ hn
    simp only [restIt]
    omega
abbrev lkKK : IE := .pl .sub (.lit (-4)) (.mn (.mx (.ar .rem .i64 (.var 1) (.lit 20)) (.lit 4)) (.lit 17))
theorem lk_round {ρ : Env} (ha : ρ.a = apN) {r0 p m x rest sum : Int} {i : Nat} (hr0 : InI r0) (hp : 0 ≤ p ∧ p ≤ 255) (hm : m ≤ 255) (hi : (i : Int) < m) (hrest : min (r0.tdiv 2) 0 ≤ rest ∧ rest ≤ max (r0.tdiv 2) 0) (hsum : sum + rest = r0.tdiv 2) :
    lkT.next (ρ.on [r0, p, m, x, rest, sum, i] []) = some ([r0, p, m, x, rest - apN 3 rest (-4 - mnI (mxI (p.tmod 20) 4) 17) 0, sum + apN 3 rest (-4 - mnI (mxI (p.tmod 20) 4) 17) 0, (i : Int) + 1], []) := by
  have hn : 4 ≤ mnI (mxI (p.tmod 20) 4) 17 ∧ mnI (mxI (p.tmod 20) 4) 17 ≤ 17 := by unfold mnI mxI; split <;> split <;> omega
  have hq : -4611686018427387904 ≤ r0.tdiv 2 ∧ r0.tdiv 2 ≤ 4611686018427387903 := half_in hr0
  simp only [lkT, RT.next, BE.den, cmpI, IE.den, Env.on, List.getD_cons_zero, List.getD_cons_succ, dens, bdens, List.map_cons, List.map_nil, ha]
  have erem : arI .rem .i64 p 20 = p.tmod 20 := rfl
  have equo := half_quo hr0
  have esub : ∀ y : Int, plI .sub (-4) y = -4 - y := fun _ => rfl
  have eadd : ∀ y z : Int, plI .add y z = y + z := fun _ _ => rfl
  rw [erem, equo]
  generalize mnI (mxI (p.tmod 20) 4) 17 = n at hn ⊢
  rw [esub]
  obtain ⟨t1, t2, t3⟩ := tick_of (r := rest) (n := n) ⟨by omega, by omega⟩ hn
  generalize apN 3 rest (-4 - n) 0 = F at *
  generalize r0.tdiv 2 = q at *
  have e2 : apN 2 rest F 0 = rest - F := by simp only [apN]; unfold sat; omega
  have wr : ∀ y : Int, -9223372036854775808 ≤ y → y ≤ 9223372036854775807 → IntKind.i64.wrap y = y := fun y h1 h2 => by rw [IntKind.wrap_i64]; omega
  have a1 : arI .add .i64 sum F = sum + F := wr _ (by omega) (by omega)
  have a2 : arI .add .i64 (sum + F) (rest - F) = q := by
    show IntKind.i64.wrap (sum + F + (rest - F)) = q
    rw [wr _ (by omega) (by omega)]; omega
  have mx0 : mxI rest 0 = max rest 0 := by unfold mxI; split <;> omega
  have mn0 : mnI rest 0 = min rest 0 := by unfold mnI; split <;> omega
  rw [e2, a1, a2, mx0, mn0, decide_eq_true hi, cond_true, decide_eq_false (show ¬ max rest 0 < rest - F by omega), decide_eq_false (show ¬ rest - F < min rest 0 by omega), eadd, eadd, a2]
  simp only [cond_false, beq_self_eq_true, cond_true]
  by_cases c1 : 0 < F
  · rw [decide_eq_true c1, cond_true, decide_eq_true (show 0 < rest by omega), cond_true]
  · rw [decide_eq_false c1, cond_false]
    by_cases c2 : F < 0
    · rw [decide_eq_true c2, cond_true, decide_eq_true (show rest < 0 by omega), cond_true]
    · rw [decide_eq_false c2, cond_false]
theorem lk_loop (r p m : Int) (hr : InI r) (hp : 0 ≤ p ∧ p ≤ 255) (hm : 0 ≤ m ∧ m ≤ 255) {E : List (Nat × Nat)} {w0 : World} {φ0 : Nat → Nat} {st0 : Store} {c : Code} (hc : codeAt Try.prog 13 [0, 1, 0, 1, 1, 1] = .loop c) {st : Store} (hbl : ∀ q ∈ lkL.bl, Store.get st q.1 = some q.2) {a : Act} {w : World}
    (hr' : RelF (envOf [r, p, m, restIt (mnI (mxI (p.tmod 20) 4) 17) (r.tdiv 2) m.toNat] [] [] (ap := apN)) E w0 φ0 st0 ⟨lkL.tm, st⟩ a w) {Q : Exit → Act → World → Prop} (hQ : ∀ a' w', RelF (envOf [r, p, m, restIt (mnI (mxI (p.tmod 20) 4) 17) (r.tdiv 2) m.toNat] [] [] (ap := apN)) E w0 φ0 st0 ⟨lkL.tm', setAll st lkL.bl'⟩ a' w' → Q lkL.ex.to a' w') : (Code.loop c).wp Try.prog Q a w := by
  have hn : 4 ≤ mnI (mxI (p.tmod 20) 4) 17 ∧ mnI (mxI (p.tmod 20) 4) 17 ≤ 17 := by unfold mnI mxI; split <;> split <;> omega
  have hq : -4611686018427387904 ≤ r.tdiv 2 ∧ r.tdiv 2 ≤ 4611686018427387903 := half_in hr
  have hb := restIt_in (r := r.tdiv 2) (by omega) hn
  generalize hN : mnI (mxI (p.tmod 20) 4) 17 = n at *
  refine rt_lp mixed lk_lpB hc (fun k is bs => ∃ i : Nat, (i : Int) ≤ m ∧ k = m.toNat - i ∧ bs = [] ∧ is = [r, p, m, restIt n (r.tdiv 2) m.toNat, restIt n (r.tdiv 2) i, r.tdiv 2 - restIt n (r.tdiv 2) i, (i : Int)]) ?_ ?_ ⟨m.toNat, 0, by omega, rfl, rfl, ?_⟩ ?_ hbl hr' hQ
  · rintro k is bs ⟨i, hi, _, _, rfl⟩
    have h1 := hb i
    have h2 := hb m.toNat
    refine knows_env rfl ?_ arN_ok
    simp only [AllIn, Env.on, List.getD_cons_zero, List.getD_cons_succ]
    exact ⟨hr, hp, hm, ⟨by omega, by omega⟩, ⟨by omega, by omega⟩, ⟨by omega, by omega⟩, ⟨by omega, by omega⟩, trivial⟩
  · rintro k is bs ⟨i, hi, _, _, rfl⟩ E
    have h1 := hb i
    have h2 := hb m.toNat
    refine knowsC_law (rg := lkRl) (AllIn.get0 ?_) rfl k19_ok (fun f p u L h => by cases h)
    simp only [AllIn, Env.on, List.getD_cons_zero, List.getD_cons_succ]
    exact ⟨hr, hp, hm, ⟨by omega, by omega⟩, ⟨by omega, by omega⟩, ⟨by omega, by omega⟩, ⟨by omega, by omega⟩, trivial⟩
  · have equo := half_quo hr
    simp only [lkE, dens, List.map_cons, List.map_nil, IE.den, List.getD_cons_zero, List.getD_cons_succ, restIt, equo]
    rw [show r.tdiv 2 - r.tdiv 2 = 0 by omega]
    rfl
  · rintro k is bs ⟨i, hi, rfl, rfl, rfl⟩
    by_cases hlt : (i : Int) < m
    · have h1 := lk_round (ρ := envOf [r, p, m, restIt n (r.tdiv 2) m.toNat] [] [] (ap := apN)) rfl (x := restIt n (r.tdiv 2) m.toNat) hr hp hm.2 hlt (hb i) (sum := r.tdiv 2 - restIt n (r.tdiv 2) i) (by omega)
      rw [hN] at h1
      refine .inl ⟨_, _, m.toNat - (i + 1), h1, by omega, i + 1, by omega, rfl, rfl, ?_⟩
      simp only [restIt]
      rw [show r.tdiv 2 - restIt n (r.tdiv 2) i + apN 3 (restIt n (r.tdiv 2) i) (-4 - n) 0 = r.tdiv 2 - (restIt n (r.tdiv 2) i - apN 3 (restIt n (r.tdiv 2) i) (-4 - n) 0) by omega]
      rfl
    · have him : m.toNat = i := by omega
      refine .inr ⟨[r, p, m, restIt n (r.tdiv 2) i], [], ?_, has_of (fun j x hx => ?_) rfl⟩
      · simp only [lkT, RT.out, BE.den, cmpI, IE.den, Env.on, List.getD_cons_zero, List.getD_cons_succ, decide_eq_false hlt, cond_false, dens, bdens, List.map_cons, List.map_nil]
      · rw [← him] at hx
        exact (envOf_has [r, p, m, restIt n (r.tdiv 2) m.toNat] [] [] [] apN []).1 j x hx
theorem loopTicks_walk (r p m : Int) (hr : InI r) (hp : 0 ≤ p ∧ p ≤ 255) (hm : 0 ≤ m ∧ m ≤ 255) (w : World) :
    Calls Try.prog 13 #[.int .i64 r, .int .u8 p, .int .u8 m] w fun e w' => e = .returned (.bool true) ∧ Below w.heap.size w w' := by
  have hn : 4 ≤ mnI (mxI (p.tmod 20) 4) 17 ∧ mnI (mxI (p.tmod 20) 4) 17 ≤ 17 := by unfold mnI mxI; split <;> split <;> omega
  have hq : -4611686018427387904 ≤ r.tdiv 2 ∧ r.tdiv 2 ≤ 4611686018427387903 := half_in hr
  have hb := restIt_in (r := r.tdiv 2) (by omega) hn m.toNat
  refine law_lp (is := [r, p, m, restIt (mnI (mxI (p.tmod 20) 4) 17) (r.tdiv 2) m.toNat]) (bs := []) (rg := lkR) (args := [.int .i64 (.var 0), .int .u8 (.var 1), .int .u8 (.var 2)]) ⟨hr, hp, hm, ⟨by show (-9223372036854775808 : Int) ≤ restIt _ _ _; omega, by show restIt _ _ _ ≤ (9223372036854775807 : Int); omega⟩, trivial⟩ (cr := k19) k19_ok
    (lp := fun f p _ => if Nat.beq f 13 && decide (p = [0, 1, 0, 1, 1, 1]) then some lkL else none) ?_ (.leaf (.bool (.lit true))) (n := 600) (by kernel_rfl) rfl rfl w
  intro f p' u L hL c hc st hbl _ w0 φ0 st0 a w hr' Q hQ
  split at hL
  · rename_i hfp
    simp only [Bool.and_eq_true, Nat.beq_eq, decide_eq_true_eq] at hfp
    obtain ⟨rfl, rfl⟩ := hfp
    cases hL
    exact lk_loop r p m hr hp hm hc hbl hr' hQ
  · cases hL
end Go.Proofs.Ythhipnhnpjhaaaa
