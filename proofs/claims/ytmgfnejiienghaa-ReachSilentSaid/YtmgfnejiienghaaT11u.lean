/- Law 11: ReachSilent: its loops' sums hold. -/
import Derived.Test.YtmgfnejiienghaaT11t
namespace Go.Proofs.Ytmgfnejiienghaa
open Go Go.RowKit Ev
set_option linter.unusedVariables false
set_option linter.unusedSimpArgs false
set_option maxRecDepth 100000

/-- how many answered questions come first -/
def rsN (v : Int) : Nat := (v % 20).toNat
/-- the state behind them, and behind the last answer -/
def rsS1 (v : Int) : RcS := rcA (rsN v)
def rsS2 (v : Int) : RcS := ⟨rcO (rsS1 v).g, (rsS1 v).h, 10, (rsS1 v).x⟩
theorem rsN_le (v : Int) : rsN v ≤ 19 := by unfold rsN; omega
theorem rsS1_in (v : Int) : (rsS1 v).In (rsN v) := rcA_in _ (by have := rsN_le v; omega)
theorem rsS2_in (v : Int) : (rsS2 v).In (rsN v) := by
  have i := rsS1_in v
  exact ⟨rcO_in i.g, i.h, ⟨by show (6 : Int) ≤ 10; omega, Int.le_refl _⟩, i.x⟩
noncomputable abbrev rsLaw (dr : Int → Int) (n v : Int) : List Int := [n, v, (rsS1 v).g, (rsS1 v).h, (rsS1 v).p, (rsS1 v).x, (rcB (rsS2 v) dr n.toNat).g, (rcB (rsS2 v) dr n.toNat).h, (rcB (rsS2 v) dr n.toNat).x]
noncomputable abbrev rsHd (dr : Int → Int) (n v : Int) (k : Nat) : List Int := rsLaw dr n v ++ [(rcA k).g, (rcA k).h, (rcA k).p, (rcA k).x, (k : Int)]
noncomputable abbrev rsSt (dr : Int → Int) (n v : Int) (k : Nat) : List Int := rsHd dr n v k ++ [rcG (rcA k).g, rcH (rcG (rcA k).g) (rcA k).h, (rcA k).p, rcX (min (rcH (rcG (rcA k).g) (rcA k).h) (rcA k).p) (rcA k).x 0]
noncomputable abbrev rtHd (dr : Int → Int) (n v : Int) (k : Nat) : List Int := rsLaw dr n v ++ [(rcB (rsS2 v) dr k).g, (rcB (rsS2 v) dr k).h, (rcB (rsS2 v) dr k).x, (k : Int)]
noncomputable abbrev rtSt (dr : Int → Int) (n v : Int) (k : Nat) : List Int := rtHd dr n v k ++ [(rcB (rsS2 v) dr (k + 1)).g, (rcB (rsS2 v) dr (k + 1)).h, (rcB (rsS2 v) dr (k + 1)).x]
theorem rs_arIn {ρ : Env} {dr : Int → Int} (ha : ρ.a = apR [dr]) (ho : ∀ a, 0 ≤ dr a ∧ dr a ≤ 4294967295) : ArIn ρ rsAr := by
  refine arIn_R ha (fun i v h a => ?_)
  rcases i with _ | i <;> simp at h
  subst h
  exact ho a
theorem x_in {x : Int} {k : Nat} (hk : k ≤ 1000) (h : 0 ≤ x ∧ x ≤ k * 8796093022208) : InI x := ⟨by omega, by omega⟩
theorem rsLaw_rg {ρ : Env} {dr : Int → Int} {n v : Int} (hd : ∀ a, 0 ≤ dr a ∧ dr a ≤ 4294967295) (hn : 1 ≤ n ∧ n ≤ 200) (hv : 0 ≤ v ∧ v ≤ 255) :
    (1 ≤ n ∧ n ≤ 200) ∧ (0 ≤ v ∧ v ≤ 255) ∧ (0 ≤ (rsS1 v).g ∧ (rsS1 v).g ≤ 255) ∧ (6 ≤ (rsS1 v).h ∧ (rsS1 v).h ≤ 10) ∧ (6 ≤ (rsS1 v).p ∧ (rsS1 v).p ≤ 10) ∧ InI (rsS1 v).x ∧ (0 ≤ (rcB (rsS2 v) dr n.toNat).g ∧ (rcB (rsS2 v) dr n.toNat).g ≤ 255) ∧ (6 ≤ (rcB (rsS2 v) dr n.toNat).h ∧ (rcB (rsS2 v) dr n.toNat).h ≤ 10) ∧ InI (rcB (rsS2 v) dr n.toNat).x := by
  have l := rsN_le v
  have i := rsS1_in v
  have j := rcB_in (rsS2_in v) hd n.toNat (by omega)
  exact ⟨hn, hv, i.g, i.h, i.p, x_in (by omega) i.x, j.g, j.h, x_in (by omega) j.x⟩
theorem rs_rg {ρ : Env} {dr : Int → Int} {n v : Int} (hd : ∀ a, 0 ≤ dr a ∧ dr a ≤ 4294967295) (hn : 1 ≤ n ∧ n ≤ 200) (hv : 0 ≤ v ∧ v ≤ 255) {k : Nat} (hk : k ≤ 19) (bs : List Bool) : AllIn (ρ.on (rsSt dr n v k) bs).i rsRx 0 := by
  obtain ⟨l0, l1, l2, l3, l4, l5, l6, l7, l8⟩ := rsLaw_rg (ρ := ρ) hd hn hv
  have i := rcA_in k (by omega)
  have j := rcA_in (k + 1) (by omega)
  simp only [AllIn, Env.on, rsSt, rsHd, rsLaw, List.cons_append, List.nil_append, List.getD_cons_zero, List.getD_cons_succ]
  exact ⟨l0, l1, l2, l3, l4, l5, l6, l7, l8, i.g, i.h, i.p, x_in (by omega) i.x, ⟨by omega, by omega⟩, rcG_in _, (rcH_in i.h).1, i.p, x_in (by omega) j.x, trivial⟩
theorem rt_rg {ρ : Env} {dr : Int → Int} {n v : Int} (hd : ∀ a, 0 ≤ dr a ∧ dr a ≤ 4294967295) (hn : 1 ≤ n ∧ n ≤ 200) (hv : 0 ≤ v ∧ v ≤ 255) {k : Nat} (hk : (k : Int) ≤ n) (bs : List Bool) : AllIn (ρ.on (rtSt dr n v k) bs).i rtRx 0 := by
  obtain ⟨l0, l1, l2, l3, l4, l5, l6, l7, l8⟩ := rsLaw_rg (ρ := ρ) hd hn hv
  have l := rsN_le v
  have i := rcB_in (rsS2_in v) hd k (by omega)
  have j := rcB_in (rsS2_in v) hd (k + 1) (by omega)
  simp only [AllIn, Env.on, rtSt, rtHd, rsLaw, List.cons_append, List.nil_append, List.getD_cons_zero, List.getD_cons_succ]
  exact ⟨l0, l1, l2, l3, l4, l5, l6, l7, l8, i.g, i.h, x_in (by omega) i.x, ⟨by omega, by omega⟩, j.g, j.h, x_in (by omega) j.x, trivial⟩
theorem rem20 {v : Int} (hv : 0 ≤ v ∧ v ≤ 255) : arI .rem .i64 v 20 = (rsN v : Int) := by
  obtain ⟨n, rfl⟩ : ∃ n : Nat, v = n := ⟨v.toNat, by omega⟩
  have key : ∀ n : Nat, n < 256 → arI .rem .i64 (n : Int) 20 = (rsN n : Int) := by decide
  exact key n (by omega)
theorem rs_next {ρ : Env} {dr : Int → Int} {n v : Int} (hv : 0 ≤ v ∧ v ≤ 255) {k : Nat} (hk : k < rsN v) :
    rsT.next (ρ.on (rsSt dr n v k) []) = some (rsHd dr n v (k + 1), []) := by
  simp only [rsT, RT.next, BE.den, cmpI, IE.den, Env.on, rsSt, rsHd, rsLaw, List.cons_append, List.nil_append, List.getD_cons_zero, List.getD_cons_succ, dens, bdens, List.map_cons, List.map_nil, rem20 hv, or_rc (rcG_in _)]
  rw [decide_eq_true (by omega), cond_true]
  rfl
theorem rt_next {ρ : Env} {dr : Int → Int} {n v : Int} (hd : ∀ a, 0 ≤ dr a ∧ dr a ≤ 4294967295) (hn : 1 ≤ n ∧ n ≤ 200) {k : Nat} (hk : (k : Int) < n) :
    rtT.next (ρ.on (rtSt dr n v k) []) = some (rtHd dr n v (k + 1), []) := by
  have l := rsN_le v
  obtain ⟨c1, c2, c3, c4⟩ := rcB_ok (rsS2_in v) hd k (by omega)
  simp only [rtT, RT.next, BE.den, cmpI, IE.den, Env.on, rtSt, rtHd, rsLaw, List.cons_append, List.nil_append, List.getD_cons_zero, List.getD_cons_succ, dens, bdens, List.map_cons, List.map_nil]
  rw [decide_eq_true hk, cond_true, decide_eq_false (by omega), cond_false, decide_eq_true c2, cond_true]
  by_cases h7 : (k : Int) < 7
  · rw [decide_eq_true h7, cond_true]; rfl
  · rw [decide_eq_false h7, cond_false, c3 (by omega)]
    rw [show (tabI popL 0 == 0) = true from rfl, cond_true]
    by_cases h40 : (k : Int) < 40
    · rw [decide_eq_true h40, cond_true, ← c3 (by omega)]; rfl
    · rw [decide_eq_false h40, cond_false, c4 (by omega), show ((10 : Int) == 10) = true from rfl, cond_true, ← c3 (by omega), ← c4 (by omega)]; rfl
end Go.Proofs.Ytmgfnejiienghaa
