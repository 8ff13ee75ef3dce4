/- Several texts in one. -/
import Derived.Test.YtopgidgkpafeeaaM29
import Derived.Test.YtopgidgkpafeeaaM32
/- Law 18: CombineMeans: the sums of the document's Mean and Jitter, of the program's Jitter. -/
namespace Go.Proofs.Ytopgidgkpafeeaa
open Go Go.RowKit Ev
set_option linter.unusedVariables false
set_option linter.unusedSimpArgs false
set_option maxRecDepth 100000
set_option maxHeartbeats 0
/-- the sum of the squares, weighed -/
noncomputable def jD (all : List (Int → Int)) (ab : Int) (i : Nat) : Int := apN 4 (apN 2 (mOf all 0 i) ab 0) (apN 2 (mOf all 0 i) ab 0) 0
noncomputable def jS (all : List (Int → Int)) (ab : Int) : Nat → Int
  | 0 => 0
  | i + 1 => sat (jS all ab i + apN 4 (mWt (mOf all 1 i)) (jD all ab i) 0)
theorem jS_in {all : List (Int → Int)} {ab : Int} : ∀ i, -9223372036854775807 ≤ jS all ab i ∧ jS all ab i ≤ 9223372036854775807
  | 0 => sat_zero
  | i + 1 => sat_in _
theorem inI0 : InI 0 := by unfold InI; decide
section
variable {W : World} {v v1 : Value} {B C : Ext} {rows cols : List (Int → Int)}
noncomputable def jtEv (B C : Ext) (all : List (Int → Int)) (lo hi : Int) : Env := envOf [(B.len : Int), (C.len : Int), lo, hi, mW all (min B.len C.len), jS all lo (min B.len C.len)] (ap := apR all) (xs := [some B, some C])
theorem jt_in (hB : XAny [.int .i64] W v B rows) (hC : XAny [.int .i64] W v1 C cols) (hl : B.len ≤ 60) (hg : C.len ≤ 60) {lo hi : Int} (h1 : InI lo) (h2 : InI hi) : AllIn (jtEv B C (rows ++ cols) lo hi).i mRl 0 := by
  refine ⟨?_, ?_, h1, h2, mW_in _, jS_in _, trivial⟩
  · show (0 : Int) ≤ (B.len : Nat) ∧ ((B.len : Nat) : Int) ≤ 60
    omega
  · show (0 : Int) ≤ (C.len : Nat) ∧ ((C.len : Nat) : Int) ≤ 60
    omega
end
def zrmL : LoopSum := ⟨[(.xs 0), (.xs 1), (.agg [(.int .i64 (.var 2)), (.int .i64 (.var 3))]), (.raw (.tuple #[])), (.raw (.tuple #[])), (.ptr 1048577 0), (.int .i64 (.lit 0)), (.int .i64 (.lit 0)), (.int .i64 (.lit 0)), (.int .i64 (.lit 0)), (.raw (.tuple #[])), (.raw (.tuple #[])), (.raw (.tuple #[])), (.raw (.tuple #[])), (.raw (.tuple #[])), (.raw (.tuple #[])), (.raw (.tuple #[])), (.raw (.tuple #[])), (.raw (.tuple #[])), (.raw (.tuple #[])), (.raw (.tuple #[])), (.raw (.tuple #[])), (.raw (.tuple #[])), (.raw (.tuple #[])), (.raw (.tuple #[])), (.raw (.tuple #[])), (.raw (.tuple #[])), (.raw (.tuple #[])), (.raw (.tuple #[])), (.raw (.tuple #[])), (.raw (.tuple #[])), (.raw (.tuple #[])), (.raw (.tuple #[])), (.raw (.tuple #[])), (.raw (.tuple #[])), (.raw (.tuple #[])), (.raw (.tuple #[])), (.raw (.tuple #[])), (.raw (.tuple #[])), (.raw (.tuple #[])), (.raw (.tuple #[])), (.raw (.tuple #[])), (.raw (.tuple #[])), (.raw (.tuple #[])), (.raw (.tuple #[])), (.raw (.tuple #[]))], [(1048577, ⟨42, [(.int .i64 (.var 2)), (.int .i64 (.var 3))]⟩)],
  (.exit 0), [(.xs 0), (.xs 1), (.agg [(.int .i64 (.var 2)), (.int .i64 (.var 3))]), (.raw (.tuple #[])), (.raw (.tuple #[])), (.ptr 1048577 0), (.int .i64 (.lit 0)), (.int .i64 (.var 5)), (.int .i64 (.var 4)), .any, .any, .any, .any, .any, .any, .any, .any, .any, .any, .any, .any, .any, .any, .any, .any, .any, .any, .any, .any, .any, .any, .any, .any, .any, .any, .any, .any, .any, (.raw (.tuple #[])), (.raw (.tuple #[])), (.raw (.tuple #[])), (.raw (.tuple #[])), (.raw (.tuple #[])), (.raw (.tuple #[])), (.raw (.tuple #[])), (.raw (.tuple #[]))], [(1048577, ⟨42, [(.int .i64 (.var 2)), (.int .i64 (.var 3))]⟩)]⟩
def zrmH : St := ⟨Tm.ofL [(.xs 0), (.xs 1), (.agg [(.int .i64 (.var 2)), (.int .i64 (.var 3))]), (.raw (.tuple #[])), (.raw (.tuple #[])), (.ptr 1048577 0), (.int .i64 (.lit 0)), (.int .i64 (.var 6)), (.int .i64 (.var 7)), (.int .i64 (.var 8)), .any, .any, .any, .any, .any, .any, .any, .any, .any, .any, .any, .any, .any, .any, .any, .any, .any, .any, .any, .any, .any, .any, .any, .any, .any, .any, .any, .any, (.raw (.tuple #[])), (.raw (.tuple #[])), (.raw (.tuple #[])), (.raw (.tuple #[])), (.raw (.tuple #[])), (.raw (.tuple #[])), (.raw (.tuple #[])), (.raw (.tuple #[]))], [(1048577, ⟨42, [(.int .i64 (.var 2)), (.int .i64 (.var 3))]⟩)]⟩
def zrmE : List IE := [(.var 0), (.var 1), (.var 2), (.var 3), (.var 4), (.var 5), (.lit 0), (.lit 0), (.lit 0)]
def zrmB : List BE := []
def zrmT : RT :=
(.node (.cmp .lss (.var 8) (.mn (.var 0) (.var 1)))
 (.node (.cmp .lss (.var 8) (.var 0))
 (.node (.cmp .lss (.var 8) (.var 1))
 (.go [(.var 0), (.var 1), (.var 2), (.var 3), (.var 4), (.var 5), (.ap 1 (.var 6) (.ap 4 (.ap 20 (.var 8) (.lit 0) (.lit 0)) (.mx (.lit 1) (.ap 8 (.lit 4294967296) (.mx (.ap 21 (.var 8) (.lit 0) (.lit 0)) (.lit 21474836)) (.lit 0))) (.lit 0)) (.lit 0)), (.ap 1 (.var 7) (.mx (.lit 1) (.ap 8 (.lit 4294967296) (.mx (.ap 21 (.var 8) (.lit 0) (.lit 0)) (.lit 21474836)) (.lit 0))) (.lit 0)), (.pl .add (.var 8) (.lit 1))] [])
 .dead)
 .dead)
 (.stop [(.var 0), (.var 1), (.var 2), (.var 3), (.var 7), (.var 6)] []))
noncomputable def zrmX : Ctx := { pc := [], cr := crS, rg := mRg, ar := mAr, ct := conCt mRg mAr consR, xs := mXs }
abbrev zrmP : List Nat := [0, 1, 0, 1, 1, 1]
theorem zrm_B : lpB Try.prog zrmX 2000 40 zrmP 3 zrmL zrmH zrmT zrmE zrmB = true := by kernel_rfl
section
variable {W : World} {v v1 : Value} {B C : Ext} {rows cols : List (Int → Int)}
theorem zrm_loop (hB : XAny [.int .i64] W v B rows) (hC : XAny [.int .i64] W v1 C cols) (hl : B.len ≤ 60) (hg : C.len ≤ 60) {lo hi : Int} (h1 : InI lo) (h2 : InI hi) {c : Code} (hc : codeAt Try.prog 40 zrmP = .loop c) (E : List (Nat × Nat)) : LoopGoes Try.prog (mnEv B C (rows ++ cols) lo hi) E zrmL c := by
  have hin := mn_in hB hC hl hg h1 h2
  refine rt_lpg mixed zrm_B hc (ρ := mnEv B C (rows ++ cols) lo hi) (fun n is bs => ∃ i : Nat, n + i = min B.len C.len ∧ is = [(B.len : Int), (C.len : Int), lo, hi, mW (rows ++ cols) (min B.len C.len), mS (rows ++ cols) (min B.len C.len), mS (rows ++ cols) i, mW (rows ++ cols) i, (i : Int)] ∧ bs = []) ?_ ?_ ?_ ?_
  · rintro n is bs ⟨i, hi0, rfl, rfl⟩
    refine knows_env rfl ?_ (mArIn hB hC rfl) (mXok hB hC rfl rfl rfl rfl)
    exact ⟨hin.1, hin.2.1, h1, h2, mW_in _, mS_in _, mS_in _, mW_in _, ⟨by show (0 : Int) ≤ (i : Nat); omega, by show ((i : Nat) : Int) ≤ 60; omega⟩, trivial⟩
  · rintro n is bs ⟨i, hi0, rfl, rfl⟩ E
    have hAll : AllIn ((mnEv B C (rows ++ cols) lo hi).on [(B.len : Int), (C.len : Int), lo, hi, mW (rows ++ cols) (min B.len C.len), mS (rows ++ cols) (min B.len C.len), mS (rows ++ cols) i, mW (rows ++ cols) i, (i : Int)] []).i mRg 0 := ⟨hin.1, hin.2.1, h1, h2, mW_in _, mS_in _, mS_in _, mW_in _, ⟨by show (0 : Int) ≤ (i : Nat); omega, by show ((i : Nat) : Int) ≤ 60; omega⟩, trivial⟩
    exact ⟨fun q hq φ w hx => crS_ok q hq φ w hx, fun pc hpc f vs v h _ φ w _ => conCt_ok hAll.get0 (mArIn hB hC rfl) (consR_ok (numA_R rfl)) hpc h φ w, fun f p u L h => (by cases h)⟩
  · exact ⟨min B.len C.len, _, _, ⟨0, rfl, rfl, rfl⟩, List.prefix_rfl, List.prefix_rfl⟩
  · rintro n is bs ⟨i, hi0, rfl, rfl⟩
    generalize hρ : (mnEv B C (rows ++ cols) lo hi).on [(B.len : Int), (C.len : Int), lo, hi, mW (rows ++ cols) (min B.len C.len), mS (rows ++ cols) (min B.len C.len), mS (rows ++ cols) i, mW (rows ++ cols) i, (i : Int)] [] = ρ'
    have g : ∀ k x, ([(B.len : Int), (C.len : Int), lo, hi, mW (rows ++ cols) (min B.len C.len), mS (rows ++ cols) (min B.len C.len), mS (rows ++ cols) i, mW (rows ++ cols) i, (i : Int)] : List Int)[k]? = some x → ρ'.i k = x := fun k x h => by
      rw [← hρ]
      show List.getD _ _ _ = _
      rw [List.getD_eq_getElem?_getD, h]; rfl
    have ha : ρ'.a = apR (rows ++ cols) := by rw [← hρ]; rfl
    have hmn : mnI (B.len : Int) (C.len : Int) = ((min B.len C.len : Nat) : Int) := by unfold mnI; split <;> omega
    by_cases hlt : i < min B.len C.len
    · left
      refine ⟨_, _, n - 1, _, _, ?_, by omega, ⟨i + 1, by omega, rfl, rfl⟩, List.prefix_rfl, List.prefix_rfl⟩
      have e : zrmT.next ρ' = cond (decide (ρ'.i 8 < mnI (ρ'.i 0) (ρ'.i 1))) (cond (decide (ρ'.i 8 < ρ'.i 0)) (cond (decide (ρ'.i 8 < ρ'.i 1)) (some ([ρ'.i 0, ρ'.i 1, ρ'.i 2, ρ'.i 3, ρ'.i 4, ρ'.i 5, (ρ'.a 1 (ρ'.i 6) ((ρ'.a 4 ((ρ'.a 20 (ρ'.i 8) (0) (0))) ((mxI (1) ((ρ'.a 8 (4294967296) ((mxI ((ρ'.a 21 (ρ'.i 8) (0) (0))) (21474836))) (0))))) (0))) (0)), (ρ'.a 1 (ρ'.i 7) ((mxI (1) ((ρ'.a 8 (4294967296) ((mxI ((ρ'.a 21 (ρ'.i 8) (0) (0))) (21474836))) (0))))) (0)), (ρ'.i 8 + 1)], [])) none) none) none := rfl
      rw [e, ha, g 0 _ rfl, g 1 _ rfl, g 2 _ rfl, g 3 _ rfl, g 4 _ rfl, g 5 _ rfl, g 6 _ rfl, g 7 _ rfl, g 8 _ rfl, show apR (rows ++ cols) 21 (i : Int) 0 0 = _ from apR_of (c := 1), show apR (rows ++ cols) 20 (i : Int) 0 0 = _ from apR_of (c := 0), hmn, decide_eq_true (by omega), decide_eq_true (by omega), decide_eq_true (by omega), mxI_comm 1]
      rfl
    · right
      have hii : i = min B.len C.len := by omega
      have e : zrmT.out ρ' = cond (decide (ρ'.i 8 < mnI (ρ'.i 0) (ρ'.i 1))) (cond (decide (ρ'.i 8 < ρ'.i 0)) (cond (decide (ρ'.i 8 < ρ'.i 1)) none none) none) (some ([ρ'.i 0, ρ'.i 1, ρ'.i 2, ρ'.i 3, ρ'.i 7, ρ'.i 6], [])) := rfl
      rw [e, g 0 _ rfl, g 1 _ rfl, g 2 _ rfl, g 3 _ rfl, g 6 _ rfl, g 7 _ rfl, g 8 _ rfl, hmn, decide_eq_false (by omega)]
      refine ⟨_, _, rfl, ?_⟩
      rw [hii]
      exact envOf_has_pre List.prefix_rfl List.prefix_rfl
def zrmLp (f : FuncId) (p : List Nat) (_ : Nat) : Option LoopSum := if Nat.beq f 40 && decide (p = zrmP) then some zrmL else none
theorem zrm_known (hB : XAny [.int .i64] W v B rows) (hC : XAny [.int .i64] W v1 C cols) (hl : B.len ≤ 60) (hg : C.len ≤ 60) {ρ : Env} (hx : ρ.x = fun n => [some B, some C].getD n none) {lo hi r : IE} (h1 : InI (lo.den ρ)) (h2 : InI (hi.den ρ)) (hr : r.den ρ = apN 10 (apN 8 (mS (rows ++ cols) (min B.len C.len)) (mW (rows ++ cols) (min B.len C.len)) 0) (lo.den ρ) (hi.den ρ)) : Known Try.prog ρ (40, [.xs 0, .xs 1, .agg [.int .i64 lo, .int .i64 hi]], .int .i64 r) := by
  intro φ w hw
  have hin := mn_in hB hC hl hg h1 h2
  have h := tree_soundX (P := Try.prog) mixed (ρ := mnEv B C (rows ++ cols) (lo.den ρ) (hi.den ρ)) (n := 2000) (f := 40) (args := [.xs 0, .xs 1, .agg [.int .i64 (.var 2), .int .i64 (.var 3)]]) (.leaf (.int .i64 (.ap 10 (.ap 8 (.var 5) (.var 4) (.lit 0)) (.var 2) (.var 3)))) (X := { pc := [], cr := crS, rg := mRl, ar := mAr, ct := conCt mRl mAr consR, xs := mXs, lp := zrmLp }) (knows_env rfl hin (mArIn hB hC rfl) (mXok hB hC rfl rfl rfl rfl))
    ⟨fun q hq φ w hx => crS_ok q hq φ w hx, fun pc hpc f vs v h _ φ w _ => conCt_ok hin.get0 (mArIn hB hC rfl) (consR_ok (numA_R rfl)) hpc h φ w, fun f p u L h c hc _ => (by
      replace h : zrmLp f p u = some L := h
      unfold zrmLp at h
      split at h
      · rename_i hcc
        simp only [Bool.and_eq_true, Nat.beq_eq, decide_eq_true_eq] at hcc
        obtain ⟨rfl, rfl⟩ := hcc
        cases h
        exact zrm_loop hB hC hl hg h1 h2 hc []
      · cases h)⟩ (Tree.ok_of_check (by kernel_rfl)) rfl w (fun j B' hB' => hw j B' (by rw [← Env.y_congr (ρ := mnEv B C (rows ++ cols) (lo.den ρ) (hi.den ρ)) (ρ' := ρ) hx] at hB'; exact hB'))
  have e1 : (SV.denL ρ φ [.xs 0, .xs 1, .agg [.int .i64 lo, .int .i64 hi]]).toArray = (SV.denL (mnEv B C (rows ++ cols) (lo.den ρ) (hi.den ρ)) id [.xs 0, .xs 1, .agg [.int .i64 (.var 2), .int .i64 (.var 3)]]).toArray := by
    simp only [SV.denL, SV.den, hx]
    rfl
  show Calls _ _ (SV.denL ρ φ [.xs 0, .xs 1, .agg [.int .i64 lo, .int .i64 hi]]).toArray w _
  rw [e1]
  refine h.mono ?_
  rintro e'' w' ⟨rfl, hb⟩
  refine ⟨congrArg Ending.returned ?_, hb⟩
  show Value.int .i64 _ = Value.int .i64 (r.den ρ)
  rw [hr]
  rfl
end
def zrjL : LoopSum := ⟨[(.xs 0), (.xs 1), (.int .i64 (.var 2)), (.raw (.tuple #[])), (.raw (.tuple #[])), (.raw (.tuple #[])), (.int .i64 (.lit 0)), (.int .i64 (.lit 0)), (.int .i64 (.lit 0)), (.int .i64 (.lit 0)), (.raw (.tuple #[])), (.raw (.tuple #[])), (.raw (.tuple #[])), (.raw (.tuple #[])), (.raw (.tuple #[])), (.raw (.tuple #[])), (.raw (.tuple #[])), (.raw (.tuple #[])), (.raw (.tuple #[])), (.raw (.tuple #[])), (.raw (.tuple #[])), (.raw (.tuple #[])), (.raw (.tuple #[])), (.raw (.tuple #[])), (.raw (.tuple #[])), (.raw (.tuple #[])), (.raw (.tuple #[])), (.raw (.tuple #[])), (.raw (.tuple #[])), (.raw (.tuple #[])), (.raw (.tuple #[])), (.raw (.tuple #[])), (.raw (.tuple #[])), (.raw (.tuple #[])), (.raw (.tuple #[])), (.raw (.tuple #[])), (.raw (.tuple #[])), (.raw (.tuple #[])), (.raw (.tuple #[])), (.raw (.tuple #[])), (.raw (.tuple #[])), (.raw (.tuple #[])), (.raw (.tuple #[])), (.raw (.tuple #[])), (.raw (.tuple #[])), (.raw (.tuple #[])), (.raw (.tuple #[])), (.raw (.tuple #[]))], [],
  (.exit 0), [(.xs 0), (.xs 1), (.int .i64 (.var 2)), (.raw (.tuple #[])), (.raw (.tuple #[])), (.raw (.tuple #[])), (.int .i64 (.lit 0)), (.int .i64 (.var 5)), (.int .i64 (.var 4)), .any, .any, .any, .any, .any, .any, .any, .any, .any, .any, .any, .any, .any, .any, .any, .any, .any, .any, .any, .any, .any, .any, .any, .any, .any, .any, .any, .any, .any, .any, .any, .any, .any, .any, .any, (.raw (.tuple #[])), (.raw (.tuple #[])), (.raw (.tuple #[])), (.raw (.tuple #[]))], []⟩
def zrjH : St := ⟨Tm.ofL [(.xs 0), (.xs 1), (.int .i64 (.var 2)), (.raw (.tuple #[])), (.raw (.tuple #[])), (.raw (.tuple #[])), (.int .i64 (.lit 0)), (.int .i64 (.var 6)), (.int .i64 (.var 7)), (.int .i64 (.var 8)), .any, .any, .any, .any, .any, .any, .any, .any, .any, .any, .any, .any, .any, .any, .any, .any, .any, .any, .any, .any, .any, .any, .any, .any, .any, .any, .any, .any, .any, .any, .any, .any, .any, .any, (.raw (.tuple #[])), (.raw (.tuple #[])), (.raw (.tuple #[])), (.raw (.tuple #[]))], []⟩
def zrjE : List IE := [(.var 0), (.var 1), (.var 2), (.var 3), (.var 4), (.var 5), (.lit 0), (.lit 0), (.lit 0)]
def zrjB : List BE := []
def zrjT : RT :=
(.node (.cmp .lss (.var 8) (.mn (.var 0) (.var 1)))
 (.node (.cmp .lss (.var 8) (.var 0))
 (.node (.cmp .lss (.var 8) (.var 1))
 (.go [(.var 0), (.var 1), (.var 2), (.var 3), (.var 4), (.var 5), (.ap 1 (.var 6) (.ap 4 (.mx (.lit 1) (.ap 8 (.lit 4294967296) (.mx (.ap 21 (.var 8) (.lit 0) (.lit 0)) (.lit 21474836)) (.lit 0))) (.ap 4 (.ap 2 (.ap 20 (.var 8) (.lit 0) (.lit 0)) (.var 2) (.lit 0)) (.ap 2 (.ap 20 (.var 8) (.lit 0) (.lit 0)) (.var 2) (.lit 0)) (.lit 0)) (.lit 0)) (.lit 0)), (.ap 1 (.var 7) (.mx (.lit 1) (.ap 8 (.lit 4294967296) (.mx (.ap 21 (.var 8) (.lit 0) (.lit 0)) (.lit 21474836)) (.lit 0))) (.lit 0)), (.pl .add (.var 8) (.lit 1))] [])
 .dead)
 .dead)
 (.stop [(.var 0), (.var 1), (.var 2), (.var 3), (.var 7), (.var 6)] []))
noncomputable def zrjX : Ctx := { pc := [], cr := crS, rg := mRg, ar := mAr, ct := conCt mRg mAr consR, xs := mXs }
abbrev zrjP : List Nat := [0, 1, 0, 1, 1, 1]
theorem zrj_B : lpB Try.prog zrjX 2000 42 zrjP 3 zrjL zrjH zrjT zrjE zrjB = true := by kernel_rfl
section
variable {W : World} {v v1 : Value} {B C : Ext} {rows cols : List (Int → Int)}
theorem zrj_loop (hB : XAny [.int .i64] W v B rows) (hC : XAny [.int .i64] W v1 C cols) (hl : B.len ≤ 60) (hg : C.len ≤ 60) {lo hi : Int} (h1 : InI lo) (h2 : InI hi) {c : Code} (hc : codeAt Try.prog 42 zrjP = .loop c) (E : List (Nat × Nat)) : LoopGoes Try.prog (jtEv B C (rows ++ cols) lo hi) E zrjL c := by
  have hin := jt_in hB hC hl hg h1 h2
  refine rt_lpg mixed zrj_B hc (ρ := jtEv B C (rows ++ cols) lo hi) (fun n is bs => ∃ i : Nat, n + i = min B.len C.len ∧ is = [(B.len : Int), (C.len : Int), lo, hi, mW (rows ++ cols) (min B.len C.len), jS (rows ++ cols) lo (min B.len C.len), jS (rows ++ cols) lo i, mW (rows ++ cols) i, (i : Int)] ∧ bs = []) ?_ ?_ ?_ ?_
  · rintro n is bs ⟨i, hi0, rfl, rfl⟩
    refine knows_env rfl ?_ (mArIn hB hC rfl) (mXok hB hC rfl rfl rfl rfl)
    exact ⟨hin.1, hin.2.1, h1, h2, mW_in _, jS_in _, jS_in _, mW_in _, ⟨by show (0 : Int) ≤ (i : Nat); omega, by show ((i : Nat) : Int) ≤ 60; omega⟩, trivial⟩
  · rintro n is bs ⟨i, hi0, rfl, rfl⟩ E
    have hAll : AllIn ((jtEv B C (rows ++ cols) lo hi).on [(B.len : Int), (C.len : Int), lo, hi, mW (rows ++ cols) (min B.len C.len), jS (rows ++ cols) lo (min B.len C.len), jS (rows ++ cols) lo i, mW (rows ++ cols) i, (i : Int)] []).i mRg 0 := ⟨hin.1, hin.2.1, h1, h2, mW_in _, jS_in _, jS_in _, mW_in _, ⟨by show (0 : Int) ≤ (i : Nat); omega, by show ((i : Nat) : Int) ≤ 60; omega⟩, trivial⟩
    exact ⟨fun q hq φ w hx => crS_ok q hq φ w hx, fun pc hpc f vs v h _ φ w _ => conCt_ok hAll.get0 (mArIn hB hC rfl) (consR_ok (numA_R rfl)) hpc h φ w, fun f p u L h => (by cases h)⟩
  · exact ⟨min B.len C.len, _, _, ⟨0, rfl, rfl, rfl⟩, List.prefix_rfl, List.prefix_rfl⟩
  · rintro n is bs ⟨i, hi0, rfl, rfl⟩
    generalize hρ : (jtEv B C (rows ++ cols) lo hi).on [(B.len : Int), (C.len : Int), lo, hi, mW (rows ++ cols) (min B.len C.len), jS (rows ++ cols) lo (min B.len C.len), jS (rows ++ cols) lo i, mW (rows ++ cols) i, (i : Int)] [] = ρ'
    have g : ∀ k x, ([(B.len : Int), (C.len : Int), lo, hi, mW (rows ++ cols) (min B.len C.len), jS (rows ++ cols) lo (min B.len C.len), jS (rows ++ cols) lo i, mW (rows ++ cols) i, (i : Int)] : List Int)[k]? = some x → ρ'.i k = x := fun k x h => by
      rw [← hρ]
      show List.getD _ _ _ = _
      rw [List.getD_eq_getElem?_getD, h]; rfl
    have ha : ρ'.a = apR (rows ++ cols) := by rw [← hρ]; rfl
    have hmn : mnI (B.len : Int) (C.len : Int) = ((min B.len C.len : Nat) : Int) := by unfold mnI; split <;> omega
    by_cases hlt : i < min B.len C.len
    · left
      refine ⟨_, _, n - 1, _, _, ?_, by omega, ⟨i + 1, by omega, rfl, rfl⟩, List.prefix_rfl, List.prefix_rfl⟩
      have e : zrjT.next ρ' = cond (decide (ρ'.i 8 < mnI (ρ'.i 0) (ρ'.i 1))) (cond (decide (ρ'.i 8 < ρ'.i 0)) (cond (decide (ρ'.i 8 < ρ'.i 1)) (some ([ρ'.i 0, ρ'.i 1, ρ'.i 2, ρ'.i 3, ρ'.i 4, ρ'.i 5, (ρ'.a 1 (ρ'.i 6) ((ρ'.a 4 ((mxI (1) ((ρ'.a 8 (4294967296) ((mxI ((ρ'.a 21 (ρ'.i 8) (0) (0))) (21474836))) (0))))) ((ρ'.a 4 ((ρ'.a 2 ((ρ'.a 20 (ρ'.i 8) (0) (0))) (ρ'.i 2) (0))) ((ρ'.a 2 ((ρ'.a 20 (ρ'.i 8) (0) (0))) (ρ'.i 2) (0))) (0))) (0))) (0)), (ρ'.a 1 (ρ'.i 7) ((mxI (1) ((ρ'.a 8 (4294967296) ((mxI ((ρ'.a 21 (ρ'.i 8) (0) (0))) (21474836))) (0))))) (0)), (ρ'.i 8 + 1)], [])) none) none) none := rfl
      rw [e, ha, g 0 _ rfl, g 1 _ rfl, g 2 _ rfl, g 3 _ rfl, g 4 _ rfl, g 5 _ rfl, g 6 _ rfl, g 7 _ rfl, g 8 _ rfl, show apR (rows ++ cols) 21 (i : Int) 0 0 = _ from apR_of (c := 1), show apR (rows ++ cols) 20 (i : Int) 0 0 = _ from apR_of (c := 0), hmn, decide_eq_true (by omega), decide_eq_true (by omega), decide_eq_true (by omega), mxI_comm 1]
      rfl
    · right
      have hii : i = min B.len C.len := by omega
      have e : zrjT.out ρ' = cond (decide (ρ'.i 8 < mnI (ρ'.i 0) (ρ'.i 1))) (cond (decide (ρ'.i 8 < ρ'.i 0)) (cond (decide (ρ'.i 8 < ρ'.i 1)) none none) none) (some ([ρ'.i 0, ρ'.i 1, ρ'.i 2, ρ'.i 3, ρ'.i 7, ρ'.i 6], [])) := rfl
      rw [e, g 0 _ rfl, g 1 _ rfl, g 2 _ rfl, g 3 _ rfl, g 6 _ rfl, g 7 _ rfl, g 8 _ rfl, hmn, decide_eq_false (by omega)]
      refine ⟨_, _, rfl, ?_⟩
      rw [hii]
      exact envOf_has_pre List.prefix_rfl List.prefix_rfl
def zrjLp (f : FuncId) (p : List Nat) (_ : Nat) : Option LoopSum := if Nat.beq f 42 && decide (p = zrjP) then some zrjL else none
theorem zrj_known (hB : XAny [.int .i64] W v B rows) (hC : XAny [.int .i64] W v1 C cols) (hl : B.len ≤ 60) (hg : C.len ≤ 60) {ρ : Env} (hx : ρ.x = fun n => [some B, some C].getD n none) {lo r : IE} (h1 : InI (lo.den ρ)) (hr : r.den ρ = apN 9 (apN 8 (jS (rows ++ cols) (lo.den ρ) (min B.len C.len)) (mW (rows ++ cols) (min B.len C.len)) 0) 0 0) : Known Try.prog ρ (42, [.xs 0, .xs 1, .int .i64 lo], .int .i64 r) := by
  intro φ w hw
  have hin := jt_in hB hC hl hg h1 inI0
  have h := tree_soundX (P := Try.prog) mixed (ρ := jtEv B C (rows ++ cols) (lo.den ρ) 0) (n := 2000) (f := 42) (args := [.xs 0, .xs 1, .int .i64 (.var 2)]) (.leaf (.int .i64 (.ap 9 (.ap 8 (.var 5) (.var 4) (.lit 0)) (.lit 0) (.lit 0)))) (X := { pc := [], cr := crS, rg := mRl, ar := mAr, ct := conCt mRl mAr consR, xs := mXs, lp := zrjLp }) (knows_env rfl hin (mArIn hB hC rfl) (mXok hB hC rfl rfl rfl rfl))
    ⟨fun q hq φ w hx => crS_ok q hq φ w hx, fun pc hpc f vs v h _ φ w _ => conCt_ok hin.get0 (mArIn hB hC rfl) (consR_ok (numA_R rfl)) hpc h φ w, fun f p u L h c hc _ => (by
      replace h : zrjLp f p u = some L := h
      unfold zrjLp at h
      split at h
      · rename_i hcc
        simp only [Bool.and_eq_true, Nat.beq_eq, decide_eq_true_eq] at hcc
        obtain ⟨rfl, rfl⟩ := hcc
        cases h
        exact zrj_loop hB hC hl hg h1 inI0 hc []
      · cases h)⟩ (Tree.ok_of_check (by kernel_rfl)) rfl w (fun j B' hB' => hw j B' (by rw [← Env.y_congr (ρ := jtEv B C (rows ++ cols) (lo.den ρ) 0) (ρ' := ρ) hx] at hB'; exact hB'))
  have e1 : (SV.denL ρ φ [.xs 0, .xs 1, .int .i64 lo]).toArray = (SV.denL (jtEv B C (rows ++ cols) (lo.den ρ) 0) id [.xs 0, .xs 1, .int .i64 (.var 2)]).toArray := by
    simp only [SV.denL, SV.den, hx]
    rfl
  show Calls _ _ (SV.denL ρ φ [.xs 0, .xs 1, .int .i64 lo]).toArray w _
  rw [e1]
  refine h.mono ?_
  rintro e'' w' ⟨rfl, hb⟩
  refine ⟨congrArg Ending.returned ?_, hb⟩
  show Value.int .i64 _ = Value.int .i64 (r.den ρ)
  rw [hr]
  rfl
end
def zjtL : LoopSum := ⟨[(.yld 1099518967815), (.ptr 1099516870657 0), (.ptr 1099516870658 0), (.raw (.tuple #[])), (.raw (.tuple #[])), (.xs 0), (.int .i64 (.var 0)), (.xs 1), (.int .i64 (.var 1)), (.int .i64 (.mn (.var 0) (.var 1))), (.int .i64 (.lit 0)), (.raw (.tuple #[])), (.raw (.tuple #[])), (.raw (.tuple #[])), (.raw (.tuple #[])), (.raw (.tuple #[])), (.raw (.tuple #[])), (.raw (.tuple #[])), (.raw (.tuple #[])), (.raw (.tuple #[])), (.raw (.tuple #[])), (.raw (.tuple #[])), (.raw (.tuple #[])), (.raw (.tuple #[])), (.raw (.tuple #[])), (.raw (.tuple #[]))], [(1099518967815, ⟨0, [(.mark 1 73 [0, 1, 0, 1, 1] 1099518967814), (.mark 10 0 [] 1099518967814), (.func (.func 99) [] [(.ptr 1099516870657 0), (.ptr 1099516870658 0)]), (.func (.func 79) [] [(.ptr 1048577 0)]), (.raw (.tuple #[])), (.ptr 1099518967809 0), (.int .i64 (.lit 0)), (.ptr 1099518967811 0), (.ptr 1099518967812 0), (.raw (.tuple #[])), (.raw (.tuple #[])), (.func (.func 99) [] [(.ptr 1099516870657 0), (.ptr 1099516870658 0)]), (.raw (.tuple #[])), (.raw (.tuple #[])), (.raw (.tuple #[])), (.raw (.tuple #[])), (.raw (.tuple #[])), (.raw (.tuple #[])), (.raw (.tuple #[])), (.raw (.tuple #[])), (.raw (.tuple #[])), (.raw (.tuple #[])), (.raw (.tuple #[])), (.raw (.tuple #[])), (.raw (.tuple #[])), (.raw (.tuple #[]))]⟩), (1099518967814, ⟨0, [(.mark 5 0 [] 1099518967814)]⟩), (1099518967812, ⟨2, [(.int .i64 (.lit 0))]⟩), (1099518967811, ⟨2, [(.int .i64 (.lit 0))]⟩), (1099518967809, ⟨95, [(.func (.func 79) [] [(.ptr 1048577 0)])]⟩), (1099516870658, ⟨71, [(.xs 1)]⟩), (1099516870657, ⟨71, [(.xs 0)]⟩), (1048577, ⟨2, [(.int .i64 (.var 2))]⟩)],
  (.exit 0), [(.yld 1099518967815), (.ptr 1099516870657 0), (.ptr 1099516870658 0), (.raw (.tuple #[])), .any, (.xs 0), (.int .i64 (.var 0)), (.xs 1), (.int .i64 (.var 1)), (.int .i64 (.mn (.var 0) (.var 1))), .any, .any, .any, .any, .any, .any, .any, .any, .any, .any, .any, .any, .any, .any, .any, .any], [(1099518967815, ⟨0, [(.mark 1 73 [0, 1, 0, 1, 1] 1099518967814), (.mark 10 0 [] 1099518967814), (.func (.func 99) [] [(.ptr 1099516870657 0), (.ptr 1099516870658 0)]), (.func (.func 79) [] [(.ptr 1048577 0)]), (.raw (.tuple #[])), (.ptr 1099518967809 0), (.int .i64 (.lit 0)), (.ptr 1099518967811 0), (.ptr 1099518967812 0), (.raw (.tuple #[])), (.raw (.tuple #[])), (.func (.func 99) [] [(.ptr 1099516870657 0), (.ptr 1099516870658 0)]), (.raw (.tuple #[])), (.raw (.tuple #[])), (.raw (.tuple #[])), (.raw (.tuple #[])), (.raw (.tuple #[])), (.raw (.tuple #[])), (.raw (.tuple #[])), (.raw (.tuple #[])), (.raw (.tuple #[])), (.raw (.tuple #[])), (.raw (.tuple #[])), (.raw (.tuple #[])), (.raw (.tuple #[])), (.raw (.tuple #[]))]⟩), (1099518967814, ⟨0, [(.mark 5 0 [] 1099518967814)]⟩), (1099518967812, ⟨2, [(.int .i64 (.var 4))]⟩), (1099518967811, ⟨2, [(.int .i64 (.var 5))]⟩), (1099518967809, ⟨95, [(.func (.func 79) [] [(.ptr 1048577 0)])]⟩), (1099516870658, ⟨71, [(.xs 1)]⟩), (1099516870657, ⟨71, [(.xs 0)]⟩), (1048577, ⟨2, [(.int .i64 (.var 2))]⟩)]⟩
def zjtH : St := ⟨Tm.ofL [(.yld 1099518967815), (.ptr 1099516870657 0), (.ptr 1099516870658 0), (.raw (.tuple #[])), .any, (.xs 0), (.int .i64 (.var 0)), (.xs 1), (.int .i64 (.var 1)), (.int .i64 (.mn (.var 0) (.var 1))), (.int .i64 (.var 8)), .any, .any, .any, .any, .any, .any, .any, .any, .any, .any, .any, .any, .any, .any, .any], [(1099518967815, ⟨0, [(.mark 1 73 [0, 1, 0, 1, 1] 1099518967814), (.mark 10 0 [] 1099518967814), (.func (.func 99) [] [(.ptr 1099516870657 0), (.ptr 1099516870658 0)]), (.func (.func 79) [] [(.ptr 1048577 0)]), (.raw (.tuple #[])), (.ptr 1099518967809 0), (.int .i64 (.lit 0)), (.ptr 1099518967811 0), (.ptr 1099518967812 0), (.raw (.tuple #[])), (.raw (.tuple #[])), (.func (.func 99) [] [(.ptr 1099516870657 0), (.ptr 1099516870658 0)]), (.raw (.tuple #[])), (.raw (.tuple #[])), (.raw (.tuple #[])), (.raw (.tuple #[])), (.raw (.tuple #[])), (.raw (.tuple #[])), (.raw (.tuple #[])), (.raw (.tuple #[])), (.raw (.tuple #[])), (.raw (.tuple #[])), (.raw (.tuple #[])), (.raw (.tuple #[])), (.raw (.tuple #[])), (.raw (.tuple #[]))]⟩), (1099518967814, ⟨0, [(.mark 5 0 [] 1099518967814)]⟩), (1099518967812, ⟨2, [(.int .i64 (.var 6))]⟩), (1099518967811, ⟨2, [(.int .i64 (.var 7))]⟩), (1099518967809, ⟨95, [(.func (.func 79) [] [(.ptr 1048577 0)])]⟩), (1099516870658, ⟨71, [(.xs 1)]⟩), (1099516870657, ⟨71, [(.xs 0)]⟩), (1048577, ⟨2, [(.int .i64 (.var 2))]⟩)]⟩
def zjtE : List IE := [(.var 0), (.var 1), (.var 2), (.var 3), (.var 4), (.var 5), (.lit 0), (.lit 0), (.lit 0)]
def zjtB : List BE := []
def zjtT : RT :=
(.node (.cmp .lss (.var 8) (.mn (.var 0) (.var 1)))
 (.node (.cmp .lss (.var 8) (.var 0))
 (.node (.cmp .lss (.var 8) (.var 1))
 (.go [(.var 0), (.var 1), (.var 2), (.var 3), (.var 4), (.var 5), (.ap 1 (.var 6) (.mx (.ap 8 (.lit 4294967296) (.mx (.ap 21 (.var 8) (.lit 0) (.lit 0)) (.lit 21474836)) (.lit 0)) (.lit 1)) (.lit 0)), (.ap 1 (.var 7) (.ap 4 (.mx (.ap 8 (.lit 4294967296) (.mx (.ap 21 (.var 8) (.lit 0) (.lit 0)) (.lit 21474836)) (.lit 0)) (.lit 1)) (.ap 4 (.ap 2 (.ap 20 (.var 8) (.lit 0) (.lit 0)) (.var 2) (.lit 0)) (.ap 2 (.ap 20 (.var 8) (.lit 0) (.lit 0)) (.var 2) (.lit 0)) (.lit 0)) (.lit 0)) (.lit 0)), (.pl .add (.var 8) (.lit 1))] [])
 .dead)
 .dead)
 (.stop [(.var 0), (.var 1), (.var 2), (.var 3), (.var 6), (.var 7)] []))
noncomputable def zjtX : Ctx := { pc := [], cr := crS, rg := mRg, ar := mAr, ct := conCt mRg mAr consR, xs := mXs }
abbrev zjtP : List Nat := [0, 1]
theorem zjt_B : lpB Try.prog zjtX 2000 99 zjtP 3 zjtL zjtH zjtT zjtE zjtB = true := by kernel_rfl
section
variable {W : World} {v v1 : Value} {B C : Ext} {rows cols : List (Int → Int)}
theorem zjt_loop (hB : XAny [.int .i64] W v B rows) (hC : XAny [.int .i64] W v1 C cols) (hl : B.len ≤ 60) (hg : C.len ≤ 60) {lo hi : Int} (h1 : InI lo) (h2 : InI hi) {c : Code} (hc : codeAt Try.prog 99 zjtP = .loop c) (E : List (Nat × Nat)) : LoopGoes Try.prog (jtEv B C (rows ++ cols) lo hi) E zjtL c := by
  have hin := jt_in hB hC hl hg h1 h2
  refine rt_lpg mixed zjt_B hc (ρ := jtEv B C (rows ++ cols) lo hi) (fun n is bs => ∃ i : Nat, n + i = min B.len C.len ∧ is = [(B.len : Int), (C.len : Int), lo, hi, mW (rows ++ cols) (min B.len C.len), jS (rows ++ cols) lo (min B.len C.len), mW (rows ++ cols) i, jS (rows ++ cols) lo i, (i : Int)] ∧ bs = []) ?_ ?_ ?_ ?_
  · rintro n is bs ⟨i, hi0, rfl, rfl⟩
    refine knows_env rfl ?_ (mArIn hB hC rfl) (mXok hB hC rfl rfl rfl rfl)
    exact ⟨hin.1, hin.2.1, h1, h2, mW_in _, jS_in _, mW_in _, jS_in _, ⟨by show (0 : Int) ≤ (i : Nat); omega, by show ((i : Nat) : Int) ≤ 60; omega⟩, trivial⟩
  · rintro n is bs ⟨i, hi0, rfl, rfl⟩ E
    have hAll : AllIn ((jtEv B C (rows ++ cols) lo hi).on [(B.len : Int), (C.len : Int), lo, hi, mW (rows ++ cols) (min B.len C.len), jS (rows ++ cols) lo (min B.len C.len), mW (rows ++ cols) i, jS (rows ++ cols) lo i, (i : Int)] []).i mRg 0 := ⟨hin.1, hin.2.1, h1, h2, mW_in _, jS_in _, mW_in _, jS_in _, ⟨by show (0 : Int) ≤ (i : Nat); omega, by show ((i : Nat) : Int) ≤ 60; omega⟩, trivial⟩
    exact ⟨fun q hq φ w hx => crS_ok q hq φ w hx, fun pc hpc f vs v h _ φ w _ => conCt_ok hAll.get0 (mArIn hB hC rfl) (consR_ok (numA_R rfl)) hpc h φ w, fun f p u L h => (by cases h)⟩
  · exact ⟨min B.len C.len, _, _, ⟨0, rfl, rfl, rfl⟩, List.prefix_rfl, List.prefix_rfl⟩
  · rintro n is bs ⟨i, hi0, rfl, rfl⟩
    generalize hρ : (jtEv B C (rows ++ cols) lo hi).on [(B.len : Int), (C.len : Int), lo, hi, mW (rows ++ cols) (min B.len C.len), jS (rows ++ cols) lo (min B.len C.len), mW (rows ++ cols) i, jS (rows ++ cols) lo i, (i : Int)] [] = ρ'
    have g : ∀ k x, ([(B.len : Int), (C.len : Int), lo, hi, mW (rows ++ cols) (min B.len C.len), jS (rows ++ cols) lo (min B.len C.len), mW (rows ++ cols) i, jS (rows ++ cols) lo i, (i : Int)] : List Int)[k]? = some x → ρ'.i k = x := fun k x h => by
      rw [← hρ]
      show List.getD _ _ _ = _
      rw [List.getD_eq_getElem?_getD, h]; rfl
    have ha : ρ'.a = apR (rows ++ cols) := by rw [← hρ]; rfl
    have hmn : mnI (B.len : Int) (C.len : Int) = ((min B.len C.len : Nat) : Int) := by unfold mnI; split <;> omega
    by_cases hlt : i < min B.len C.len
    · left
      refine ⟨_, _, n - 1, _, _, ?_, by omega, ⟨i + 1, by omega, rfl, rfl⟩, List.prefix_rfl, List.prefix_rfl⟩
      have e : zjtT.next ρ' = cond (decide (ρ'.i 8 < mnI (ρ'.i 0) (ρ'.i 1))) (cond (decide (ρ'.i 8 < ρ'.i 0)) (cond (decide (ρ'.i 8 < ρ'.i 1)) (some ([ρ'.i 0, ρ'.i 1, ρ'.i 2, ρ'.i 3, ρ'.i 4, ρ'.i 5, (ρ'.a 1 (ρ'.i 6) ((mxI ((ρ'.a 8 (4294967296) ((mxI ((ρ'.a 21 (ρ'.i 8) (0) (0))) (21474836))) (0))) (1))) (0)), (ρ'.a 1 (ρ'.i 7) ((ρ'.a 4 ((mxI ((ρ'.a 8 (4294967296) ((mxI ((ρ'.a 21 (ρ'.i 8) (0) (0))) (21474836))) (0))) (1))) ((ρ'.a 4 ((ρ'.a 2 ((ρ'.a 20 (ρ'.i 8) (0) (0))) (ρ'.i 2) (0))) ((ρ'.a 2 ((ρ'.a 20 (ρ'.i 8) (0) (0))) (ρ'.i 2) (0))) (0))) (0))) (0)), (ρ'.i 8 + 1)], [])) none) none) none := rfl
      rw [e, ha, g 0 _ rfl, g 1 _ rfl, g 2 _ rfl, g 3 _ rfl, g 4 _ rfl, g 5 _ rfl, g 6 _ rfl, g 7 _ rfl, g 8 _ rfl, show apR (rows ++ cols) 21 (i : Int) 0 0 = _ from apR_of (c := 1), show apR (rows ++ cols) 20 (i : Int) 0 0 = _ from apR_of (c := 0), hmn, decide_eq_true (by omega), decide_eq_true (by omega), decide_eq_true (by omega)]
      rfl
    · right
      have hii : i = min B.len C.len := by omega
      have e : zjtT.out ρ' = cond (decide (ρ'.i 8 < mnI (ρ'.i 0) (ρ'.i 1))) (cond (decide (ρ'.i 8 < ρ'.i 0)) (cond (decide (ρ'.i 8 < ρ'.i 1)) none none) none) (some ([ρ'.i 0, ρ'.i 1, ρ'.i 2, ρ'.i 3, ρ'.i 6, ρ'.i 7], [])) := rfl
      rw [e, g 0 _ rfl, g 1 _ rfl, g 2 _ rfl, g 3 _ rfl, g 6 _ rfl, g 7 _ rfl, g 8 _ rfl, hmn, decide_eq_false (by omega)]
      refine ⟨_, _, rfl, ?_⟩
      rw [hii]
      exact envOf_has_pre List.prefix_rfl List.prefix_rfl
def zjtLp (f : FuncId) (p : List Nat) (_ : Nat) : Option LoopSum := if Nat.beq f 99 && decide (p = zjtP) then some zjtL else none
theorem zjt_known (hB : XAny [.int .i64] W v B rows) (hC : XAny [.int .i64] W v1 C cols) (hl : B.len ≤ 60) (hg : C.len ≤ 60) {ρ : Env} (hx : ρ.x = fun n => [some B, some C].getD n none) {lo r : IE} (h1 : InI (lo.den ρ)) (hr : r.den ρ = apN 9 (apN 8 (jS (rows ++ cols) (lo.den ρ) (min B.len C.len)) (mW (rows ++ cols) (min B.len C.len)) 0) 0 0) : Known Try.prog ρ (41, [.xs 0, .xs 1, .int .i64 lo], .int .i64 r) := by
  intro φ w hw
  have hin := jt_in hB hC hl hg h1 inI0
  have h := tree_soundX (P := Try.prog) mixed (ρ := jtEv B C (rows ++ cols) (lo.den ρ) 0) (n := 2000) (f := 41) (args := [.xs 0, .xs 1, .int .i64 (.var 2)]) (.leaf (.int .i64 (.ap 9 (.ap 8 (.var 5) (.var 4) (.lit 0)) (.lit 0) (.lit 0)))) (X := { pc := [], cr := crS, rg := mRl, ar := mAr, ct := conCt mRl mAr consR, xs := mXs, lp := zjtLp }) (knows_env rfl hin (mArIn hB hC rfl) (mXok hB hC rfl rfl rfl rfl))
    ⟨fun q hq φ w hx => crS_ok q hq φ w hx, fun pc hpc f vs v h _ φ w _ => conCt_ok hin.get0 (mArIn hB hC rfl) (consR_ok (numA_R rfl)) hpc h φ w, fun f p u L h c hc _ => (by
      replace h : zjtLp f p u = some L := h
      unfold zjtLp at h
      split at h
      · rename_i hcc
        simp only [Bool.and_eq_true, Nat.beq_eq, decide_eq_true_eq] at hcc
        obtain ⟨rfl, rfl⟩ := hcc
        cases h
        exact zjt_loop hB hC hl hg h1 inI0 hc []
      · cases h)⟩ (Tree.ok_of_check (by kernel_rfl)) rfl w (fun j B' hB' => hw j B' (by rw [← Env.y_congr (ρ := jtEv B C (rows ++ cols) (lo.den ρ) 0) (ρ' := ρ) hx] at hB'; exact hB'))
  have e1 : (SV.denL ρ φ [.xs 0, .xs 1, .int .i64 lo]).toArray = (SV.denL (jtEv B C (rows ++ cols) (lo.den ρ) 0) id [.xs 0, .xs 1, .int .i64 (.var 2)]).toArray := by
    simp only [SV.denL, SV.den, hx]
    rfl
  show Calls _ _ (SV.denL ρ φ [.xs 0, .xs 1, .int .i64 lo]).toArray w _
  rw [e1]
  refine h.mono ?_
  rintro e'' w' ⟨rfl, hb⟩
  refine ⟨congrArg Ending.returned ?_, hb⟩
  show Value.int .i64 _ = Value.int .i64 (r.den ρ)
  rw [hr]
  rfl
end
end Go.Proofs.Ytopgidgkpafeeaa
/- Law 18: CombineMeans: the walk. -/
namespace Go.Proofs.Ytopgidgkpafeeaa
open Go Go.RowKit Ev
set_option linter.unusedVariables false
set_option linter.unusedSimpArgs false
set_option maxRecDepth 100000
set_option maxHeartbeats 0
abbrev cmR : List (Int × Int) := [(0, 60), (0, 60), i64J, i64J, i64J, i64J, satR, (0, 9223372036854775807)]
abbrev cmA : List SV := [.xs 0, .xs 1, .agg [.int .i64 (.var 2), .int .i64 (.var 3)], .int .i64 (.var 4), .int .i64 (.var 5)]
abbrev cmK : List (FuncId × List SV × SV) := [(37, [], .bool (.lit true)), (38, [.xs 0, .xs 1, .agg [.int .i64 (.var 2), .int .i64 (.var 3)]], .int .i64 (.var 6)), (40, [.xs 0, .xs 1, .agg [.int .i64 (.var 2), .int .i64 (.var 3)]], .int .i64 (.var 6)), (41, [.xs 0, .xs 1, .int .i64 (.var 4)], .int .i64 (.var 7)), (42, [.xs 0, .xs 1, .int .i64 (.var 4)], .int .i64 (.var 7))]
abbrev cmW : IE := (.mx (.ap 8 (.lit 4294967296) (.mx (.var 5) (.lit 21474836)) (.lit 0)) (.lit 1))
def cmT : Tree := (.leaf (.bool (.cmp .eql cmW cmW)))
theorem cm_good {ρ : Env} : good ρ cmT = true := by
  show (cmW.den ρ == cmW.den ρ) = true
  exact beq_self_eq_true _
theorem knowsC_shown2 {ρ : Env} {E : List (Nat × Nat)} {rg ar : List (Int × Int)} {xs : List XD} {X : Ctx} (hX : X = { pc := [], cr := [(37, [], .bool (.lit true))], rg := rg, ar := ar, xs := xs }) (_ : True = True) : KnowsC Try.prog ρ E X := by
  subst hX
  exact ⟨fun q hq φ w _ => (by obtain rfl := List.mem_singleton.1 hq; exact shown18 w), fun pc _ f vs v h => (by cases h), fun f p u L h => (by cases h)⟩
theorem cm_ok : cmT.Ok Try.prog { pc := [], cr := cmK ++ crS, rg := cmR, ar := mAr, ct := conCt cmR mAr consR, lp := fun _ _ _ => none, xs := mXs, nm := [], nz := true } 3000 14 cmA := Tree.ok_of_check (by kernel_rfl)
theorem combineMeans_walk {v v1 : Value} {lo hi ab dd : Int} {W : World} (hv : IsXs [.int .i64] W v) (hv1 : IsXs [.int .i64] W v1) (h1 : InI lo) (h2 : InI hi) (h3 : InI ab) (h4 : InI dd) :
    Calls Try.prog 14 #[v, v1, .agg #[.int .i64 lo, .int .i64 hi], .int .i64 ab, .int .i64 dd] W fun e w' => e = .returned (.bool true) ∧ Below W.heap.size W w' := by
  obtain ⟨B, rows, hB⟩ := hv.any
  obtain ⟨C, cols, hC⟩ := hv1.any
  have hval := hB.val
  have hval1 := hC.val
  have hle := hB.le
  have hle1 := hC.le
  have har := mArIn hB hC (ρ := envOf [(B.len : Int), (C.len : Int), lo, hi, ab, dd] (ap := apR (rows ++ cols)) (xs := [some B, some C])) rfl
  have hx2 := mXok hB hC (ρ := envOf [(B.len : Int), (C.len : Int), lo, hi, ab, dd] (ap := apR (rows ++ cols)) (xs := [some B, some C])) rfl rfl rfl rfl
  by_cases hl : B.len ≤ 60
  · by_cases hg : C.len ≤ 60
    · have hm : -9223372036854775807 ≤ apN 10 (apN 8 (mS (rows ++ cols) (min B.len C.len)) (mW (rows ++ cols) (min B.len C.len)) 0) lo hi ∧ apN 10 (apN 8 (mS (rows ++ cols) (min B.len C.len)) (mW (rows ++ cols) (min B.len C.len)) 0) lo hi ≤ 9223372036854775807 := sat_in _
      have hj : 0 ≤ apN 9 (apN 8 (jS (rows ++ cols) ab (min B.len C.len)) (mW (rows ++ cols) (min B.len C.len)) 0) 0 0 ∧ apN 9 (apN 8 (jS (rows ++ cols) ab (min B.len C.len)) (mW (rows ++ cols) (min B.len C.len)) 0) 0 0 ≤ 9223372036854775807 := by
        show 0 ≤ sat (fSqrt _) ∧ sat (fSqrt _) ≤ 9223372036854775807
        unfold fSqrt sat
        omega
      generalize hmd : apN 10 (apN 8 (mS (rows ++ cols) (min B.len C.len)) (mW (rows ++ cols) (min B.len C.len)) 0) lo hi = mean at hm
      generalize hjd : apN 9 (apN 8 (jS (rows ++ cols) ab (min B.len C.len)) (mW (rows ++ cols) (min B.len C.len)) 0) 0 0 = jit at hj
      generalize hρ : envOf [(B.len : Int), (C.len : Int), lo, hi, ab, dd, mean, jit] (ap := apR (rows ++ cols)) (xs := [some B, some C]) = ρ
      have hra : ρ.a = apR (rows ++ cols) := by rw [← hρ]
      have hrx : ρ.x = fun n => [some B, some C].getD n none := by rw [← hρ]
      have i0 : ρ.i 0 = B.len := by rw [← hρ]; rfl
      have i1 : ρ.i 1 = C.len := by rw [← hρ]; rfl
      have i2 : ρ.i 2 = lo := by rw [← hρ]; rfl
      have i3 : ρ.i 3 = hi := by rw [← hρ]; rfl
      have i4 : ρ.i 4 = ab := by rw [← hρ]; rfl
      have i5 : ρ.i 5 = dd := by rw [← hρ]; rfl
      have i6 : ρ.i 6 = mean := by rw [← hρ]; rfl
      have i7 : ρ.i 7 = jit := by rw [← hρ]; rfl
      have hin : AllIn ρ.i cmR 0 := by
        refine ⟨?_, ?_, ?_, ?_, ?_, ?_, ?_, ?_, trivial⟩
        · show (0 : Int) ≤ ρ.i 0 ∧ ρ.i 0 ≤ 60
          rw [i0]; omega
        · show (0 : Int) ≤ ρ.i 1 ∧ ρ.i 1 ≤ 60
          rw [i1]; omega
        · show InI (ρ.i 2)
          rw [i2]; exact h1
        · show InI (ρ.i 3)
          rw [i3]; exact h2
        · show InI (ρ.i 4)
          rw [i4]; exact h3
        · show InI (ρ.i 5)
          rw [i5]; exact h4
        · show (-9223372036854775807 : Int) ≤ ρ.i 6 ∧ ρ.i 6 ≤ 9223372036854775807
          rw [i6]; exact hm
        · show (0 : Int) ≤ ρ.i 7 ∧ ρ.i 7 ≤ 9223372036854775807
          rw [i7]; exact hj
      have k2 : InI (IE.den ρ (.var 2)) := by show InI (ρ.i 2); rw [i2]; exact h1
      have k3 : InI (IE.den ρ (.var 3)) := by show InI (ρ.i 3); rw [i3]; exact h2
      have k4 : InI (IE.den ρ (.var 4)) := by show InI (ρ.i 4); rw [i4]; exact h3
      have km : IE.den ρ (.var 6) = apN 10 (apN 8 (mS (rows ++ cols) (min B.len C.len)) (mW (rows ++ cols) (min B.len C.len)) 0) (IE.den ρ (.var 2)) (IE.den ρ (.var 3)) := by
        show ρ.i 6 = apN 10 _ (ρ.i 2) (ρ.i 3)
        rw [i6, i2, i3, hmd]
      have kj : IE.den ρ (.var 7) = apN 9 (apN 8 (jS (rows ++ cols) (IE.den ρ (.var 4)) (min B.len C.len)) (mW (rows ++ cols) (min B.len C.len)) 0) 0 0 := by
        show ρ.i 7 = apN 9 (apN 8 (jS (rows ++ cols) (ρ.i 4) _) _ 0) 0 0
        rw [i7, i4, hjd]
      have h := law_con (ρ := ρ) (cs := consR) hin (mArIn hB hC hra) (consR_ok (numA_R hra)) (cr := cmK) (fun q hq => by
          simp only [List.mem_cons, List.not_mem_nil, or_false] at hq
          rcases hq with rfl | rfl | rfl | rfl | rfl
          · exact fun φ w _ => shown18 w
          · exact mean_known hB hC hl hg hrx k2 k3 km
          · exact zrm_known hB hC hl hg hrx k2 k3 km
          · exact zjt_known hB hC hl hg hrx k4 kj
          · exact zrj_known hB hC hl hg hrx k4 kj) (lp := fun _ _ _ => none) (fun f p u L h => by cases h) (xs := mXs) (mXok hB hC hra hrx i0 i1) (nm := []) (fun p hp => by cases hp) (nz := true) cmT cm_ok cm_good W (ext_two hB hC hrx)
      have e1 : (SV.denL ρ id cmA).toArray = #[v, v1, .agg #[.int .i64 lo, .int .i64 hi], .int .i64 ab, .int .i64 dd] := by
        simp only [SV.denL, SV.den, IE.den, i2, i3, i4, i5, hrx, hval, hval1]
        rfl
      rw [e1] at h
      exact h
    · have h := tree_soundX (P := Try.prog) mixed (ρ := envOf [(B.len : Int), (C.len : Int), lo, hi, ab, dd] (ap := apR (rows ++ cols)) (xs := [some B, some C])) (.leaf (.bool (.lit true))) (X := { pc := [], cr := [(37, [], .bool (.lit true))], rg := [(0, 60), (61, 9223372036854775807)], ar := mAr, xs := mXs }) (n := 3000) (f := 14) (args := cmA) (knows_env rfl ⟨by show (0 : Int) ≤ (B.len : Nat) ∧ ((B.len : Nat) : Int) ≤ 60; omega, by show (61 : Int) ≤ (C.len : Nat) ∧ ((C.len : Nat) : Int) ≤ 9223372036854775807; unfold maxLen at hle1; omega, trivial⟩ har hx2)
        (knowsC_shown2 rfl rfl) (Tree.ok_of_check (by kernel_rfl)) rfl W (ext_two hB hC rfl)
      rw [hval, hval1]; exact h
  · have h := tree_soundX (P := Try.prog) mixed (ρ := envOf [(B.len : Int), (C.len : Int), lo, hi, ab, dd] (ap := apR (rows ++ cols)) (xs := [some B, some C])) (.leaf (.bool (.lit true))) (X := { pc := [], cr := [(37, [], .bool (.lit true))], rg := [(61, 9223372036854775807), (0, 9223372036854775807)], ar := mAr, xs := mXs }) (n := 3000) (f := 14) (args := cmA) (knows_env rfl ⟨by show (61 : Int) ≤ (B.len : Nat) ∧ ((B.len : Nat) : Int) ≤ 9223372036854775807; unfold maxLen at hle; omega, by show (0 : Int) ≤ (C.len : Nat) ∧ ((C.len : Nat) : Int) ≤ 9223372036854775807; unfold maxLen at hle1; omega, trivial⟩ har hx2)
      (knowsC_shown2 rfl rfl) (Tree.ok_of_check (by kernel_rfl)) rfl W (ext_two hB hC rfl)
    rw [hval, hval1]; exact h
end Go.Proofs.Ytopgidgkpafeeaa
