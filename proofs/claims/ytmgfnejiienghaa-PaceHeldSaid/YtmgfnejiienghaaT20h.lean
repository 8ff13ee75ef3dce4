/- Law 20: PaceHeld. -/
import Derived.Test.YtmgfnejiienghaaEvT
namespace Go.Proofs.Ytmgfnejiienghaa
open Go Go.RowKit Ev
set_option linter.unusedVariables false
set_option linter.unusedSimpArgs false
set_option maxRecDepth 100000

abbrev U0 : SV := .raw (.tuple #[])
def phL : LoopSum := ⟨[(.agg [(.int .i64 (.var 1)), (.int .i64 (.var 2))]), (.xs 0), (.int .i64 (.var 3)), (.ptr 1048577 0), U0, U0, (.bool (.lit false)), (.ptr 1048587 0), (.int .i64 (.lit 0)), U0, (.xs 0), (.int .i64 (.var 0)), (.bool (.cmp .gtr (.var 0) (.lit 1024))), (.bool (.cmp .gtr (.var 0) (.lit 1024))), (.bool (.lit true)), (.bool (.lit false)), (.bool (.lit false)), U0, (.agg [(.int .i64 (.lit 536870912)), (.int .i64 (.lit 1288490188800)), (.int .i64 (.lit 4294967296000)), (.int .i64 (.lit 2147483)), (.int .i64 (.lit 64424)), (.int .i64 (.lit 6442450944)), (.int .i64 (.lit 17179869184)), (.int .i64 (.lit 6)), (.int .i64 (.lit 10)), (.int .i64 (.lit 0)), (.int .i64 (.lit 1)), (.int .i64 (.lit 3))]), (.agg [(.int .i64 (.lit 536870912)), (.int .i64 (.lit 1288490188800)), (.int .i64 (.lit 4294967296000)), (.int .i64 (.lit 2147483)), (.int .i64 (.lit 64424)), (.int .i64 (.lit 6442450944)), (.int .i64 (.lit 17179869184)), (.int .i64 (.lit 6)), (.int .i64 (.lit 10)), (.int .i64 (.lit 0)), (.int .i64 (.lit 1)), (.int .i64 (.lit 3))]), (.agg [(.int .i64 (.var 1)), (.int .i64 (.var 2))]), (.agg [(.int .i64 (.var 4)), (.int .i64 (.var 5))]), U0, U0, U0, U0, U0, U0, U0, U0, U0, U0, U0, U0, U0, U0, U0, U0, U0, U0, U0, U0, U0, U0, U0, U0, U0, U0, U0, U0, U0, U0, U0, U0, U0, U0, U0, U0, U0, U0, U0, U0, U0, U0, U0, U0, U0, U0, U0, U0, U0, U0, U0, U0, U0, U0, U0, U0, U0, U0, U0, U0, U0, U0, U0, U0, U0, U0, U0, U0, U0, U0], [(1048577, ⟨65, [(.int .i64 (.var 4)), (.int .i64 (.var 5))]⟩), (1048587, ⟨26, [(.int .i64 (.lit 536870912)), (.int .i64 (.lit 1288490188800)), (.int .i64 (.lit 4294967296000)), (.int .i64 (.lit 2147483)), (.int .i64 (.lit 64424)), (.int .i64 (.lit 6442450944)), (.int .i64 (.lit 17179869184)), (.int .i64 (.lit 6)), (.int .i64 (.lit 10)), (.int .i64 (.lit 0)), (.int .i64 (.lit 1)), (.int .i64 (.lit 3))]⟩)],
  (.exit 0), [(.agg [(.int .i64 (.var 1)), (.int .i64 (.var 2))]), (.xs 0), (.int .i64 (.var 3)), (.ptr 1048577 0), U0, U0, (.bool (.lit false)), (.ptr 1048587 0), .any, .any, (.xs 0), (.int .i64 (.var 0)), (.bool (.cmp .gtr (.var 0) (.lit 1024))), (.bool (.cmp .gtr (.var 0) (.lit 1024))), (.bool (.lit true)), (.bool (.lit false)), (.bool (.lit false)), U0, (.agg [(.int .i64 (.lit 536870912)), (.int .i64 (.lit 1288490188800)), (.int .i64 (.lit 4294967296000)), (.int .i64 (.lit 2147483)), (.int .i64 (.lit 64424)), (.int .i64 (.lit 6442450944)), (.int .i64 (.lit 17179869184)), (.int .i64 (.lit 6)), (.int .i64 (.lit 10)), (.int .i64 (.lit 0)), (.int .i64 (.lit 1)), (.int .i64 (.lit 3))]), (.agg [(.int .i64 (.lit 536870912)), (.int .i64 (.lit 1288490188800)), (.int .i64 (.lit 4294967296000)), (.int .i64 (.lit 2147483)), (.int .i64 (.lit 64424)), (.int .i64 (.lit 6442450944)), (.int .i64 (.lit 17179869184)), (.int .i64 (.lit 6)), (.int .i64 (.lit 10)), (.int .i64 (.lit 0)), (.int .i64 (.lit 1)), (.int .i64 (.lit 3))]), (.agg [(.int .i64 (.var 1)), (.int .i64 (.var 2))]), (.agg [(.int .i64 (.var 4)), (.int .i64 (.var 5))]), .any, .any, .any, .any, .any, .any, .any, .any, .any, .any, .any, .any, .any, .any, .any, .any, .any, .any, .any, .any, .any, .any, .any, .any, .any, .any, .any, .any, .any, .any, .any, .any, .any, .any, .any, .any, .any, .any, .any, .any, .any, .any, .any, .any, .any, .any, .any, .any, .any, .any, .any, .any, .any, .any, .any, .any, .any, .any, .any, .any, .any, .any, .any, .any, .any, .any, .any, .any, .any, .any], [(1048577, ⟨65, [(.int .i64 (.var 6)), (.int .i64 (.var 7))]⟩), (1048587, ⟨26, [(.int .i64 (.lit 536870912)), (.int .i64 (.lit 1288490188800)), (.int .i64 (.lit 4294967296000)), (.int .i64 (.lit 2147483)), (.int .i64 (.lit 64424)), (.int .i64 (.lit 6442450944)), (.int .i64 (.lit 17179869184)), (.int .i64 (.lit 6)), (.int .i64 (.lit 10)), (.int .i64 (.lit 0)), (.int .i64 (.lit 1)), (.int .i64 (.lit 3))]⟩)]⟩
def phH : St := ⟨Tm.ofL [(.agg [(.int .i64 (.var 1)), (.int .i64 (.var 2))]), (.xs 0), (.int .i64 (.var 3)), (.ptr 1048577 0), U0, U0, (.bool (.lit false)), (.ptr 1048587 0), (.int .i64 (.var 10)), .any, (.xs 0), (.int .i64 (.var 0)), (.bool (.cmp .gtr (.var 0) (.lit 1024))), (.bool (.cmp .gtr (.var 0) (.lit 1024))), (.bool (.lit true)), (.bool (.lit false)), (.bool (.lit false)), U0, (.agg [(.int .i64 (.lit 536870912)), (.int .i64 (.lit 1288490188800)), (.int .i64 (.lit 4294967296000)), (.int .i64 (.lit 2147483)), (.int .i64 (.lit 64424)), (.int .i64 (.lit 6442450944)), (.int .i64 (.lit 17179869184)), (.int .i64 (.lit 6)), (.int .i64 (.lit 10)), (.int .i64 (.lit 0)), (.int .i64 (.lit 1)), (.int .i64 (.lit 3))]), (.agg [(.int .i64 (.lit 536870912)), (.int .i64 (.lit 1288490188800)), (.int .i64 (.lit 4294967296000)), (.int .i64 (.lit 2147483)), (.int .i64 (.lit 64424)), (.int .i64 (.lit 6442450944)), (.int .i64 (.lit 17179869184)), (.int .i64 (.lit 6)), (.int .i64 (.lit 10)), (.int .i64 (.lit 0)), (.int .i64 (.lit 1)), (.int .i64 (.lit 3))]), (.agg [(.int .i64 (.var 1)), (.int .i64 (.var 2))]), (.agg [(.int .i64 (.var 4)), (.int .i64 (.var 5))]), .any, .any, .any, .any, .any, .any, .any, .any, .any, .any, .any, .any, .any, .any, .any, .any, .any, .any, .any, .any, .any, .any, .any, .any, .any, .any, .any, .any, .any, .any, .any, .any, .any, .any, .any, .any, .any, .any, .any, .any, .any, .any, .any, .any, .any, .any, .any, .any, .any, .any, .any, .any, .any, .any, .any, .any, .any, .any, .any, .any, .any, .any, .any, .any, .any, .any, .any, .any, .any, .any], [(1048577, ⟨65, [(.int .i64 (.var 8)), (.int .i64 (.var 9))]⟩), (1048587, ⟨26, [(.int .i64 (.lit 536870912)), (.int .i64 (.lit 1288490188800)), (.int .i64 (.lit 4294967296000)), (.int .i64 (.lit 2147483)), (.int .i64 (.lit 64424)), (.int .i64 (.lit 6442450944)), (.int .i64 (.lit 17179869184)), (.int .i64 (.lit 6)), (.int .i64 (.lit 10)), (.int .i64 (.lit 0)), (.int .i64 (.lit 1)), (.int .i64 (.lit 3))]⟩)]⟩
def phE : List IE := [(.var 0), (.var 1), (.var 2), (.var 3), (.var 4), (.var 5), (.var 6), (.var 7), (.var 4), (.var 5), (.lit 0)]
def phB : List BE := []
def phT : RT :=
(.node (.cmp .lss (.var 10) (.var 0))
 (.node (.cmp .lss (.lit 1) (.pl .sub (.var 11) (.var 8)))
 .dead
 (.node (.cmp .lss (.lit 1) (.pl .sub (.var 8) (.var 11)))
 .dead
 (.node (.cmp .lss (.var 8) (.var 11))
 (.node (.var 0)
 (.go [(.var 0), (.var 1), (.var 2), (.var 3), (.var 4), (.var 5), (.var 6), (.var 7), (.var 11), (.var 12), (.pl .add (.var 10) (.lit 1))] [])
 .dead)
 (.go [(.var 0), (.var 1), (.var 2), (.var 3), (.var 4), (.var 5), (.var 6), (.var 7), (.var 11), (.var 12), (.pl .add (.var 10) (.lit 1))] []))))
 (.stop [(.var 0), (.var 1), (.var 2), (.var 3), (.var 4), (.var 5), (.var 8), (.var 9)] []))

theorem shownP20 (w : World) : Calls Try.prog 33 #[] w fun e w' => e = .returned (.bool true) ∧ Below w.heap.size w w' :=
  law_any (is := []) (bs := []) (fs := []) (rg := []) (args := []) trivial (cr := []) (fun c hc => by cases hc) (.leaf (.bool (.lit true))) (n := 1000) (by kernel_rfl) rfl rfl w
theorem standardP20 (w : World) : Calls Try.prog 31 #[] w fun e w' => e = .returned (stdS.den (envOf []) id) ∧ Below w.heap.size w w' :=
  law_any (is := []) (bs := []) (fs := []) (rg := []) (args := []) trivial (cr := []) (fun c hc => by cases hc) (.leaf stdS) (n := 1000) (by kernel_rfl) rfl rfl w
abbrev kP20 : List (FuncId × List SV × SV) := [(33, [], .bool (.lit true)), (31, [], stdS)]
theorem kP20_ok {ρ : Env} : ∀ c ∈ kP20, Known Try.prog ρ c := by
  intro c hc
  simp only [kP20, List.mem_cons, List.not_mem_nil, or_false] at hc
  rcases hc with rfl | rfl
  · exact fun φ w _ => shownP20 w
  · exact fun φ w _ => standardP20 w
def absI (o : Int) : Int := min (if o < 0 then -o else o) 9223372036854775807
noncomputable def quietI (o j : Int) : Bool := decide (absI o < apN 4 j 17179869184 0)
/-- the next pace -/
def nextI (x : Int × Int) (q : Bool) : Int × Int :=
  if q then (if 30 < x.2 + x.1 then (min (x.1 + 1) 10, 0) else (x.1, x.2 + x.1)) else (if 30 < -(x.2 - 2 * x.1) then (max (x.1 - 1) 6, 0) else (x.1, x.2 - 2 * x.1))
def prV (x : Int × Int) : Value := .agg #[.int .i64 x.1, .int .i64 x.2]
theorem pr_eq {a b c d : Int} (h : a = c) (k : b = d) : (Value.agg #[.int .i64 a, .int .i64 b]) = prV (c, d) := by rw [h, k]; rfl
abbrev pR : Int × Int := (6, 10)
abbrev cR : Int × Int := (-30, 30)
def nxT : Tree :=
(.node (.cmp .lss (.var 2) (.lit 0))
 (.node (.cmp .lss (.pl .mul (.lit 1) (.mn (.ar .sub .u64 (.lit 0) (.wr .u64 (.var 2))) (.lit 9223372036854775807))) (.ap 4 (.var 3) (.lit 17179869184) (.lit 0)))
 (.node (.cmp .lss (.lit 30) (.ar .mul .i64 (.pl .add (.var 1) (.var 0)) (.lit 1)))
 (.node (.cmp .lss (.lit 10) (.pl .add (.var 0) (.lit 1)))
 (.leaf (.agg [(.int .i64 (.lit 10)), (.int .i64 (.lit 0))]))
 (.leaf (.agg [(.int .i64 (.pl .add (.var 0) (.lit 1))), (.int .i64 (.lit 0))])))
 (.leaf (.agg [(.int .i64 (.var 0)), (.int .i64 (.pl .add (.var 1) (.var 0)))])))
 (.node (.cmp .lss (.lit 30) (.ar .mul .i64 (.ar .add .i64 (.var 1) (.ar .mul .i64 (.lit (-2)) (.var 0))) (.lit (-1))))
 (.node (.cmp .lss (.pl .add (.var 0) (.lit (-1))) (.lit 6))
 (.leaf (.agg [(.int .i64 (.lit 6)), (.int .i64 (.lit 0))]))
 (.leaf (.agg [(.int .i64 (.pl .add (.var 0) (.lit (-1)))), (.int .i64 (.lit 0))])))
 (.leaf (.agg [(.int .i64 (.var 0)), (.int .i64 (.ar .add .i64 (.var 1) (.ar .mul .i64 (.lit (-2)) (.var 0))))]))))
 (.node (.cmp .lss (.pl .mul (.lit 1) (.mn (.var 2) (.lit 9223372036854775807))) (.ap 4 (.var 3) (.lit 17179869184) (.lit 0)))
 (.node (.cmp .lss (.lit 30) (.ar .mul .i64 (.pl .add (.var 1) (.var 0)) (.lit 1)))
 (.node (.cmp .lss (.lit 10) (.pl .add (.var 0) (.lit 1)))
 (.leaf (.agg [(.int .i64 (.lit 10)), (.int .i64 (.lit 0))]))
 (.leaf (.agg [(.int .i64 (.pl .add (.var 0) (.lit 1))), (.int .i64 (.lit 0))])))
 (.leaf (.agg [(.int .i64 (.var 0)), (.int .i64 (.pl .add (.var 1) (.var 0)))])))
 (.node (.cmp .lss (.lit 30) (.ar .mul .i64 (.ar .add .i64 (.var 1) (.ar .mul .i64 (.lit (-2)) (.var 0))) (.lit (-1))))
 (.node (.cmp .lss (.pl .add (.var 0) (.lit (-1))) (.lit 6))
 (.leaf (.agg [(.int .i64 (.lit 6)), (.int .i64 (.lit 0))]))
 (.leaf (.agg [(.int .i64 (.pl .add (.var 0) (.lit (-1)))), (.int .i64 (.lit 0))])))
 (.leaf (.agg [(.int .i64 (.var 0)), (.int .i64 (.ar .add .i64 (.var 1) (.ar .mul .i64 (.lit (-2)) (.var 0))))])))))
def qtT : Tree :=
(.node (.cmp .lss (.var 0) (.lit 0))
 (.leaf (.bool (.cmp .gtr (.ap 4 (.var 1) (.lit 17179869184) (.lit 0)) (.pl .mul (.lit 1) (.mn (.ar .sub .u64 (.lit 0) (.wr .u64 (.var 0))) (.lit 9223372036854775807))))))
 (.leaf (.bool (.cmp .gtr (.ap 4 (.var 1) (.lit 17179869184) (.lit 0)) (.pl .mul (.lit 1) (.mn (.var 0) (.lit 9223372036854775807)))))))
def rnT : Tree :=
(.node (.cmp .lss (.var 0) (.lit 6))
 (.node (.cmp .lss (.var 1) (.lit (-30)))
 (.leaf (.agg [(.int .i64 (.lit 6)), (.int .i64 (.lit (-30)))]))
 (.node (.cmp .lss (.lit 30) (.var 1))
 (.leaf (.agg [(.int .i64 (.lit 6)), (.int .i64 (.lit 30))]))
 (.leaf (.agg [(.int .i64 (.lit 6)), (.int .i64 (.var 1))]))))
 (.node (.cmp .lss (.lit 10) (.var 0))
 (.node (.cmp .lss (.var 1) (.lit (-30)))
 (.leaf (.agg [(.int .i64 (.lit 10)), (.int .i64 (.lit (-30)))]))
 (.node (.cmp .lss (.lit 30) (.var 1))
 (.leaf (.agg [(.int .i64 (.lit 10)), (.int .i64 (.lit 30))]))
 (.leaf (.agg [(.int .i64 (.lit 10)), (.int .i64 (.var 1))]))))
 (.node (.cmp .lss (.var 1) (.lit (-30)))
 (.leaf (.agg [(.int .i64 (.var 0)), (.int .i64 (.lit (-30)))]))
 (.node (.cmp .lss (.lit 30) (.var 1))
 (.leaf (.agg [(.int .i64 (.var 0)), (.int .i64 (.lit 30))]))
 (.leaf (.agg [(.int .i64 (.var 0)), (.int .i64 (.var 1))]))))))
theorem neg_size {o : Int} (h : InI o) (hn : o < 0) : arI .sub .u64 0 (IntKind.u64.wrap o) = -o := by
  have := h.1
  show IntKind.u64.wrap (0 - IntKind.u64.wrap o) = _
  rw [IntKind.wrap_u64, IntKind.wrap_u64]; omega
theorem wr64 {x : Int} (h0 : -9223372036854775808 ≤ x) (h1 : x ≤ 9223372036854775807) : IntKind.i64.wrap x = x := by rw [IntKind.wrap_i64]; omega
theorem nxT_val (p c o j : Int) (hp : 6 ≤ p ∧ p ≤ 10) (hc : -30 ≤ c ∧ c ≤ 30) (ho : InI o) : nxT.val (envOf [p, c, o, j] (ap := apN)) = prV (nextI (p, c) (quietI o j)) := by
  have ho1 := ho.1
  have ho2 := ho.2
  have w1 : arI .mul .i64 (c + p) 1 = c + p := by show IntKind.i64.wrap _ = _; rw [wr64 (by omega) (by omega)]; omega
  have w2 : arI .mul .i64 (-2) p = -2 * p := by show IntKind.i64.wrap _ = _; rw [wr64 (by omega) (by omega)]
  have w3 : arI .add .i64 c (-2 * p) = c - 2 * p := by show IntKind.i64.wrap _ = _; rw [wr64 (by omega) (by omega)]; omega
  have w4 : arI .mul .i64 (c - 2 * p) (-1) = -(c - 2 * p) := by show IntKind.i64.wrap _ = _; rw [wr64 (by omega) (by omega)]; omega
  have ea : ∀ x y : Int, plI .add x y = x + y := fun _ _ => rfl
  have em : ∀ x : Int, plI .mul 1 x = x := fun x => by show 1 * x = x; omega
  simp only [nxT, Tree.val, BE.den, cmpI, SV.den, SV.denL, IE.den, Bool.cond_decide, List.getD_cons_zero, List.getD_cons_succ, ea, em, w1, w2, w3, w4]
  have hq : quietI o j = decide (absI o < apN 4 j 17179869184 0) := rfl
  have hA : o < 0 → mnI (arI .sub .u64 0 (IntKind.u64.wrap o)) 9223372036854775807 = absI o := fun hn => by
    rw [neg_size ho hn]; unfold absI mnI; rw [if_pos hn]; split <;> omega
  have hB : ¬ o < 0 → mnI o 9223372036854775807 = absI o := fun hn => by unfold absI mnI; rw [if_neg hn]; split <;> omega
  rw [hq]
  generalize apN 4 j 17179869184 0 = J at *
  by_cases c0 : o < 0
  · rw [if_pos c0, hA c0]
    by_cases c1 : absI o < J
    · rw [if_pos c1, decide_eq_true c1]
      simp only [nextI, if_true]
      by_cases c2 : 30 < c + p
      · rw [if_pos c2, if_pos c2]
        split
        · exact pr_eq (by omega) rfl
        · exact pr_eq (by omega) rfl
      · rw [if_neg c2, if_neg c2]; exact pr_eq rfl rfl
    · rw [if_neg c1, decide_eq_false c1]
      simp only [nextI, Bool.false_eq_true, if_false]
      by_cases c2 : 30 < -(c - 2 * p)
      · rw [if_pos c2, if_pos c2]
        split
        · exact pr_eq (by omega) rfl
        · exact pr_eq (by omega) rfl
      · rw [if_neg c2, if_neg c2]; exact pr_eq rfl rfl
  · rw [if_neg c0, hB c0]
    by_cases c1 : absI o < J
    · rw [if_pos c1, decide_eq_true c1]
      simp only [nextI, if_true]
      by_cases c2 : 30 < c + p
      · rw [if_pos c2, if_pos c2]
        split
        · exact pr_eq (by omega) rfl
        · exact pr_eq (by omega) rfl
      · rw [if_neg c2, if_neg c2]; exact pr_eq rfl rfl
    · rw [if_neg c1, decide_eq_false c1]
      simp only [nextI, Bool.false_eq_true, if_false]
      by_cases c2 : 30 < -(c - 2 * p)
      · rw [if_pos c2, if_pos c2]
        split
        · exact pr_eq (by omega) rfl
        · exact pr_eq (by omega) rfl
      · rw [if_neg c2, if_neg c2]; exact pr_eq rfl rfl
theorem next_any (p c o j : Int) (hp : 6 ≤ p ∧ p ≤ 10) (hc : -30 ≤ c ∧ c ≤ 30) (ho : InI o) (hj : InI j) (w : World) :
    Calls Try.prog 35 #[stdS.den (envOf []) id, prV (p, c), .int .i64 o, .int .i64 j] w fun e w' => e = .returned (prV (nextI (p, c) (quietI o j))) ∧ Below w.heap.size w w' :=
  law_any (bs := []) (fs := []) (is := [p, c, o, j]) (rg := [pR, cR, i64R, i64R]) (args := [stdS, .agg [.int .i64 (.var 0), .int .i64 (.var 1)], .int .i64 (.var 2), .int .i64 (.var 3)]) ⟨hp, hc, ho, hj, trivial⟩ (cr := []) (fun c hc => by cases hc) nxT (n := 400) (by kernel_rfl) (Tree.whole_live (by kernel_rfl)) (nxT_val p c o j hp hc ho) w
theorem quiet_any (o j : Int) (ho : InI o) (hj : InI j) (w : World) :
    Calls Try.prog 32 #[stdS.den (envOf []) id, .int .i64 o, .int .i64 j] w fun e w' => e = .returned (.bool (quietI o j)) ∧ Below w.heap.size w w' :=
  law_any (bs := []) (fs := []) (is := [o, j]) (rg := [i64R, i64R]) (args := [stdS, .int .i64 (.var 0), .int .i64 (.var 1)]) ⟨ho, hj, trivial⟩ (cr := []) (fun c hc => by cases hc) qtT (n := 400) (by kernel_rfl) (Tree.whole_live (by kernel_rfl)) (by
    have em : ∀ x : Int, plI .mul 1 x = x := fun x => by show 1 * x = x; omega
    have hA : o < 0 → mnI (arI .sub .u64 0 (IntKind.u64.wrap o)) 9223372036854775807 = absI o := fun hn => by
      have := ho.1
      rw [neg_size ho hn]; unfold absI mnI; rw [if_pos hn]; split <;> omega
    have hB : ¬ o < 0 → mnI o 9223372036854775807 = absI o := fun hn => by
      have := ho.2
      unfold absI mnI; rw [if_neg hn]; split <;> omega
    simp only [qtT, Tree.val, BE.den, cmpI, SV.den, IE.den, Bool.cond_decide, List.getD_cons_zero, List.getD_cons_succ, em]
    by_cases c0 : o < 0
    · rw [if_pos c0, hA c0]; rfl
    · rw [if_neg c0, hB c0]; rfl) w
def heldI (p c : Int) : Int × Int := (max 6 (min 10 p), max (-30) (min 30 c))
theorem run_any (p c : Int) (hp : InI p) (hc : InI c) (w : World) :
    Calls Try.prog 34 #[stdS.den (envOf []) id, prV (p, c), .slice none 0 0] w fun e w' => e = .returned (prV (heldI p c)) ∧ Below w.heap.size w w' :=
  law_any (bs := []) (fs := []) (is := [p, c]) (rg := [i64R, i64R]) (args := [stdS, .agg [.int .i64 (.var 0), .int .i64 (.var 1)], .raw (.slice none 0 0)]) ⟨hp, hc, trivial⟩ (cr := []) (fun c hc => by cases hc) rnT (n := 400) (by kernel_rfl) (Tree.whole_live (by kernel_rfl)) (by
    simp only [rnT, Tree.val, BE.den, cmpI, SV.den, SV.denL, IE.den, Bool.cond_decide, List.getD_cons_zero, List.getD_cons_succ]
    repeat' split
    all_goals exact pr_eq (by omega) (by omega)) w
theorem nextI_in {x : Int × Int} (q : Bool) (h1 : 6 ≤ x.1 ∧ x.1 ≤ 10) (h2 : -30 ≤ x.2 ∧ x.2 ≤ 30) : (6 ≤ (nextI x q).1 ∧ (nextI x q).1 ≤ 10) ∧ (-30 ≤ (nextI x q).2 ∧ (nextI x q).2 ≤ 30) ∧ (nextI x q).1 - x.1 ≤ 1 ∧ x.1 - (nextI x q).1 ≤ 1 ∧ (x.1 < (nextI x q).1 → q = true) := by
  have m1 : min (x.1 + 1) 10 ≤ x.1 + 1 ∧ min (x.1 + 1) 10 ≤ 10 ∧ x.1 ≤ min (x.1 + 1) 10 := by omega
  have m2 : x.1 - 1 ≤ max (x.1 - 1) 6 ∧ 6 ≤ max (x.1 - 1) 6 ∧ max (x.1 - 1) 6 ≤ x.1 := by omega
  unfold nextI
  generalize min (x.1 + 1) 10 = mn at *
  generalize max (x.1 - 1) 6 = mx at *
  cases q <;> simp only [if_true, if_false, Bool.false_eq_true]
  all_goals (split <;> (dsimp only; refine ⟨⟨by omega, by omega⟩, ⟨by omega, by omega⟩, by omega, by omega, fun h => ?_⟩; first | trivial | rfl | (exfalso; omega)))
/-- what becomes of a pace -/
noncomputable def pIt (off : Int → Int) (j : Int) (x : Int × Int) : Nat → Int × Int
  | 0 => x
  | k + 1 => nextI (pIt off j x k) (quietI (off k) j)
theorem pIt_in {off : Int → Int} {j : Int} {x : Int × Int} (h1 : 6 ≤ x.1 ∧ x.1 ≤ 10) (h2 : -30 ≤ x.2 ∧ x.2 ≤ 30) : ∀ k : Nat, (6 ≤ (pIt off j x k).1 ∧ (pIt off j x k).1 ≤ 10) ∧ (-30 ≤ (pIt off j x k).2 ∧ (pIt off j x k).2 ≤ 30)
  | 0 => ⟨h1, h2⟩
  | k + 1 => by
    obtain ⟨g1, g2⟩ := pIt_in (off := off) (j := j) h1 h2 k
    have := nextI_in (quietI (off k) j) g1 g2
    exact ⟨this.1, this.2.1⟩
theorem heldI_in (p c : Int) : (6 ≤ (heldI p c).1 ∧ (heldI p c).1 ≤ 10) ∧ (-30 ≤ (heldI p c).2 ∧ (heldI p c).2 ≤ 30) := by
  unfold heldI; dsimp only; omega
abbrev phR : List (Int × Int) := [(1, 1024), i64R, i64R, i64R, pR, cR, pR, cR]
abbrev phRx : List (Int × Int) := phR ++ [pR, cR, (0, 1024), pR, cR]
noncomputable abbrev phAr : List (Int × Int) := arN ++ [i64R]
abbrev phXs : List XD := [⟨0, 20, [.int .i64]⟩]
abbrev phK0 : List (FuncId × List SV × SV) := kP20 ++ [(34, [stdS, .agg [.int .i64 (.var 1), .int .i64 (.var 2)], .raw (.slice none 0 0)], .agg [.int .i64 (.var 4), .int .i64 (.var 5)])]
abbrev phK : List (FuncId × List SV × SV) := [(35, [stdS, .agg [.int .i64 (.var 8), .int .i64 (.var 9)], .int .i64 (.ap 20 (.var 10) (.lit 0) (.lit 0)), .int .i64 (.var 3)], .agg [.int .i64 (.var 11), .int .i64 (.var 12)]), (32, [stdS, .int .i64 (.ap 20 (.var 10) (.lit 0) (.lit 0)), .int .i64 (.var 3)], .bool (.var 0))] ++ kP20
noncomputable abbrev phX : Ctx := { pc := [], cr := phK ++ crS, rg := phRx, ar := phAr, ct := conCt phRx phAr consN, xs := phXs }
abbrev phP : List Nat := [0, 1, 0, 1, 1, 1, 1]
theorem ph_lpB : lpB Try.prog phX 600 12 phP 1 phL phH phT phE phB = true := by kernel_rfl
noncomputable abbrev phLaw (off : Int → Int) (n p c j : Int) : List Int := [n, p, c, j, (heldI p c).1, (heldI p c).2, (pIt off j (heldI p c) n.toNat).1, (pIt off j (heldI p c) n.toNat).2]
noncomputable abbrev phHd (off : Int → Int) (n p c j : Int) (k : Nat) : List Int := phLaw off n p c j ++ [(pIt off j (heldI p c) k).1, (pIt off j (heldI p c) k).2, (k : Int)]
noncomputable abbrev phSt (off : Int → Int) (n p c j : Int) (k : Nat) : List Int := phHd off n p c j k ++ [(nextI (pIt off j (heldI p c) k) (quietI (off k) j)).1, (nextI (pIt off j (heldI p c) k) (quietI (off k) j)).2]
theorem ph_rg {ρ : Env} {off : Int → Int} {n p c j : Int} (hp : InI p) (hc : InI c) (hj : InI j) (hn : 1 ≤ n ∧ n ≤ 1024) {k : Nat} (hk : (k : Int) ≤ n) (bs : List Bool) : AllIn (ρ.on (phSt off n p c j k) bs).i phRx 0 := by
  obtain ⟨h1, h2⟩ := heldI_in p c
  obtain ⟨g1, g2⟩ := pIt_in (off := off) (j := j) h1 h2 k
  obtain ⟨f1, f2⟩ := pIt_in (off := off) (j := j) h1 h2 n.toNat
  obtain ⟨e1, e2, _⟩ := nextI_in (quietI (off k) j) g1 g2
  simp only [AllIn, Env.on, phSt, phHd, phLaw, List.cons_append, List.nil_append, List.getD_cons_zero, List.getD_cons_succ]
  exact ⟨hn, hp, hc, hj, h1, h2, f1, f2, g1, g2, ⟨by omega, by omega⟩, e1, e2, trivial⟩
theorem ph_arIn {ρ : Env} {off : Int → Int} (ha : ρ.a = apR [off]) (ho : ∀ a, InI (off a)) : ArIn ρ phAr := by
  refine arIn_R ha (fun i v h a => ?_)
  rcases i with _ | i <;> simp at h
  subst h
  exact ho a
theorem ph_next {ρ : Env} {off : Int → Int} {n p c j : Int} {k : Nat} (hk : (k : Int) < n) :
    phT.next (ρ.on (phSt off n p c j k) [quietI (off k) j]) = some (phHd off n p c j (k + 1), []) := by
  obtain ⟨h1, h2⟩ := heldI_in p c
  obtain ⟨g1, g2⟩ := pIt_in (off := off) (j := j) h1 h2 k
  obtain ⟨_, _, d1, d2, d3⟩ := nextI_in (quietI (off k) j) g1 g2
  simp only [phT, RT.next, BE.den, cmpI, IE.den, Env.on, phSt, phHd, phLaw, List.cons_append, List.nil_append, List.getD_cons_zero, List.getD_cons_succ, dens, bdens, List.map_cons, List.map_nil, plI, pIt]
  generalize pIt off j (heldI p c) k = x at *
  generalize quietI (off k) j = q at *
  generalize nextI x q = y at *
  rw [decide_eq_true hk, cond_true, decide_eq_false (by omega), cond_false, decide_eq_false (by omega), cond_false]
  by_cases c1 : x.1 < y.1
  · rw [decide_eq_true c1, cond_true, d3 c1, cond_true]; rfl
  · rw [decide_eq_false c1, cond_false]; rfl
theorem ph_loop {W : World} {v : Value} {B : Ext} {off : Int → Int} (hB : XIn [.int .i64] W v B [off]) (ho : ∀ a, InI (off a)) (n p c j : Int) (hn : 1 ≤ n ∧ n ≤ 1024) (hnB : n = B.len) (hp : InI p) (hc' : InI c) (hj : InI j) {E : List (Nat × Nat)} {w0 : World} {φ0 : Nat → Nat} {st0 : Store} {cd : Code} (hc : codeAt Try.prog 12 phP = .loop cd) {st : Store} (hbl : ∀ q ∈ phL.bl, Store.get st q.1 = some q.2) {a : Act} {w : World}
    (hr : RelF (envOf (phLaw off n p c j) [] [] [] (apR [off]) [some B]) E w0 φ0 st0 ⟨phL.tm, st⟩ a w) {Q : Exit → Act → World → Prop} (hQ : ∀ a' w', RelF (envOf (phLaw off n p c j) [] [] [] (apR [off]) [some B]) E w0 φ0 st0 ⟨phL.tm', setAll st phL.bl'⟩ a' w' → Q phL.ex.to a' w') : (Code.loop cd).wp Try.prog Q a w := by
  generalize hρ : envOf (phLaw off n p c j) [] [] [] (apR [off]) [some B] = ρ at hr hQ
  have ha : ρ.a = apR [off] := by rw [← hρ]
  have hx : ρ.x 0 = some B := by rw [← hρ]; rfl
  refine rt_lpx ph_lpB hc (fun m is bs => ∃ k : Nat, (k : Int) ≤ n ∧ m = n.toNat - k ∧ bs = [quietI (off k) j] ∧ is = phSt off n p c j k) ?_ ?_ ⟨n.toNat, phSt off n p c j 0, _, ⟨0, by omega, rfl, rfl, rfl⟩, ?_, ?_⟩ ?_ hbl hr hQ
  · rintro m is bs ⟨k, hk, _, rfl, rfl⟩
    refine knows_env rfl (ph_rg hp hc' hj hn hk _) (ph_arIn (by exact ha) ho) (xs_one (xok_one hB (by exact ha) ?_) hx)
    exact hnB
  · rintro m is bs ⟨k, hk, _, rfl, rfl⟩ E
    obtain ⟨h1, h2⟩ := heldI_in p c
    obtain ⟨g1, g2⟩ := pIt_in (off := off) (j := j) h1 h2 k
    refine knowsC_all (AllIn.get0 (ph_rg hp hc' hj hn hk _)) (numA_R ha) (ph_arIn (by exact ha) ho) (fun c0 hc0 => ?_) LpOk.none
    have e0 : ρ.a 20 k 0 0 = off k := by rw [ha]; rfl
    rcases List.mem_append.1 hc0 with hc0 | hc0
    · simp only [List.mem_cons, List.not_mem_nil, or_false] at hc0
      rcases hc0 with rfl | rfl
      · intro φ w _
        have key := next_any _ _ (off k) j g1 g2 (ho k) hj w
        have e2 : SV.denL (ρ.on (phSt off n p c j k) [quietI (off k) j]) φ [stdS, .agg [.int .i64 (.var 8), .int .i64 (.var 9)], .int .i64 (.ap 20 (.var 10) (.lit 0) (.lit 0)), .int .i64 (.var 3)] = [stdS.den (envOf []) id, prV ((pIt off j (heldI p c) k).1, (pIt off j (heldI p c) k).2), .int .i64 (off k), .int .i64 j] := by
          rw [← e0]; rfl
        show Calls _ _ (SV.denL _ φ [stdS, .agg [.int .i64 (.var 8), .int .i64 (.var 9)], .int .i64 (.ap 20 (.var 10) (.lit 0) (.lit 0)), .int .i64 (.var 3)]).toArray w _
        rw [e2]
        exact key
      · intro φ w _
        have key := quiet_any (off k) j (ho k) hj w
        have e2 : SV.denL (ρ.on (phSt off n p c j k) [quietI (off k) j]) φ [stdS, .int .i64 (.ap 20 (.var 10) (.lit 0) (.lit 0)), .int .i64 (.var 3)] = [stdS.den (envOf []) id, .int .i64 (off k), .int .i64 j] := by
          rw [← e0]; rfl
        show Calls _ _ (SV.denL _ φ [stdS, .int .i64 (.ap 20 (.var 10) (.lit 0) (.lit 0)), .int .i64 (.var 3)]).toArray w _
        rw [e2]
        exact key
    · exact kP20_ok c0 hc0
  · rw [← hρ]
    exact ⟨_, rfl⟩
  · exact ⟨_, rfl⟩
  · rintro m is bs ⟨k, hk, rfl, rfl, rfl⟩
    by_cases hlt : (k : Int) < n
    · exact .inl ⟨_, [], n.toNat - (k + 1), phSt off n p c j (k + 1), _, ph_next hlt, by omega, ⟨k + 1, by omega, rfl, rfl, rfl⟩, ⟨_, rfl⟩, ⟨_, rfl⟩⟩
    · obtain rfl : k = n.toNat := by omega
      refine .inr ⟨phLaw off n p c j, [], ?_, ?_⟩
      · have hlt' : ¬ ((n.toNat : Nat) : Int) < n := by omega
        simp only [phT, RT.out, BE.den, cmpI, IE.den, Env.on, phSt, phHd, phLaw, List.cons_append, List.nil_append, List.getD_cons_zero, List.getD_cons_succ, dens, bdens, List.map_cons, List.map_nil, decide_eq_false hlt', cond_false]
      · rw [← hρ]; exact envOf_has _ _ _ _ _ _
theorem ph_empty (a : Option Addr) (cap : Nat) : (Tree.leaf (.bool (.lit true))).check Try.prog { pc := [], cr := phK0 ++ crS, rg := [(0, 0), i64R, i64R, i64R, pR, cR], ar := arN, ct := conCt [(0, 0), i64R, i64R, i64R, pR, cR] arN consN } 600 12 [.agg [.int .i64 (.var 1), .int .i64 (.var 2)], .raw (.slice a 0 cap), .int .i64 (.var 3)] = true := by
  kernel_rfl
theorem paceHeld_walk {W : World} {v : Value} (hv : IsXs [.int .i64] W v) (p c j : Int) (hp : InI p) (hc : InI c) (hj : InI j) :
    Calls Try.prog 12 #[.agg #[.int .i64 p, .int .i64 c], v, .int .i64 j] W fun e w' => e = .returned (.bool true) ∧ Below W.heap.size W w' := by
  obtain ⟨h1, h2⟩ := heldI_in p c
  have run : ∀ {ρ : Env}, ρ.i 1 = p → ρ.i 2 = c → ρ.i 4 = (heldI p c).1 → ρ.i 5 = (heldI p c).2 → ∀ c0 ∈ phK0, Known Try.prog ρ c0 := by
    intro ρ i1 i2 i4 i5 c0 hc0
    rcases List.mem_append.1 hc0 with hc0 | hc0
    · exact kP20_ok c0 hc0
    · rw [List.mem_singleton.1 hc0]
      intro φ w _
      have key := run_any p c hp hc w
      have e2 : SV.denL ρ φ [stdS, .agg [.int .i64 (.var 1), .int .i64 (.var 2)], .raw (.slice none 0 0)] = [stdS.den (envOf []) id, prV (p, c), .slice none 0 0] := by
        rw [← i1, ← i2]; rfl
      have e3 : (SV.agg [.int .i64 (.var 4), .int .i64 (.var 5)]).den ρ φ = prV (heldI p c) := by
        show prV (ρ.i 4, ρ.i 5) = _
        rw [i4, i5]
      show Calls _ _ (SV.denL ρ φ [stdS, .agg [.int .i64 (.var 1), .int .i64 (.var 2)], .raw (.slice none 0 0)]).toArray w fun e w' => e = .returned ((SV.agg [.int .i64 (.var 4), .int .i64 (.var 5)]).den ρ φ) ∧ _
      rw [e2, e3]
      exact key
  rcases hv.rows with ⟨a, cap, rfl⟩ | ⟨B, rows, hB⟩
  · exact law_any (bs := []) (fs := []) (is := [0, p, c, j, (heldI p c).1, (heldI p c).2]) (rg := [(0, 0), i64R, i64R, i64R, pR, cR]) (args := [.agg [.int .i64 (.var 1), .int .i64 (.var 2)], .raw (.slice a 0 cap), .int .i64 (.var 3)]) ⟨⟨Int.le_refl _, Int.le_refl _⟩, hp, hc, hj, h1, h2, trivial⟩ (cr := phK0) (run rfl rfl rfl rfl) _ (n := 600) (ph_empty a cap) rfl rfl W
  · obtain ⟨off, rfl⟩ : ∃ off, rows = [off] := by
      have := hB.len
      match rows, this with
      | [x], _ => exact ⟨x, rfl⟩
    have ho : ∀ a, InI (off a) := hB.rg 0 _ rfl
    have hpos := hB.pos
    by_cases hl : B.len ≤ 1024
    · obtain ⟨f1, f2⟩ := pIt_in (off := off) (j := j) h1 h2 B.len
      have key := law_all (ρ := envOf (phLaw off B.len p c j) [] [] [] (apR [off]) [some B]) (rg := phR) (ar := phAr) (f := 12) (args := [.agg [.int .i64 (.var 1), .int .i64 (.var 2)], .xs 0, .int .i64 (.var 3)])
        (by
          simp only [AllIn, phLaw, List.getD_cons_zero, List.getD_cons_succ, Int.toNat_natCast]
          exact ⟨⟨by omega, by omega⟩, hp, hc, hj, h1, h2, f1, f2, trivial⟩)
        (numA_R rfl) (ph_arIn rfl ho) (cr := phK0) (run rfl rfl rfl rfl) (lp := fun f p _ => if Nat.beq f 12 && decide (p = phP) then some phL else none) ?_ (xs := phXs) (xs_one (xok_one hB rfl rfl) rfl) (.leaf (.bool (.lit true))) (n := 600) (by kernel_rfl) rfl rfl W (ext_one hB rfl)
      · have e : SV.denL (envOf (phLaw off B.len p c j) [] [] [] (apR [off]) [some B]) id [.agg [.int .i64 (.var 1), .int .i64 (.var 2)], .xs 0, .int .i64 (.var 3)] = [.agg #[.int .i64 p, .int .i64 c], v, .int .i64 j] := by
          rw [hB.val]; rfl
        rw [e] at key
        exact key
      · intro f p' u L hL cd hcd st hbl _ w0 φ0 st0 a w hr Q hQ
        dsimp only at hL
        split at hL
        · rename_i hfp
          simp only [Bool.and_eq_true, Nat.beq_eq, decide_eq_true_eq] at hfp
          obtain ⟨rfl, rfl⟩ := hfp
          cases hL
          exact ph_loop hB ho B.len p c j ⟨by omega, by omega⟩ rfl hp hc hj hcd hbl hr hQ
        · cases hL
    · have hle := hB.le
      have key := law_all (ρ := envOf [(B.len : Int), p, c, j] [] [] [] (apR [off]) [some B]) (rg := [(1025, 9223372036854775807), i64R, i64R, i64R]) (ar := phAr) (f := 12) (args := [.agg [.int .i64 (.var 1), .int .i64 (.var 2)], .xs 0, .int .i64 (.var 3)])
        ⟨⟨by show (1025 : Int) ≤ (B.len : Nat); omega, by show ((B.len : Nat) : Int) ≤ 9223372036854775807; unfold maxLen at hle; omega⟩, hp, hc, hj, trivial⟩ (numA_R rfl) (ph_arIn rfl ho) (cr := kP20) kP20_ok LpOk.none (xs := phXs) (xs_one (xok_one hB rfl rfl) rfl) (.leaf (.bool (.lit true))) (n := 600) (by kernel_rfl) rfl rfl W (ext_one hB rfl)
      have e : SV.denL (envOf [(B.len : Int), p, c, j] [] [] [] (apR [off]) [some B]) id [.agg [.int .i64 (.var 1), .int .i64 (.var 2)], .xs 0, .int .i64 (.var 3)] = [.agg #[.int .i64 p, .int .i64 c], v, .int .i64 j] := by
        rw [hB.val]; rfl
      rw [e] at key
      exact key
end Go.Proofs.Ytmgfnejiienghaa
