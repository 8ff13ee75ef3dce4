/- Law 12: what is shown; what a stratum of nought says; causes. -/
import Derived.Test.YtmgfnejiienghaaEvT
namespace Go.Proofs.Ytmgfnejiienghaa
open Go Go.RowKit Ev
set_option linter.unusedVariables false
set_option linter.unusedSimpArgs false
set_option maxRecDepth 100000

abbrev i64J : Int × Int := (-9223372036854775808, 9223372036854775807)
abbrev u64J : Int × Int := (0, 18446744073709551615)
abbrev u32J : Int × Int := (0, 4294967295)
/-- a kiss: of a stratum, and a reference -/
def kissN (s r : Int) : Int := if r = 1145392729 then (if s = 0 then 1 else 0) else if r = 1380013125 then (if s = 0 then 3 else 0) else if r = 1381192786 then (if s = 0 then 2 else 0) else (if s = 0 then 4 else 0)
theorem kissN_in (s r : Int) : 0 ≤ kissN s r ∧ kissN s r ≤ 4 := by unfold kissN; repeat' split <;> omega
def kissT : Tree :=
 (.node (.cmp .eql (.var 1) (.lit 1145392729))
 (.node (.cmp .eql (.var 0) (.lit 0))
 (.leaf (.int .i64 (.lit 1)))
 (.leaf (.int .i64 (.lit 0))))
 (.node (.cmp .eql (.var 1) (.lit 1380013125))
 (.node (.cmp .eql (.var 0) (.lit 0))
 (.leaf (.int .i64 (.lit 3)))
 (.leaf (.int .i64 (.lit 0))))
 (.node (.cmp .eql (.var 1) (.lit 1381192786))
 (.node (.cmp .eql (.var 0) (.lit 0))
 (.leaf (.int .i64 (.lit 2)))
 (.leaf (.int .i64 (.lit 0))))
 (.node (.cmp .eql (.var 0) (.lit 0))
 (.leaf (.int .i64 (.lit 4)))
 (.leaf (.int .i64 (.lit 0)))))))
theorem kissT_ok : kissT.check Try.prog { pc := [], rg := [i64J, u32J] } 400 118 [.int .i64 (.var 0), .int .u32 (.var 1)] = true := by kernel_rfl
theorem kiss_any (s r : Int) (s0 : -9223372036854775808 ≤ s ∧ s ≤ 9223372036854775807) (r0 : 0 ≤ r ∧ r ≤ 4294967295) (w : World) :
    Calls Try.prog 118 #[.int .i64 s, .int .u32 r] w fun e w' => e = .returned (.int .i64 (kissN s r)) ∧ Below w.heap.size w w' := by
  have h := tree_sound (P := Try.prog) mixed (ρ := envOf [s, r]) (n := 400) (f := 118) (args := [.int .i64 (.var 0), .int .u32 (.var 1)]) kissT (X := { pc := [], rg := [i64J, u32J] })
    (knows_env rfl ⟨s0, r0, trivial⟩ (fun f v h => by cases h)) (knowsC_none rfl rfl rfl) (Tree.ok_of_check kissT_ok) (Tree.whole_live (by kernel_rfl)) w
  have e : kissT.val (envOf [s, r]) = .int .i64 (kissN s r) := by
    simp only [kissT, Tree.val, BE.den, cmpI, SV.den, IE.den, List.getD_cons_zero, List.getD_cons_succ, kissN, beq_iff_eq, Bool.cond_eq_ite]
    repeat' split
    all_goals rfl
  rw [e] at h
  exact h
theorem shown12 (w : World) : Calls Try.prog 28 #[] w fun e w' => e = .returned (.bool true) ∧ Below w.heap.size w w' := by
  have h := tree_sound (P := Try.prog) mixed (ρ := envOf [] (ap := apN)) (.leaf (.bool (.lit true))) (n := 1000) (f := 28) (args := []) (X := { pc := [], cr := crS, ar := arN, ct := conCt [] arN consN }) (knows_env rfl trivial arN_ok)
    ⟨crS_ok, fun pc hpc f vs v h _ φ w _ => conCt_ok (fun i v h => by simp at h) arN_ok (consN_ok (numA_N rfl)) hpc h φ w, fun f p u L h => (by cases h)⟩ (Tree.ok_of_check (by kernel_rfl)) rfl w
  exact h
theorem known12 {ρ : Env} : Known Try.prog ρ (28, [], .bool (.lit true)) := fun φ w _ => shown12 w
/-- a kiss is known -/
theorem knownKiss {ρ : Env} {a b : IE} {n : Nat} (ha : -9223372036854775808 ≤ a.den ρ ∧ a.den ρ ≤ 9223372036854775807) (hb : 0 ≤ b.den ρ ∧ b.den ρ ≤ 4294967295) (hn : ρ.i n = kissN (a.den ρ) (b.den ρ)) : Known Try.prog ρ (118, [.int .i64 a, .int .u32 b], .int .i64 (.var n)) := fun φ w _ => by
  have h := kiss_any (a.den ρ) (b.den ρ) ha hb w
  show Calls _ _ _ w fun e w' => e = .returned (.int .i64 (ρ.i n)) ∧ _
  rw [hn]
  exact h
/-- the cause of what became of a packet -/
def causeN (e : Int) : Int := if e = 0 then 0 else if e = 50 then 1 else if e = 60 then 1 else if e = 1 then 1 else if e = 51 then 2 else if e = 120 then 3 else if e = 121 then 4 else if e = 122 then 5 else if e = 123 then 6 else if e = 124 then 7 else if e = 125 then 8 else 9
theorem causeN_in (e : Int) : 0 ≤ causeN e ∧ causeN e ≤ 9 := by unfold causeN; repeat' split <;> omega
def causeT : Tree :=
 (.node (.cmp .eql (.var 0) (.lit 0)) (.leaf (.int .i64 (.lit 0)))
 (.node (.cmp .eql (.var 0) (.lit 50)) (.leaf (.int .i64 (.lit 1)))
 (.node (.cmp .eql (.var 0) (.lit 60)) (.leaf (.int .i64 (.lit 1)))
 (.node (.cmp .eql (.var 0) (.lit 1)) (.leaf (.int .i64 (.lit 1)))
 (.node (.cmp .eql (.var 0) (.lit 51)) (.leaf (.int .i64 (.lit 2)))
 (.node (.cmp .eql (.var 0) (.lit 120)) (.leaf (.int .i64 (.lit 3)))
 (.node (.cmp .eql (.var 0) (.lit 121)) (.leaf (.int .i64 (.lit 4)))
 (.node (.cmp .eql (.var 0) (.lit 122)) (.leaf (.int .i64 (.lit 5)))
 (.node (.cmp .eql (.var 0) (.lit 123)) (.leaf (.int .i64 (.lit 6)))
 (.node (.cmp .eql (.var 0) (.lit 124)) (.leaf (.int .i64 (.lit 7)))
 (.node (.cmp .eql (.var 0) (.lit 125)) (.leaf (.int .i64 (.lit 8)))
 (.leaf (.int .i64 (.lit 9))))))))))))))
theorem causeT_ok : causeT.check Try.prog { pc := [], rg := [i64J] } 400 49 [.int .i64 (.var 0)] = true := by kernel_rfl
theorem cause_any (e : Int) (e0 : -9223372036854775808 ≤ e ∧ e ≤ 9223372036854775807) (w : World) :
    Calls Try.prog 49 #[.int .i64 e] w fun x w' => x = .returned (.int .i64 (causeN e)) ∧ Below w.heap.size w w' := by
  have h := tree_sound (P := Try.prog) mixed (ρ := envOf [e]) (n := 400) (f := 49) (args := [.int .i64 (.var 0)]) causeT (X := { pc := [], rg := [i64J] })
    (knows_env rfl ⟨e0, trivial⟩ (fun f v h => by cases h)) (knowsC_none rfl rfl rfl) (Tree.ok_of_check causeT_ok) (Tree.whole_live (by kernel_rfl)) w
  have e : causeT.val (envOf [e]) = .int .i64 (causeN e) := by
    show (cond (e == 0) (.int .i64 0) (cond (e == 50) (.int .i64 1) (cond (e == 60) (.int .i64 1) (cond (e == 1) (.int .i64 1) (cond (e == 51) (.int .i64 2) (cond (e == 120) (.int .i64 3) (cond (e == 121) (.int .i64 4) (cond (e == 122) (.int .i64 5) (cond (e == 123) (.int .i64 6) (cond (e == 124) (.int .i64 7) (cond (e == 125) (.int .i64 8) (.int .i64 9))))))))))) : Value) = _
    unfold causeN
    simp only [Bool.cond_eq_ite, beq_iff_eq, apply_ite (Value.int .i64)]
  rw [e] at h
  exact h
end Go.Proofs.Ytmgfnejiienghaa
