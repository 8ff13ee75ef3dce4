/- Law 19: what an update does. -/
import Derived.Test.YthhipnhnpjhaaaaT19
import Derived.Test.YthhipnhnpjhaaaaEvT
namespace Go.Proofs.Ythhipnhnpjhaaaa
open Go Go.RowKit Ev
set_option linter.unusedVariables false
set_option linter.unusedSimpArgs false
set_option maxRecDepth 100000

noncomputable def smI (a b : Int) : Int := apN 9 (apN 1 (apN 4 a a 0) (apN 3 (apN 2 (apN 4 b b 0) (apN 4 a a 0) 0) (-2) 0) 0) 0 0
noncomputable def turnI (o off g p : Int) : Int :=
  if 8796093022208 < g then apN 1 (apN 3 (apN 4 (mnI g (apN 3 4294967296 (mnI (mxI p 4) 17) 0)) off 0) (-8 - 2 * mnI (mxI p 4) 17) 0) (apN 3 (apN 8 (apN 2 off o 0) g 0) (-2) 0) 0
  else apN 3 (apN 4 (mnI g (apN 3 4294967296 (mnI (mxI p 4) 17) 0)) off 0) (-8 - 2 * mnI (mxI p 4) 17) 0
noncomputable def holdI (f : Int) : Int := apN 10 f (-2147483) 2147483
/-- a discipline -/
structure Dsc where
  (s a o f j wa re : Int)
/-- what an update tells -/
structure Upd where
  d : Dsc
  (k b e : Int)
noncomputable def Dsc.upd (d : Dsc) (off at' p : Int) : Upd :=
  if d.s ≠ 0 ∧ 4294967296000 < apN 11 off 0 0 then ⟨d, 0, 0, 190⟩
  else if 536870912 < apN 11 off 0 0 then
    (if d.s = 0 then ⟨⟨3, at', 0, d.f, d.j, d.wa, 0⟩, 2, off, 0⟩
    else if d.s = 1 then ⟨⟨4, at', 0, d.f, d.j, d.wa, 0⟩, 2, off, 0⟩
    else if d.s = 2 then (if mxI (apN 2 at' d.a 0) 0 < 1288490188800 then ⟨d, 0, 0, 0⟩ else ⟨⟨4, at', 0, d.f, d.j, d.wa, 0⟩, 2, off, 0⟩)
    else ⟨⟨2, at', d.o, d.f, d.j, d.wa, d.re⟩, 0, 0, 0⟩)
  else
    (if d.s = 0 then ⟨⟨3, at', off, d.f, smI d.j (apN 2 off d.o 0), d.wa, off⟩, 1, off, 0⟩
    else if d.s = 1 then ⟨⟨4, at', off, d.f, smI d.j (apN 2 off d.o 0), d.wa, off⟩, 1, off, 0⟩
    else if d.s = 3 then (if mxI (apN 2 at' d.a 0) 0 < 1288490188800 then ⟨d, 0, 0, 0⟩ else ⟨⟨4, at', off, holdI (apN 1 d.f (apN 8 off (mxI (apN 2 at' d.a 0) 0) 0) 0), smI d.j (apN 2 off d.o 0), d.wa, off⟩, 1, off, 0⟩)
    else ⟨⟨4, at', off, holdI (apN 1 d.f (turnI d.o off (mxI (apN 2 at' d.a 0) 0) p) 0), smI d.j (apN 2 off d.o 0), smI d.wa (apN 2 (holdI (apN 1 d.f (turnI d.o off (mxI (apN 2 at' d.a 0) 0) p) 0)) d.f 0), off⟩, 1, off, 0⟩)
def Dsc.val (d : Dsc) : Value := .agg #[.int .i64 d.s, .int .i64 d.a, .int .i64 d.o, .int .i64 d.f, .int .i64 d.j, .int .i64 d.wa, .int .i64 d.re]
def Upd.val (u : Upd) : Value := .tuple #[u.d.val, .int .i64 u.k, .int .i64 u.b, .int .i64 u.e]
structure Dsc.ok (d : Dsc) : Prop where
  s : 0 ≤ d.s ∧ d.s ≤ 4
  a : InI d.a
  o : InI d.o
  f : InI d.f
  j : InI d.j
  wa : InI d.wa
  re : InI d.re
abbrev upR : List (Int × Int) := [i64R, i64R, i64R, i64R, i64R, i64R, i64R, (0, 9223372036854775807), (0, 255)]
abbrev upA (k : Int) : List SV := [stdS, .agg [.int .i64 (.lit k), .int .i64 (.var 0), .int .i64 (.var 1), .int .i64 (.var 2), .int .i64 (.var 3), .int .i64 (.var 4), .int .i64 (.var 5)], .int .i64 (.var 6), .int .i64 (.var 7), .int .i64 (.var 8)]
def up0T : Tree :=
(.node (.cmp .lss (.lit 536870912) (.ap 11 (.var 6) (.lit 0) (.lit 0)))
 (.leaf (.tuple [(.agg [(.int .i64 (.lit 3)), (.int .i64 (.var 7)), (.int .i64 (.lit 0)), (.int .i64 (.var 2)), (.int .i64 (.var 3)), (.int .i64 (.var 4)), (.int .i64 (.lit 0))]), (.int .i64 (.lit 2)), (.int .i64 (.var 6)), (.int .i64 (.lit 0))]))
 (.leaf (.tuple [(.agg [(.int .i64 (.lit 3)), (.int .i64 (.var 7)), (.int .i64 (.var 6)), (.int .i64 (.var 2)), (.int .i64 (.ap 9 (.ap 1 (.ap 4 (.var 3) (.var 3) (.lit 0)) (.ap 3 (.ap 2 (.ap 4 (.ap 2 (.var 6) (.var 1) (.lit 0)) (.ap 2 (.var 6) (.var 1) (.lit 0)) (.lit 0)) (.ap 4 (.var 3) (.var 3) (.lit 0)) (.lit 0)) (.lit (-2)) (.lit 0)) (.lit 0)) (.lit 0) (.lit 0))), (.int .i64 (.var 4)), (.int .i64 (.var 6))]), (.int .i64 (.lit 1)), (.int .i64 (.var 6)), (.int .i64 (.lit 0))])))
theorem up0_ok : up0T.check Try.prog { pc := [], cr := [] ++ crS, rg := upR, ar := arN, ct := conCt upR arN consN } 1000 22 (upA 0) = true := by kernel_rfl
theorem up0_val (a o f j wa re off at' p : Int) : up0T.val (envOf [a, o, f, j, wa, re, off, at', p] (ap := apN)) = ((⟨0, a, o, f, j, wa, re⟩ : Dsc).upd off at' p).val := by
  have e : ∀ n : Int, plI .sub (-8) (plI .mul 2 n) = -8 - 2 * n := fun _ => rfl
  simp only [up0T, Tree.val, BE.den, cmpI, SV.den, SV.denL, IE.den, Bool.cond_decide, List.getD_cons_zero, List.getD_cons_succ, e, Dsc.upd]
  generalize apN 11 off 0 0 = A
  generalize hg : mxI (apN 2 at' a 0) 0 = g
  simp only [turnI]
  by_cases c1 : 4294967296000 < A <;> by_cases c2 : 536870912 < A <;> by_cases c3 : g < 1288490188800 <;> by_cases c4 : 8796093022208 < g <;> simp only [c1, c2, c3, c4, if_true, if_false, and_true, and_false, ne_eq, not_true_eq_false, not_false_eq_true] <;> rfl
def up1T : Tree :=
(.node (.cmp .lss (.lit 4294967296000) (.ap 11 (.var 6) (.lit 0) (.lit 0)))
 (.leaf (.tuple [(.agg [(.int .i64 (.lit 1)), (.int .i64 (.var 0)), (.int .i64 (.var 1)), (.int .i64 (.var 2)), (.int .i64 (.var 3)), (.int .i64 (.var 4)), (.int .i64 (.var 5))]), (.int .i64 (.lit 0)), (.int .i64 (.lit 0)), (.int .i64 (.lit 190))]))
 (.node (.cmp .lss (.lit 536870912) (.ap 11 (.var 6) (.lit 0) (.lit 0)))
 (.leaf (.tuple [(.agg [(.int .i64 (.lit 4)), (.int .i64 (.var 7)), (.int .i64 (.lit 0)), (.int .i64 (.var 2)), (.int .i64 (.var 3)), (.int .i64 (.var 4)), (.int .i64 (.lit 0))]), (.int .i64 (.lit 2)), (.int .i64 (.var 6)), (.int .i64 (.lit 0))]))
 (.leaf (.tuple [(.agg [(.int .i64 (.lit 4)), (.int .i64 (.var 7)), (.int .i64 (.var 6)), (.int .i64 (.var 2)), (.int .i64 (.ap 9 (.ap 1 (.ap 4 (.var 3) (.var 3) (.lit 0)) (.ap 3 (.ap 2 (.ap 4 (.ap 2 (.var 6) (.var 1) (.lit 0)) (.ap 2 (.var 6) (.var 1) (.lit 0)) (.lit 0)) (.ap 4 (.var 3) (.var 3) (.lit 0)) (.lit 0)) (.lit (-2)) (.lit 0)) (.lit 0)) (.lit 0) (.lit 0))), (.int .i64 (.var 4)), (.int .i64 (.var 6))]), (.int .i64 (.lit 1)), (.int .i64 (.var 6)), (.int .i64 (.lit 0))]))))
theorem up1_ok : up1T.check Try.prog { pc := [], cr := [] ++ crS, rg := upR, ar := arN, ct := conCt upR arN consN } 1000 22 (upA 1) = true := by kernel_rfl
theorem up1_val (a o f j wa re off at' p : Int) : up1T.val (envOf [a, o, f, j, wa, re, off, at', p] (ap := apN)) = ((⟨1, a, o, f, j, wa, re⟩ : Dsc).upd off at' p).val := by
  have e : ∀ n : Int, plI .sub (-8) (plI .mul 2 n) = -8 - 2 * n := fun _ => rfl
  simp only [up1T, Tree.val, BE.den, cmpI, SV.den, SV.denL, IE.den, Bool.cond_decide, List.getD_cons_zero, List.getD_cons_succ, e, Dsc.upd]
  generalize apN 11 off 0 0 = A
  generalize hg : mxI (apN 2 at' a 0) 0 = g
  simp only [turnI]
  by_cases c1 : 4294967296000 < A <;> by_cases c2 : 536870912 < A <;> by_cases c3 : g < 1288490188800 <;> by_cases c4 : 8796093022208 < g <;> simp only [c1, c2, c3, c4, if_true, if_false, and_true, and_false, ne_eq, not_true_eq_false, not_false_eq_true] <;> rfl
def up2T : Tree :=
(.node (.cmp .lss (.lit 4294967296000) (.ap 11 (.var 6) (.lit 0) (.lit 0)))
 (.leaf (.tuple [(.agg [(.int .i64 (.lit 2)), (.int .i64 (.var 0)), (.int .i64 (.var 1)), (.int .i64 (.var 2)), (.int .i64 (.var 3)), (.int .i64 (.var 4)), (.int .i64 (.var 5))]), (.int .i64 (.lit 0)), (.int .i64 (.lit 0)), (.int .i64 (.lit 190))]))
 (.node (.cmp .lss (.lit 536870912) (.ap 11 (.var 6) (.lit 0) (.lit 0)))
 (.node (.cmp .lss (.mx (.ap 2 (.var 7) (.var 0) (.lit 0)) (.lit 0)) (.lit 1288490188800))
 (.leaf (.tuple [(.agg [(.int .i64 (.lit 2)), (.int .i64 (.var 0)), (.int .i64 (.var 1)), (.int .i64 (.var 2)), (.int .i64 (.var 3)), (.int .i64 (.var 4)), (.int .i64 (.var 5))]), (.int .i64 (.lit 0)), (.int .i64 (.lit 0)), (.int .i64 (.lit 0))]))
 (.leaf (.tuple [(.agg [(.int .i64 (.lit 4)), (.int .i64 (.var 7)), (.int .i64 (.lit 0)), (.int .i64 (.var 2)), (.int .i64 (.var 3)), (.int .i64 (.var 4)), (.int .i64 (.lit 0))]), (.int .i64 (.lit 2)), (.int .i64 (.var 6)), (.int .i64 (.lit 0))])))
 (.node (.cmp .lss (.lit 8796093022208) (.mx (.ap 2 (.var 7) (.var 0) (.lit 0)) (.lit 0)))
 (.leaf (.tuple [(.agg [(.int .i64 (.lit 4)), (.int .i64 (.var 7)), (.int .i64 (.var 6)), (.int .i64 (.ap 10 (.ap 1 (.var 2) (.ap 1 (.ap 3 (.ap 4 (.mn (.mx (.ap 2 (.var 7) (.var 0) (.lit 0)) (.lit 0)) (.ap 3 (.lit 4294967296) (.mn (.mx (.var 8) (.lit 4)) (.lit 17)) (.lit 0))) (.var 6) (.lit 0)) (.pl .sub (.lit (-8)) (.pl .mul (.lit 2) (.mn (.mx (.var 8) (.lit 4)) (.lit 17)))) (.lit 0)) (.ap 3 (.ap 8 (.ap 2 (.var 6) (.var 1) (.lit 0)) (.mx (.ap 2 (.var 7) (.var 0) (.lit 0)) (.lit 0)) (.lit 0)) (.lit (-2)) (.lit 0)) (.lit 0)) (.lit 0)) (.lit (-2147483)) (.lit 2147483))), (.int .i64 (.ap 9 (.ap 1 (.ap 4 (.var 3) (.var 3) (.lit 0)) (.ap 3 (.ap 2 (.ap 4 (.ap 2 (.var 6) (.var 1) (.lit 0)) (.ap 2 (.var 6) (.var 1) (.lit 0)) (.lit 0)) (.ap 4 (.var 3) (.var 3) (.lit 0)) (.lit 0)) (.lit (-2)) (.lit 0)) (.lit 0)) (.lit 0) (.lit 0))), (.int .i64 (.ap 9 (.ap 1 (.ap 4 (.var 4) (.var 4) (.lit 0)) (.ap 3 (.ap 2 (.ap 4 (.ap 2 (.ap 10 (.ap 1 (.var 2) (.ap 1 (.ap 3 (.ap 4 (.mn (.mx (.ap 2 (.var 7) (.var 0) (.lit 0)) (.lit 0)) (.ap 3 (.lit 4294967296) (.mn (.mx (.var 8) (.lit 4)) (.lit 17)) (.lit 0))) (.var 6) (.lit 0)) (.pl .sub (.lit (-8)) (.pl .mul (.lit 2) (.mn (.mx (.var 8) (.lit 4)) (.lit 17)))) (.lit 0)) (.ap 3 (.ap 8 (.ap 2 (.var 6) (.var 1) (.lit 0)) (.mx (.ap 2 (.var 7) (.var 0) (.lit 0)) (.lit 0)) (.lit 0)) (.lit (-2)) (.lit 0)) (.lit 0)) (.lit 0)) (.lit (-2147483)) (.lit 2147483)) (.var 2) (.lit 0)) (.ap 2 (.ap 10 (.ap 1 (.var 2) (.ap 1 (.ap 3 (.ap 4 (.mn (.mx (.ap 2 (.var 7) (.var 0) (.lit 0)) (.lit 0)) (.ap 3 (.lit 4294967296) (.mn (.mx (.var 8) (.lit 4)) (.lit 17)) (.lit 0))) (.var 6) (.lit 0)) (.pl .sub (.lit (-8)) (.pl .mul (.lit 2) (.mn (.mx (.var 8) (.lit 4)) (.lit 17)))) (.lit 0)) (.ap 3 (.ap 8 (.ap 2 (.var 6) (.var 1) (.lit 0)) (.mx (.ap 2 (.var 7) (.var 0) (.lit 0)) (.lit 0)) (.lit 0)) (.lit (-2)) (.lit 0)) (.lit 0)) (.lit 0)) (.lit (-2147483)) (.lit 2147483)) (.var 2) (.lit 0)) (.lit 0)) (.ap 4 (.var 4) (.var 4) (.lit 0)) (.lit 0)) (.lit (-2)) (.lit 0)) (.lit 0)) (.lit 0) (.lit 0))), (.int .i64 (.var 6))]), (.int .i64 (.lit 1)), (.int .i64 (.var 6)), (.int .i64 (.lit 0))]))
 (.leaf (.tuple [(.agg [(.int .i64 (.lit 4)), (.int .i64 (.var 7)), (.int .i64 (.var 6)), (.int .i64 (.ap 10 (.ap 1 (.var 2) (.ap 3 (.ap 4 (.mn (.mx (.ap 2 (.var 7) (.var 0) (.lit 0)) (.lit 0)) (.ap 3 (.lit 4294967296) (.mn (.mx (.var 8) (.lit 4)) (.lit 17)) (.lit 0))) (.var 6) (.lit 0)) (.pl .sub (.lit (-8)) (.pl .mul (.lit 2) (.mn (.mx (.var 8) (.lit 4)) (.lit 17)))) (.lit 0)) (.lit 0)) (.lit (-2147483)) (.lit 2147483))), (.int .i64 (.ap 9 (.ap 1 (.ap 4 (.var 3) (.var 3) (.lit 0)) (.ap 3 (.ap 2 (.ap 4 (.ap 2 (.var 6) (.var 1) (.lit 0)) (.ap 2 (.var 6) (.var 1) (.lit 0)) (.lit 0)) (.ap 4 (.var 3) (.var 3) (.lit 0)) (.lit 0)) (.lit (-2)) (.lit 0)) (.lit 0)) (.lit 0) (.lit 0))), (.int .i64 (.ap 9 (.ap 1 (.ap 4 (.var 4) (.var 4) (.lit 0)) (.ap 3 (.ap 2 (.ap 4 (.ap 2 (.ap 10 (.ap 1 (.var 2) (.ap 3 (.ap 4 (.mn (.mx (.ap 2 (.var 7) (.var 0) (.lit 0)) (.lit 0)) (.ap 3 (.lit 4294967296) (.mn (.mx (.var 8) (.lit 4)) (.lit 17)) (.lit 0))) (.var 6) (.lit 0)) (.pl .sub (.lit (-8)) (.pl .mul (.lit 2) (.mn (.mx (.var 8) (.lit 4)) (.lit 17)))) (.lit 0)) (.lit 0)) (.lit (-2147483)) (.lit 2147483)) (.var 2) (.lit 0)) (.ap 2 (.ap 10 (.ap 1 (.var 2) (.ap 3 (.ap 4 (.mn (.mx (.ap 2 (.var 7) (.var 0) (.lit 0)) (.lit 0)) (.ap 3 (.lit 4294967296) (.mn (.mx (.var 8) (.lit 4)) (.lit 17)) (.lit 0))) (.var 6) (.lit 0)) (.pl .sub (.lit (-8)) (.pl .mul (.lit 2) (.mn (.mx (.var 8) (.lit 4)) (.lit 17)))) (.lit 0)) (.lit 0)) (.lit (-2147483)) (.lit 2147483)) (.var 2) (.lit 0)) (.lit 0)) (.ap 4 (.var 4) (.var 4) (.lit 0)) (.lit 0)) (.lit (-2)) (.lit 0)) (.lit 0)) (.lit 0) (.lit 0))), (.int .i64 (.var 6))]), (.int .i64 (.lit 1)), (.int .i64 (.var 6)), (.int .i64 (.lit 0))])))))
theorem up2_ok : up2T.check Try.prog { pc := [], cr := [] ++ crS, rg := upR, ar := arN, ct := conCt upR arN consN } 1000 22 (upA 2) = true := by kernel_rfl
theorem up2_val (a o f j wa re off at' p : Int) : up2T.val (envOf [a, o, f, j, wa, re, off, at', p] (ap := apN)) = ((⟨2, a, o, f, j, wa, re⟩ : Dsc).upd off at' p).val := by
  have e : ∀ n : Int, plI .sub (-8) (plI .mul 2 n) = -8 - 2 * n := fun _ => rfl
  simp only [up2T, Tree.val, BE.den, cmpI, SV.den, SV.denL, IE.den, Bool.cond_decide, List.getD_cons_zero, List.getD_cons_succ, e, Dsc.upd]
  generalize apN 11 off 0 0 = A
  generalize hg : mxI (apN 2 at' a 0) 0 = g
  simp only [turnI]
  by_cases c1 : 4294967296000 < A <;> by_cases c2 : 536870912 < A <;> by_cases c3 : g < 1288490188800 <;> by_cases c4 : 8796093022208 < g <;> simp only [c1, c2, c3, c4, if_true, if_false, and_true, and_false, ne_eq, not_true_eq_false, not_false_eq_true] <;> rfl
def up3T : Tree :=
(.node (.cmp .lss (.lit 4294967296000) (.ap 11 (.var 6) (.lit 0) (.lit 0)))
 (.leaf (.tuple [(.agg [(.int .i64 (.lit 3)), (.int .i64 (.var 0)), (.int .i64 (.var 1)), (.int .i64 (.var 2)), (.int .i64 (.var 3)), (.int .i64 (.var 4)), (.int .i64 (.var 5))]), (.int .i64 (.lit 0)), (.int .i64 (.lit 0)), (.int .i64 (.lit 190))]))
 (.node (.cmp .lss (.lit 536870912) (.ap 11 (.var 6) (.lit 0) (.lit 0)))
 (.leaf (.tuple [(.agg [(.int .i64 (.lit 2)), (.int .i64 (.var 7)), (.int .i64 (.var 1)), (.int .i64 (.var 2)), (.int .i64 (.var 3)), (.int .i64 (.var 4)), (.int .i64 (.var 5))]), (.int .i64 (.lit 0)), (.int .i64 (.lit 0)), (.int .i64 (.lit 0))]))
 (.node (.cmp .lss (.mx (.ap 2 (.var 7) (.var 0) (.lit 0)) (.lit 0)) (.lit 1288490188800))
 (.leaf (.tuple [(.agg [(.int .i64 (.lit 3)), (.int .i64 (.var 0)), (.int .i64 (.var 1)), (.int .i64 (.var 2)), (.int .i64 (.var 3)), (.int .i64 (.var 4)), (.int .i64 (.var 5))]), (.int .i64 (.lit 0)), (.int .i64 (.lit 0)), (.int .i64 (.lit 0))]))
 (.leaf (.tuple [(.agg [(.int .i64 (.lit 4)), (.int .i64 (.var 7)), (.int .i64 (.var 6)), (.int .i64 (.ap 10 (.ap 1 (.var 2) (.ap 8 (.var 6) (.mx (.ap 2 (.var 7) (.var 0) (.lit 0)) (.lit 0)) (.lit 0)) (.lit 0)) (.lit (-2147483)) (.lit 2147483))), (.int .i64 (.ap 9 (.ap 1 (.ap 4 (.var 3) (.var 3) (.lit 0)) (.ap 3 (.ap 2 (.ap 4 (.ap 2 (.var 6) (.var 1) (.lit 0)) (.ap 2 (.var 6) (.var 1) (.lit 0)) (.lit 0)) (.ap 4 (.var 3) (.var 3) (.lit 0)) (.lit 0)) (.lit (-2)) (.lit 0)) (.lit 0)) (.lit 0) (.lit 0))), (.int .i64 (.var 4)), (.int .i64 (.var 6))]), (.int .i64 (.lit 1)), (.int .i64 (.var 6)), (.int .i64 (.lit 0))])))))
theorem up3_ok : up3T.check Try.prog { pc := [], cr := [] ++ crS, rg := upR, ar := arN, ct := conCt upR arN consN } 1000 22 (upA 3) = true := by kernel_rfl
theorem up3_val (a o f j wa re off at' p : Int) : up3T.val (envOf [a, o, f, j, wa, re, off, at', p] (ap := apN)) = ((⟨3, a, o, f, j, wa, re⟩ : Dsc).upd off at' p).val := by
  have e : ∀ n : Int, plI .sub (-8) (plI .mul 2 n) = -8 - 2 * n := fun _ => rfl
  simp only [up3T, Tree.val, BE.den, cmpI, SV.den, SV.denL, IE.den, Bool.cond_decide, List.getD_cons_zero, List.getD_cons_succ, e, Dsc.upd]
  generalize apN 11 off 0 0 = A
  generalize hg : mxI (apN 2 at' a 0) 0 = g
  simp only [turnI]
  by_cases c1 : 4294967296000 < A <;> by_cases c2 : 536870912 < A <;> by_cases c3 : g < 1288490188800 <;> by_cases c4 : 8796093022208 < g <;> simp only [c1, c2, c3, c4, if_true, if_false, and_true, and_false, ne_eq, not_true_eq_false, not_false_eq_true] <;> rfl
def up4T : Tree :=
(.node (.cmp .lss (.lit 4294967296000) (.ap 11 (.var 6) (.lit 0) (.lit 0)))
 (.leaf (.tuple [(.agg [(.int .i64 (.lit 4)), (.int .i64 (.var 0)), (.int .i64 (.var 1)), (.int .i64 (.var 2)), (.int .i64 (.var 3)), (.int .i64 (.var 4)), (.int .i64 (.var 5))]), (.int .i64 (.lit 0)), (.int .i64 (.lit 0)), (.int .i64 (.lit 190))]))
 (.node (.cmp .lss (.lit 536870912) (.ap 11 (.var 6) (.lit 0) (.lit 0)))
 (.leaf (.tuple [(.agg [(.int .i64 (.lit 2)), (.int .i64 (.var 7)), (.int .i64 (.var 1)), (.int .i64 (.var 2)), (.int .i64 (.var 3)), (.int .i64 (.var 4)), (.int .i64 (.var 5))]), (.int .i64 (.lit 0)), (.int .i64 (.lit 0)), (.int .i64 (.lit 0))]))
 (.node (.cmp .lss (.lit 8796093022208) (.mx (.ap 2 (.var 7) (.var 0) (.lit 0)) (.lit 0)))
 (.leaf (.tuple [(.agg [(.int .i64 (.lit 4)), (.int .i64 (.var 7)), (.int .i64 (.var 6)), (.int .i64 (.ap 10 (.ap 1 (.var 2) (.ap 1 (.ap 3 (.ap 4 (.mn (.mx (.ap 2 (.var 7) (.var 0) (.lit 0)) (.lit 0)) (.ap 3 (.lit 4294967296) (.mn (.mx (.var 8) (.lit 4)) (.lit 17)) (.lit 0))) (.var 6) (.lit 0)) (.pl .sub (.lit (-8)) (.pl .mul (.lit 2) (.mn (.mx (.var 8) (.lit 4)) (.lit 17)))) (.lit 0)) (.ap 3 (.ap 8 (.ap 2 (.var 6) (.var 1) (.lit 0)) (.mx (.ap 2 (.var 7) (.var 0) (.lit 0)) (.lit 0)) (.lit 0)) (.lit (-2)) (.lit 0)) (.lit 0)) (.lit 0)) (.lit (-2147483)) (.lit 2147483))), (.int .i64 (.ap 9 (.ap 1 (.ap 4 (.var 3) (.var 3) (.lit 0)) (.ap 3 (.ap 2 (.ap 4 (.ap 2 (.var 6) (.var 1) (.lit 0)) (.ap 2 (.var 6) (.var 1) (.lit 0)) (.lit 0)) (.ap 4 (.var 3) (.var 3) (.lit 0)) (.lit 0)) (.lit (-2)) (.lit 0)) (.lit 0)) (.lit 0) (.lit 0))), (.int .i64 (.ap 9 (.ap 1 (.ap 4 (.var 4) (.var 4) (.lit 0)) (.ap 3 (.ap 2 (.ap 4 (.ap 2 (.ap 10 (.ap 1 (.var 2) (.ap 1 (.ap 3 (.ap 4 (.mn (.mx (.ap 2 (.var 7) (.var 0) (.lit 0)) (.lit 0)) (.ap 3 (.lit 4294967296) (.mn (.mx (.var 8) (.lit 4)) (.lit 17)) (.lit 0))) (.var 6) (.lit 0)) (.pl .sub (.lit (-8)) (.pl .mul (.lit 2) (.mn (.mx (.var 8) (.lit 4)) (.lit 17)))) (.lit 0)) (.ap 3 (.ap 8 (.ap 2 (.var 6) (.var 1) (.lit 0)) (.mx (.ap 2 (.var 7) (.var 0) (.lit 0)) (.lit 0)) (.lit 0)) (.lit (-2)) (.lit 0)) (.lit 0)) (.lit 0)) (.lit (-2147483)) (.lit 2147483)) (.var 2) (.lit 0)) (.ap 2 (.ap 10 (.ap 1 (.var 2) (.ap 1 (.ap 3 (.ap 4 (.mn (.mx (.ap 2 (.var 7) (.var 0) (.lit 0)) (.lit 0)) (.ap 3 (.lit 4294967296) (.mn (.mx (.var 8) (.lit 4)) (.lit 17)) (.lit 0))) (.var 6) (.lit 0)) (.pl .sub (.lit (-8)) (.pl .mul (.lit 2) (.mn (.mx (.var 8) (.lit 4)) (.lit 17)))) (.lit 0)) (.ap 3 (.ap 8 (.ap 2 (.var 6) (.var 1) (.lit 0)) (.mx (.ap 2 (.var 7) (.var 0) (.lit 0)) (.lit 0)) (.lit 0)) (.lit (-2)) (.lit 0)) (.lit 0)) (.lit 0)) (.lit (-2147483)) (.lit 2147483)) (.var 2) (.lit 0)) (.lit 0)) (.ap 4 (.var 4) (.var 4) (.lit 0)) (.lit 0)) (.lit (-2)) (.lit 0)) (.lit 0)) (.lit 0) (.lit 0))), (.int .i64 (.var 6))]), (.int .i64 (.lit 1)), (.int .i64 (.var 6)), (.int .i64 (.lit 0))]))
 (.leaf (.tuple [(.agg [(.int .i64 (.lit 4)), (.int .i64 (.var 7)), (.int .i64 (.var 6)), (.int .i64 (.ap 10 (.ap 1 (.var 2) (.ap 3 (.ap 4 (.mn (.mx (.ap 2 (.var 7) (.var 0) (.lit 0)) (.lit 0)) (.ap 3 (.lit 4294967296) (.mn (.mx (.var 8) (.lit 4)) (.lit 17)) (.lit 0))) (.var 6) (.lit 0)) (.pl .sub (.lit (-8)) (.pl .mul (.lit 2) (.mn (.mx (.var 8) (.lit 4)) (.lit 17)))) (.lit 0)) (.lit 0)) (.lit (-2147483)) (.lit 2147483))), (.int .i64 (.ap 9 (.ap 1 (.ap 4 (.var 3) (.var 3) (.lit 0)) (.ap 3 (.ap 2 (.ap 4 (.ap 2 (.var 6) (.var 1) (.lit 0)) (.ap 2 (.var 6) (.var 1) (.lit 0)) (.lit 0)) (.ap 4 (.var 3) (.var 3) (.lit 0)) (.lit 0)) (.lit (-2)) (.lit 0)) (.lit 0)) (.lit 0) (.lit 0))), (.int .i64 (.ap 9 (.ap 1 (.ap 4 (.var 4) (.var 4) (.lit 0)) (.ap 3 (.ap 2 (.ap 4 (.ap 2 (.ap 10 (.ap 1 (.var 2) (.ap 3 (.ap 4 (.mn (.mx (.ap 2 (.var 7) (.var 0) (.lit 0)) (.lit 0)) (.ap 3 (.lit 4294967296) (.mn (.mx (.var 8) (.lit 4)) (.lit 17)) (.lit 0))) (.var 6) (.lit 0)) (.pl .sub (.lit (-8)) (.pl .mul (.lit 2) (.mn (.mx (.var 8) (.lit 4)) (.lit 17)))) (.lit 0)) (.lit 0)) (.lit (-2147483)) (.lit 2147483)) (.var 2) (.lit 0)) (.ap 2 (.ap 10 (.ap 1 (.var 2) (.ap 3 (.ap 4 (.mn (.mx (.ap 2 (.var 7) (.var 0) (.lit 0)) (.lit 0)) (.ap 3 (.lit 4294967296) (.mn (.mx (.var 8) (.lit 4)) (.lit 17)) (.lit 0))) (.var 6) (.lit 0)) (.pl .sub (.lit (-8)) (.pl .mul (.lit 2) (.mn (.mx (.var 8) (.lit 4)) (.lit 17)))) (.lit 0)) (.lit 0)) (.lit (-2147483)) (.lit 2147483)) (.var 2) (.lit 0)) (.lit 0)) (.ap 4 (.var 4) (.var 4) (.lit 0)) (.lit 0)) (.lit (-2)) (.lit 0)) (.lit 0)) (.lit 0) (.lit 0))), (.int .i64 (.var 6))]), (.int .i64 (.lit 1)), (.int .i64 (.var 6)), (.int .i64 (.lit 0))])))))
theorem up4_ok : up4T.check Try.prog { pc := [], cr := [] ++ crS, rg := upR, ar := arN, ct := conCt upR arN consN } 1000 22 (upA 4) = true := by kernel_rfl
theorem up4_val (a o f j wa re off at' p : Int) : up4T.val (envOf [a, o, f, j, wa, re, off, at', p] (ap := apN)) = ((⟨4, a, o, f, j, wa, re⟩ : Dsc).upd off at' p).val := by
  have e : ∀ n : Int, plI .sub (-8) (plI .mul 2 n) = -8 - 2 * n := fun _ => rfl
  simp only [up4T, Tree.val, BE.den, cmpI, SV.den, SV.denL, IE.den, Bool.cond_decide, List.getD_cons_zero, List.getD_cons_succ, e, Dsc.upd]
  generalize apN 11 off 0 0 = A
  generalize hg : mxI (apN 2 at' a 0) 0 = g
  simp only [turnI]
  by_cases c1 : 4294967296000 < A <;> by_cases c2 : 536870912 < A <;> by_cases c3 : g < 1288490188800 <;> by_cases c4 : 8796093022208 < g <;> simp only [c1, c2, c3, c4, if_true, if_false, and_true, and_false, ne_eq, not_true_eq_false, not_false_eq_true] <;> rfl
theorem upd_any (d : Dsc) (h : d.ok) (off at' p : Int) (ho : InI off) (ha : 0 ≤ at' ∧ at' ≤ 9223372036854775807) (hp : 0 ≤ p ∧ p ≤ 255) (w : World) :
    Calls Try.prog 22 #[stdS.den (envOf []) id, d.val, .int .i64 off, .int .i64 at', .int .i64 p] w fun e w' => e = .returned (d.upd off at' p).val ∧ Below w.heap.size w w' := by
  obtain ⟨s, a, o, f, j, wa, re⟩ := d
  obtain ⟨h0, h1, h2, h3, h4, h5, h6⟩ := h
  simp only at h0 h1 h2 h3 h4 h5 h6
  have : s = 0 ∨ s = 1 ∨ s = 2 ∨ s = 3 ∨ s = 4 := by omega
  rcases this with rfl | rfl | rfl | rfl | rfl
  · exact law_any (bs := []) (fs := []) (is := [a, o, f, j, wa, re, off, at', p]) (rg := upR) (args := upA 0) ⟨h1, h2, h3, h4, h5, h6, ho, ha, hp, trivial⟩ (cr := []) (fun c hc => by cases hc) up0T (n := 1000) up0_ok (Tree.whole_live (by kernel_rfl)) (up0_val a o f j wa re off at' p) w
  · exact law_any (bs := []) (fs := []) (is := [a, o, f, j, wa, re, off, at', p]) (rg := upR) (args := upA 1) ⟨h1, h2, h3, h4, h5, h6, ho, ha, hp, trivial⟩ (cr := []) (fun c hc => by cases hc) up1T (n := 1000) up1_ok (Tree.whole_live (by kernel_rfl)) (up1_val a o f j wa re off at' p) w
  · exact law_any (bs := []) (fs := []) (is := [a, o, f, j, wa, re, off, at', p]) (rg := upR) (args := upA 2) ⟨h1, h2, h3, h4, h5, h6, ho, ha, hp, trivial⟩ (cr := []) (fun c hc => by cases hc) up2T (n := 1000) up2_ok (Tree.whole_live (by kernel_rfl)) (up2_val a o f j wa re off at' p) w
  · exact law_any (bs := []) (fs := []) (is := [a, o, f, j, wa, re, off, at', p]) (rg := upR) (args := upA 3) ⟨h1, h2, h3, h4, h5, h6, ho, ha, hp, trivial⟩ (cr := []) (fun c hc => by cases hc) up3T (n := 1000) up3_ok (Tree.whole_live (by kernel_rfl)) (up3_val a o f j wa re off at' p) w
  · exact law_any (bs := []) (fs := []) (is := [a, o, f, j, wa, re, off, at', p]) (rg := upR) (args := upA 4) ⟨h1, h2, h3, h4, h5, h6, ho, ha, hp, trivial⟩ (cr := []) (fun c hc => by cases hc) up4T (n := 1000) up4_ok (Tree.whole_live (by kernel_rfl)) (up4_val a o f j wa re off at' p) w
end Go.Proofs.Ythhipnhnpjhaaaa
