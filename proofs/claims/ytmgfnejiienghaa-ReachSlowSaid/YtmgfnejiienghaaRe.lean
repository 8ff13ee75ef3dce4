/- reach, function by function. -/
import Derived.Test.YtmgfnejiienghaaRh
namespace Go.Proofs.Ytmgfnejiienghaa
open Go Go.RowKit Ev
set_option linter.unusedVariables false
set_option maxRecDepth 100000
set_option linter.unusedSimpArgs false

theorem z64 : (-9223372036854775808 : Int) ≤ 0 ∧ (0 : Int) ≤ 9223372036854775807 := by decide
theorem z32 : (0 : Int) ≤ 0 ∧ (0 : Int) ≤ 4294967295 := by decide
def sentT : Tree :=
(.node (.cmp .lss (.lit 0) (.var 3))
 (.leaf (.agg [(.int .u8 (.ar .shl .u8 (.var 0) (.lit 1))), (.int .i64 (.var 1)), (.int .i64 (.var 2)), (.int .i64 (.pl .sub (.var 3) (.lit 1))), (.int .i64 (.ap 1 (.var 5) (.lit 8589934592) (.lit 0)))]))
 (.node (.cmp .eql (.ar .and .u8 (.ar .shl .u8 (.var 0) (.lit 1)) (.lit 7)) (.lit 0))
 (.node (.cmp .lss (.lit 10) (.pl .add (.var 1) (.lit 1)))
 (.leaf (.agg [(.int .u8 (.ar .shl .u8 (.var 0) (.lit 1))), (.int .i64 (.lit 10)), (.int .i64 (.var 2)), (.int .i64 (.var 3)), (.int .i64 (.ap 1 (.ap 1 (.var 5) (.ap 3 (.lit 4294967296) (.mn (.lit 10) (.var 2)) (.lit 0)) (.lit 0)) (.ap 3 (.var 6) (.pl .sub (.mx (.mn (.lit 10) (.var 2)) (.lit (-1099511627776))) (.lit 4)) (.lit 0)) (.lit 0)))]))
 (.leaf (.agg [(.int .u8 (.ar .shl .u8 (.var 0) (.lit 1))), (.int .i64 (.pl .add (.var 1) (.lit 1))), (.int .i64 (.var 2)), (.int .i64 (.var 3)), (.int .i64 (.ap 1 (.ap 1 (.var 5) (.ap 3 (.lit 4294967296) (.mn (.pl .add (.var 1) (.lit 1)) (.var 2)) (.lit 0)) (.lit 0)) (.ap 3 (.var 6) (.pl .sub (.mx (.mn (.pl .add (.var 1) (.lit 1)) (.var 2)) (.lit (-1099511627776))) (.lit 4)) (.lit 0)) (.lit 0)))])))
 (.leaf (.agg [(.int .u8 (.ar .shl .u8 (.var 0) (.lit 1))), (.int .i64 (.var 1)), (.int .i64 (.var 2)), (.int .i64 (.var 3)), (.int .i64 (.ap 1 (.ap 1 (.var 5) (.ap 3 (.lit 4294967296) (.mn (.var 1) (.var 2)) (.lit 0)) (.lit 0)) (.ap 3 (.var 6) (.pl .sub (.mx (.mn (.var 1) (.var 2)) (.lit (-1099511627776))) (.lit 4)) (.lit 0)) (.lit 0)))]))))
def heardT : Tree :=
(.node (.cmp .lss (.var 5) (.lit 6))
 (.leaf (.agg [(.int .u8 (.ar .or .u8 (.var 0) (.lit 1))), (.int .i64 (.var 1)), (.int .i64 (.lit 6)), (.int .i64 (.var 3)), (.int .i64 (.var 4))]))
 (.node (.cmp .lss (.lit 10) (.var 5))
 (.leaf (.agg [(.int .u8 (.ar .or .u8 (.var 0) (.lit 1))), (.int .i64 (.var 1)), (.int .i64 (.lit 10)), (.int .i64 (.var 3)), (.int .i64 (.var 4))]))
 (.leaf (.agg [(.int .u8 (.ar .or .u8 (.var 0) (.lit 1))), (.int .i64 (.var 1)), (.int .i64 (.var 5)), (.int .i64 (.var 3)), (.int .i64 (.var 4))]))))
def slowT : Tree :=
(.node (.cmp .lss (.lit 10) (.pl .add (.mx (.var 1) (.var 2)) (.lit 1)))
 (.leaf (.agg [(.int .u8 (.var 0)), (.int .i64 (.lit 10)), (.int .i64 (.lit 10)), (.int .i64 (.lit 0)), (.int .i64 (.var 4))]))
 (.leaf (.agg [(.int .u8 (.var 0)), (.int .i64 (.pl .add (.mx (.var 1) (.var 2)) (.lit 1))), (.int .i64 (.pl .add (.mx (.var 1) (.var 2)) (.lit 1))), (.int .i64 (.lit 0)), (.int .i64 (.var 4))])))
abbrev reR : List (Int × Int) := [(0, 255), (6, 10), (6, 10), (0, 8), (-9223372036854775808, 9223372036854775807), (-9223372036854775808, 9223372036854775807), (0, 4294967295)]
abbrev reS : SV := .agg [.int .u8 (.var 0), .int .i64 (.var 1), .int .i64 (.var 2), .int .i64 (.var 3), .int .i64 (.var 4)]
/-- the register is moved on; are three in a row silent? -/
def rReg (r : Int) : Int := IntKind.u8.wrap (r * 2 ^ (min (1 : Int).toNat IntKind.u8.bits))
def rDumb (r : Int) : Bool := bitsI .and .u8 (rReg r) 7 == 0
def rHost (r h b : Int) : Int := if 0 < b then h else if rDumb r = true then min 10 (h + 1) else h
def rBurst (b : Int) : Int := if 0 < b then b - 1 else b
/-- when the next question is due -/
def rNext (r h p b now draw : Int) : Int :=
  if 0 < b then sat (now + 8589934592)
  else sat (sat (now + 4294967296 * 2 ^ (min (rHost r h b) p).toNat) + draw * 2 ^ (min (rHost r h b) p - 4).toNat)
theorem two_6_10 {p : Int} (h : 6 ≤ p ∧ p ≤ 10) : 274877906944 ≤ 4294967296 * (2 : Int) ^ p.toNat ∧ 4294967296 * (2 : Int) ^ p.toNat ≤ 4398046511104 ∧ 4 ≤ (2 : Int) ^ (p - 4).toNat ∧ (2 : Int) ^ (p - 4).toNat ≤ 64 := by
  have : p = 6 ∨ p = 7 ∨ p = 8 ∨ p = 9 ∨ p = 10 := by omega
  rcases this with rfl | rfl | rfl | rfl | rfl <;> decide
theorem next_ap (now d n : Int) (h : 6 ≤ n ∧ n ≤ 10) (d0 : 0 ≤ d) (d1 : d ≤ 4294967295) :
    apN 1 (apN 1 now (apN 3 4294967296 n 0) 0) (apN 3 d (mxI n (-1099511627776) - 4) 0) 0 = sat (sat (now + 4294967296 * 2 ^ n.toNat) + d * 2 ^ (n - 4).toNat) := by
  have ht := two_6_10 h
  have e1 : apN 3 4294967296 n 0 = 4294967296 * 2 ^ n.toNat := by
    simp only [apN]
    rw [if_neg (by omega), show min n.toNat 64 = n.toNat by omega, sat_of (by omega)]
  have e2 : mxI n (-1099511627776) = n := by unfold mxI; split <;> omega
  have hq : 0 ≤ d * (2 : Int) ^ (n - 4).toNat ∧ d * (2 : Int) ^ (n - 4).toNat ≤ 4294967295 * 64 :=
    ⟨Int.mul_nonneg d0 (by omega), Int.mul_le_mul d1 ht.2.2.2 (by omega) (by omega)⟩
  have e3 : apN 3 d (n - 4) 0 = d * 2 ^ (n - 4).toNat := by
    simp only [apN]
    rw [if_neg (by omega), show min (n - 4).toNat 64 = (n - 4).toNat by omega, sat_of (by omega)]
  rw [e1, e2, e3]
  rfl
theorem mnI_min (a b : Int) : mnI a b = min a b := by unfold mnI; split <;> omega
theorem mxI_max (a b : Int) : mxI a b = max a b := by unfold mxI; split <;> omega
theorem sentT_val (r h p b n0 now draw : Int) (h1 : 6 ≤ h ∧ h ≤ 10) (h2 : 6 ≤ p ∧ p ≤ 10) (h6 : 0 ≤ draw ∧ draw ≤ 4294967295) :
    sentT.val (envOf [r, h, p, b, n0, now, draw] (ap := apN)) = .agg #[.int .u8 (rReg r), .int .i64 (rHost r h b), .int .i64 p, .int .i64 (rBurst b), .int .i64 (rNext r h p b now draw)] := by
  simp only [sentT, Tree.val, BE.den, cmpI, SV.den, SV.denL, IE.den, plI, Bool.cond_decide, List.getD_cons_zero, List.getD_cons_succ]
  by_cases hb : 0 < b
  · rw [if_pos hb]
    simp only [rHost, rBurst, rNext, if_pos hb]
    rfl
  · rw [if_neg hb]
    simp only [rHost, rBurst, rNext, if_neg hb]
    show cond (rDumb r) _ _ = _
    have key : ∀ n, 6 ≤ n ∧ n ≤ 10 → apN 1 (apN 1 now (apN 3 4294967296 (mnI n p) 0) 0) (apN 3 draw (mxI (mnI n p) (-1099511627776) - 4) 0) 0 = sat (sat (now + 4294967296 * 2 ^ (min n p).toNat) + draw * 2 ^ (min n p - 4).toNat) := by
      intro n hn
      rw [mnI_min]
      exact next_ap now draw (min n p) (by omega) h6.1 h6.2
    cases hd : rDumb r with
    | true =>
      simp only [cond_true, if_true]
      by_cases h10 : 10 < h + 1
      · rw [if_pos h10, key 10 (by omega), show min 10 (h + 1) = 10 by omega]
        rfl
      · rw [if_neg h10, key (h + 1) (by omega), show min 10 (h + 1) = h + 1 by omega]
        rfl
    | false =>
      simp only [cond_false, Bool.false_eq_true, if_false]
      rw [key h h1]
      rfl
theorem sent_any (r h p b n0 now draw : Int) (h0 : 0 ≤ r ∧ r ≤ 255) (h1 : 6 ≤ h ∧ h ≤ 10) (h2 : 6 ≤ p ∧ p ≤ 10) (h3 : 0 ≤ b ∧ b ≤ 8) (h4 : -9223372036854775808 ≤ n0 ∧ n0 ≤ 9223372036854775807) (h5 : -9223372036854775808 ≤ now ∧ now ≤ 9223372036854775807) (h6 : 0 ≤ draw ∧ draw ≤ 4294967295) (w : World) :
    Calls Try.prog 40 #[stdS.den (envOf []) id, .agg #[.int .u8 r, .int .i64 h, .int .i64 p, .int .i64 b, .int .i64 n0], .int .i64 now, .int .u32 draw] w fun e w' =>
      e = .returned (.agg #[.int .u8 (rReg r), .int .i64 (rHost r h b), .int .i64 p, .int .i64 (rBurst b), .int .i64 (rNext r h p b now draw)]) ∧ Below w.heap.size w w' :=
  law_any (bs := []) (fs := []) (is := [r, h, p, b, n0, now, draw]) (rg := reR) (args := [stdS, reS, .int .i64 (.var 5), .int .u32 (.var 6)]) ⟨h0, h1, h2, h3, h4, h5, h6, trivial⟩ (cr := []) (fun c hc => by cases hc) sentT (n := 600) (by kernel_rfl) (Tree.whole_live (by kernel_rfl)) (sentT_val r h p b n0 now draw h1 h2 h6) w
def rWith (n : Int) : Int := max 6 (min 10 n)
def rHeard (r : Int) : Int := bitsI .or .u8 r 1
theorem heard_any (r h p b n0 poll : Int) (h0 : 0 ≤ r ∧ r ≤ 255) (h1 : 6 ≤ h ∧ h ≤ 10) (h2 : 6 ≤ p ∧ p ≤ 10) (h3 : 0 ≤ b ∧ b ≤ 8) (h4 : -9223372036854775808 ≤ n0 ∧ n0 ≤ 9223372036854775807) (h5 : -9223372036854775808 ≤ poll ∧ poll ≤ 9223372036854775807) (w : World) :
    Calls Try.prog 39 #[stdS.den (envOf []) id, .agg #[.int .u8 r, .int .i64 h, .int .i64 p, .int .i64 b, .int .i64 n0], .int .i64 poll] w fun e w' =>
      e = .returned (.agg #[.int .u8 (rHeard r), .int .i64 h, .int .i64 (rWith poll), .int .i64 b, .int .i64 n0]) ∧ Below w.heap.size w w' :=
  law_any (bs := []) (fs := []) (is := [r, h, p, b, n0, poll, 0]) (rg := reR) (args := [stdS, reS, .int .i64 (.var 5)]) ⟨h0, h1, h2, h3, h4, h5, z32, trivial⟩ (cr := []) (fun c hc => by cases hc) heardT (n := 600) (by kernel_rfl) (Tree.whole_live (by kernel_rfl)) (by
    simp only [heardT, Tree.val, BE.den, cmpI, SV.den, SV.denL, IE.den, plI, Bool.cond_decide, List.getD_cons_zero, List.getD_cons_succ, rWith]
    by_cases ha : poll < 6
    · rw [if_pos ha, show max 6 (min 10 poll) = 6 by omega]; rfl
    · rw [if_neg ha]
      by_cases hb : 10 < poll
      · rw [if_pos hb, show max 6 (min 10 poll) = 10 by omega]; rfl
      · rw [if_neg hb, show max 6 (min 10 poll) = poll by omega]; rfl) w
theorem slow_any (r h p b n0 : Int) (h0 : 0 ≤ r ∧ r ≤ 255) (h1 : 6 ≤ h ∧ h ≤ 10) (h2 : 6 ≤ p ∧ p ≤ 10) (h3 : 0 ≤ b ∧ b ≤ 8) (h4 : -9223372036854775808 ≤ n0 ∧ n0 ≤ 9223372036854775807) (w : World) :
    Calls Try.prog 43 #[stdS.den (envOf []) id, .agg #[.int .u8 r, .int .i64 h, .int .i64 p, .int .i64 b, .int .i64 n0]] w fun e w' =>
      e = .returned (.agg #[.int .u8 r, .int .i64 (min 10 (max h p + 1)), .int .i64 (min 10 (max h p + 1)), .int .i64 0, .int .i64 n0]) ∧ Below w.heap.size w w' :=
  law_any (bs := []) (fs := []) (is := [r, h, p, b, n0, 0, 0]) (rg := reR) (args := [stdS, reS]) ⟨h0, h1, h2, h3, h4, z64, z32, trivial⟩ (cr := []) (fun c hc => by cases hc) slowT (n := 600) (by kernel_rfl) (Tree.whole_live (by kernel_rfl)) (by
    simp only [slowT, Tree.val, BE.den, cmpI, SV.den, SV.denL, IE.den, plI, Bool.cond_decide, List.getD_cons_zero, List.getD_cons_succ, mxI_max]
    by_cases ha : 10 < max h p + 1
    · rw [if_pos ha, show min 10 (max h p + 1) = 10 by omega]
    · rw [if_neg ha, show min 10 (max h p + 1) = max h p + 1 by omega]) w
end Go.Proofs.Ytmgfnejiienghaa
