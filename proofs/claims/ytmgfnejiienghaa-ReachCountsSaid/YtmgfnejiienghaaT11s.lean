/- Law 11: the states of asking (Sent, Heard, Answered, Start) plainly. -/
import Derived.Test.YtmgfnejiienghaaEvT
namespace Go.Proofs.Ytmgfnejiienghaa
open Go Go.RowKit Ev
set_option linter.unusedVariables false
set_option linter.unusedSimpArgs false
set_option maxRecDepth 100000

theorem shownR11 (w : World) : Calls Try.prog 36 #[] w fun e w' => e = .returned (.bool true) ∧ Below w.heap.size w w' :=
  law_any (is := []) (bs := []) (fs := []) (rg := []) (args := []) trivial (cr := []) (fun c hc => by cases hc) (.leaf (.bool (.lit true))) (n := 1000) (by kernel_rfl) rfl rfl w
theorem standardR11 (w : World) : Calls Try.prog 37 #[] w fun e w' => e = .returned (stdS.den (envOf []) id) ∧ Below w.heap.size w w' :=
  law_any (is := []) (bs := []) (fs := []) (rg := []) (args := []) trivial (cr := []) (fun c hc => by cases hc) (.leaf stdS) (n := 1000) (by kernel_rfl) rfl rfl w
abbrev kR11 : List (FuncId × List SV × SV) := [(36, [], .bool (.lit true)), (37, [], stdS)]
theorem kR11_ok {ρ : Env} : ∀ c ∈ kR11, Known Try.prog ρ c := by
  intro c hc
  simp only [kR11, List.mem_cons, List.not_mem_nil, or_false] at hc
  rcases hc with rfl | rfl
  · exact fun φ w _ => shownR11 w
  · exact fun φ w _ => standardR11 w
/-- a state of asking, the burst over: the register, our poll, its, when -/
def rcV (g h p x : Int) : Value := .agg #[.int .u8 g, .int .i64 h, .int .i64 p, .int .i64 0, .int .i64 x]
theorem rc_eq {g h p x g' h' p' x' : Int} (e1 : g = g') (e2 : h = h') (e3 : p = p') (e4 : x = x') : (Value.agg #[.int .u8 g, .int .i64 h, .int .i64 p, .int .i64 0, .int .i64 x]) = rcV g' h' p' x' := by rw [e1, e2, e3, e4]; rfl
/-- our poll behind a question: the register's new one is told -/
def rcH (g h : Int) : Int := if g % 8 = 0 then min (h + 1) 10 else h
def rcG (g : Int) : Int := g * 2 % 256
/-- the wait's two parts -/
def rcW (n : Int) : Int := 4294967296 * 2 ^ n.toNat
def rcD (n d : Int) : Int := d * 2 ^ (n - 4).toNat
def rcX (n now d : Int) : Int := sat (sat (now + rcW n) + rcD n d)
theorem six_ten {n : Int} (h : 6 ≤ n ∧ n ≤ 10) : n = 6 ∨ n = 7 ∨ n = 8 ∨ n = 9 ∨ n = 10 := by omega
theorem rcW_ap {n : Int} (h : 6 ≤ n ∧ n ≤ 10) : apN 3 4294967296 n 0 = rcW n := by
  rcases six_ten h with rfl | rfl | rfl | rfl | rfl <;> rfl
theorem rcD_ap {n d : Int} (h : 6 ≤ n ∧ n ≤ 10) (hd : 0 ≤ d ∧ d ≤ 4294967295) : apN 3 d (plI .sub (mxI n (-1099511627776)) 4) 0 = rcD n d := by
  have e : plI .sub (mxI n (-1099511627776)) 4 = n - 4 := by
    show mxI n (-1099511627776) - 4 = _
    unfold mxI; split <;> omega
  rw [e]
  unfold rcD
  show sat (if n - 4 ≤ 0 then _ else d * 2 ^ (min (n - 4).toNat 64)) = _
  rw [if_neg (by omega), Nat.min_eq_left (by omega)]
  unfold sat
  rcases six_ten h with rfl | rfl | rfl | rfl | rfl <;> simp only [Int.reduceSub, Int.reduceToNat, Int.reducePow] <;> omega
def sentT : Tree :=
(.node (.cmp .eql (.ar .and .u8 (.ar .shl .u8 (.var 0) (.lit 1)) (.lit 7)) (.lit 0))
 (.node (.cmp .lss (.lit 10) (.pl .add (.var 1) (.lit 1)))
 (.leaf (.agg [(.int .u8 (.ar .shl .u8 (.var 0) (.lit 1))), (.int .i64 (.lit 10)), (.int .i64 (.var 2)), (.int .i64 (.lit 0)), (.int .i64 (.ap 1 (.ap 1 (.var 4) (.ap 3 (.lit 4294967296) (.mn (.lit 10) (.var 2)) (.lit 0)) (.lit 0)) (.ap 3 (.var 5) (.pl .sub (.mx (.mn (.lit 10) (.var 2)) (.lit (-1099511627776))) (.lit 4)) (.lit 0)) (.lit 0)))]))
 (.leaf (.agg [(.int .u8 (.ar .shl .u8 (.var 0) (.lit 1))), (.int .i64 (.pl .add (.var 1) (.lit 1))), (.int .i64 (.var 2)), (.int .i64 (.lit 0)), (.int .i64 (.ap 1 (.ap 1 (.var 4) (.ap 3 (.lit 4294967296) (.mn (.pl .add (.var 1) (.lit 1)) (.var 2)) (.lit 0)) (.lit 0)) (.ap 3 (.var 5) (.pl .sub (.mx (.mn (.pl .add (.var 1) (.lit 1)) (.var 2)) (.lit (-1099511627776))) (.lit 4)) (.lit 0)) (.lit 0)))])))
 (.leaf (.agg [(.int .u8 (.ar .shl .u8 (.var 0) (.lit 1))), (.int .i64 (.var 1)), (.int .i64 (.var 2)), (.int .i64 (.lit 0)), (.int .i64 (.ap 1 (.ap 1 (.var 4) (.ap 3 (.lit 4294967296) (.mn (.var 1) (.var 2)) (.lit 0)) (.lit 0)) (.ap 3 (.var 5) (.pl .sub (.mx (.mn (.var 1) (.var 2)) (.lit (-1099511627776))) (.lit 4)) (.lit 0)) (.lit 0)))])))
def heardT : Tree :=
(.node (.cmp .lss (.var 4) (.lit 6))
 (.leaf (.agg [(.int .u8 (.ar .or .u8 (.var 0) (.lit 1))), (.int .i64 (.var 1)), (.int .i64 (.lit 6)), (.int .i64 (.lit 0)), (.int .i64 (.var 3))]))
 (.node (.cmp .lss (.lit 10) (.var 4))
 (.leaf (.agg [(.int .u8 (.ar .or .u8 (.var 0) (.lit 1))), (.int .i64 (.var 1)), (.int .i64 (.lit 10)), (.int .i64 (.lit 0)), (.int .i64 (.var 3))]))
 (.leaf (.agg [(.int .u8 (.ar .or .u8 (.var 0) (.lit 1))), (.int .i64 (.var 1)), (.int .i64 (.var 4)), (.int .i64 (.lit 0)), (.int .i64 (.var 3))]))))
def ansT : Tree :=
(.leaf (.int .i64 (.tab [0, 1, 1, 2, 1, 2, 2, 3, 1, 2, 2, 3, 2, 3, 3, 4, 1, 2, 2, 3, 2, 3, 3, 4, 2, 3, 3, 4, 3, 4, 4, 5, 1, 2, 2, 3, 2, 3, 3, 4, 2, 3, 3, 4, 3, 4, 4, 5, 2, 3, 3, 4, 3, 4, 4, 5, 3, 4, 4, 5, 4, 5, 5, 6, 1, 2, 2, 3, 2, 3, 3, 4, 2, 3, 3, 4, 3, 4, 4, 5, 2, 3, 3, 4, 3, 4, 4, 5, 3, 4, 4, 5, 4, 5, 5, 6, 2, 3, 3, 4, 3, 4, 4, 5, 3, 4, 4, 5, 4, 5, 5, 6, 3, 4, 4, 5, 4, 5, 5, 6, 4, 5, 5, 6, 5, 6, 6, 7, 1, 2, 2, 3, 2, 3, 3, 4, 2, 3, 3, 4, 3, 4, 4, 5, 2, 3, 3, 4, 3, 4, 4, 5, 3, 4, 4, 5, 4, 5, 5, 6, 2, 3, 3, 4, 3, 4, 4, 5, 3, 4, 4, 5, 4, 5, 5, 6, 3, 4, 4, 5, 4, 5, 5, 6, 4, 5, 5, 6, 5, 6, 6, 7, 2, 3, 3, 4, 3, 4, 4, 5, 3, 4, 4, 5, 4, 5, 5, 6, 3, 4, 4, 5, 4, 5, 5, 6, 4, 5, 5, 6, 5, 6, 6, 7, 3, 4, 4, 5, 4, 5, 5, 6, 4, 5, 5, 6, 5, 6, 6, 7, 4, 5, 5, 6, 5, 6, 6, 7, 5, 6, 6, 7, 6, 7, 7, 8] (.var 0))))
theorem shl_rc {g : Int} (h : 0 ≤ g ∧ g ≤ 255) : arI .shl .u8 g 1 = rcG g := by
  obtain ⟨n, rfl⟩ : ∃ n : Nat, g = n := ⟨g.toNat, by omega⟩
  have hn : n < 256 := by omega
  have key : ∀ n : Nat, n < 256 → arI .shl .u8 (n : Int) 1 = rcG n := by decide
  exact key n hn
theorem and_rc {g : Int} (h : 0 ≤ g ∧ g ≤ 255) : arI .and .u8 (rcG g) 7 = rcG g % 8 := by
  obtain ⟨n, rfl⟩ : ∃ n : Nat, g = n := ⟨g.toNat, by omega⟩
  have hn : n < 256 := by omega
  have key : ∀ n : Nat, n < 256 → arI .and .u8 (rcG n) 7 = rcG n % 8 := by decide
  exact key n hn
def rcO (g : Int) : Int := if g % 2 = 0 then g + 1 else g
theorem or_rc {g : Int} (h : 0 ≤ g ∧ g ≤ 255) : arI .or .u8 g 1 = rcO g := by
  obtain ⟨n, rfl⟩ : ∃ n : Nat, g = n := ⟨g.toNat, by omega⟩
  have hn : n < 256 := by omega
  have key : ∀ n : Nat, n < 256 → arI .or .u8 (n : Int) 1 = rcO n := by decide
  exact key n hn
theorem sentT_val (g h p x now d : Int) (hg : 0 ≤ g ∧ g ≤ 255) (hh : 6 ≤ h ∧ h ≤ 10) (hp : 6 ≤ p ∧ p ≤ 10) (hd : 0 ≤ d ∧ d ≤ 4294967295) :
    sentT.val (envOf [g, h, p, x, now, d] (ap := apN)) = rcV (rcG g) (rcH (rcG g) h) p (rcX (min (rcH (rcG g) h) p) now d) := by
  have ea : ∀ x y : Int, plI .add x y = x + y := fun _ _ => rfl
  have en : ∀ x y : Int, mnI x y = min x y := fun x y => by unfold mnI; split <;> omega
  have key : ∀ h', 6 ≤ h' ∧ h' ≤ 10 → apN 1 (apN 1 now (apN 3 4294967296 (mnI h' p) 0) 0) (apN 3 d (plI .sub (mxI (mnI h' p) (-1099511627776)) 4) 0) 0 = rcX (min h' p) now d := by
    intro h' h1
    rw [en, rcW_ap (by omega), rcD_ap (by omega) hd]
    rfl
  simp only [sentT, Tree.val, BE.den, cmpI, SV.den, SV.denL, IE.den, Bool.cond_decide, List.getD_cons_zero, List.getD_cons_succ, shl_rc hg, and_rc hg]
  unfold rcH
  by_cases c : rcG g % 8 = 0
  · rw [show (rcG g % 8 == 0) = true from beq_iff_eq.2 c, cond_true, if_pos c]
    by_cases c2 : 10 < plI .add h 1
    · rw [if_pos c2]
      have : h + 1 > 10 := c2
      have e : min (h + 1) 10 = 10 := by omega
      rw [e]
      exact rc_eq rfl rfl rfl (key 10 (by omega))
    · rw [if_neg c2]
      have : ¬ 10 < h + 1 := c2
      have e : min (h + 1) 10 = h + 1 := by omega
      rw [e]
      exact rc_eq rfl rfl rfl (key (h + 1) (by omega))
  · rw [show (rcG g % 8 == 0) = false from beq_false_of_ne c, cond_false, if_neg c]
    exact rc_eq rfl rfl rfl (key h hh)
abbrev rcR : List (Int × Int) := [(0, 255), (6, 10), (6, 10), i64R, i64R, (0, 4294967295)]
theorem sent_any (g h p x now d : Int) (hg : 0 ≤ g ∧ g ≤ 255) (hh : 6 ≤ h ∧ h ≤ 10) (hp : 6 ≤ p ∧ p ≤ 10) (hx : InI x) (hn : InI now) (hd : 0 ≤ d ∧ d ≤ 4294967295) (w : World) :
    Calls Try.prog 40 #[stdS.den (envOf []) id, rcV g h p x, .int .i64 now, .int .u32 d] w fun e w' => e = .returned (rcV (rcG g) (rcH (rcG g) h) p (rcX (min (rcH (rcG g) h) p) now d)) ∧ Below w.heap.size w w' :=
  law_any (bs := []) (fs := []) (is := [g, h, p, x, now, d]) (rg := rcR) (args := [stdS, .agg [.int .u8 (.var 0), .int .i64 (.var 1), .int .i64 (.var 2), .int .i64 (.lit 0), .int .i64 (.var 3)], .int .i64 (.var 4), .int .u32 (.var 5)]) ⟨hg, hh, hp, hx, hn, hd, trivial⟩ (cr := []) (fun c hc => by cases hc) sentT (n := 600) (by kernel_rfl) (Tree.whole_live (by kernel_rfl)) (sentT_val g h p x now d hg hh hp hd) w
theorem heard_any (g h p x n : Int) (hg : 0 ≤ g ∧ g ≤ 255) (hh : 6 ≤ h ∧ h ≤ 10) (hp : 6 ≤ p ∧ p ≤ 10) (hx : InI x) (hn : InI n) (w : World) :
    Calls Try.prog 39 #[stdS.den (envOf []) id, rcV g h p x, .int .i64 n] w fun e w' => e = .returned (rcV (rcO g) h (max 6 (min 10 n)) x) ∧ Below w.heap.size w w' :=
  law_any (bs := []) (fs := []) (is := [g, h, p, x, n]) (rg := [(0, 255), (6, 10), (6, 10), i64R, i64R]) (args := [stdS, .agg [.int .u8 (.var 0), .int .i64 (.var 1), .int .i64 (.var 2), .int .i64 (.lit 0), .int .i64 (.var 3)], .int .i64 (.var 4)]) ⟨hg, hh, hp, hx, hn, trivial⟩ (cr := []) (fun c hc => by cases hc) heardT (n := 600) (by kernel_rfl) (Tree.whole_live (by kernel_rfl)) (by
    simp only [heardT, Tree.val, BE.den, cmpI, SV.den, SV.denL, IE.den, Bool.cond_decide, List.getD_cons_zero, List.getD_cons_succ, or_rc hg]
    repeat' split
    all_goals exact rc_eq rfl rfl (by omega) rfl) w
def popI (g : Int) : Int := ([0, 1, 1, 2, 1, 2, 2, 3, 1, 2, 2, 3, 2, 3, 3, 4] : List Int).getD (g.toNat % 16) 0 + ([0, 1, 1, 2, 1, 2, 2, 3, 1, 2, 2, 3, 2, 3, 3, 4] : List Int).getD (g.toNat / 16) 0
theorem ansT_val {g : Int} (h : 0 ≤ g ∧ g ≤ 255) (hh pp x : Int) : ansT.val (envOf [g, hh, pp, x] (ap := apN)) = .int .i64 (popI g) := by
  obtain ⟨n, rfl⟩ : ∃ n : Nat, g = n := ⟨g.toNat, by omega⟩
  have hn : n < 256 := by omega
  have key : ∀ n : Nat, n < 256 → (tabI [0, 1, 1, 2, 1, 2, 2, 3, 1, 2, 2, 3, 2, 3, 3, 4, 1, 2, 2, 3, 2, 3, 3, 4, 2, 3, 3, 4, 3, 4, 4, 5, 1, 2, 2, 3, 2, 3, 3, 4, 2, 3, 3, 4, 3, 4, 4, 5, 2, 3, 3, 4, 3, 4, 4, 5, 3, 4, 4, 5, 4, 5, 5, 6, 1, 2, 2, 3, 2, 3, 3, 4, 2, 3, 3, 4, 3, 4, 4, 5, 2, 3, 3, 4, 3, 4, 4, 5, 3, 4, 4, 5, 4, 5, 5, 6, 2, 3, 3, 4, 3, 4, 4, 5, 3, 4, 4, 5, 4, 5, 5, 6, 3, 4, 4, 5, 4, 5, 5, 6, 4, 5, 5, 6, 5, 6, 6, 7, 1, 2, 2, 3, 2, 3, 3, 4, 2, 3, 3, 4, 3, 4, 4, 5, 2, 3, 3, 4, 3, 4, 4, 5, 3, 4, 4, 5, 4, 5, 5, 6, 2, 3, 3, 4, 3, 4, 4, 5, 3, 4, 4, 5, 4, 5, 5, 6, 3, 4, 4, 5, 4, 5, 5, 6, 4, 5, 5, 6, 5, 6, 6, 7, 2, 3, 3, 4, 3, 4, 4, 5, 3, 4, 4, 5, 4, 5, 5, 6, 3, 4, 4, 5, 4, 5, 5, 6, 4, 5, 5, 6, 5, 6, 6, 7, 3, 4, 4, 5, 4, 5, 5, 6, 4, 5, 5, 6, 5, 6, 6, 7, 4, 5, 5, 6, 5, 6, 6, 7, 5, 6, 6, 7, 6, 7, 7, 8] n) = popI n := by decide
  exact congrArg (Value.int .i64) (key n hn)
theorem ans_any (g h p x : Int) (hg : 0 ≤ g ∧ g ≤ 255) (hh : 6 ≤ h ∧ h ≤ 10) (hp : 6 ≤ p ∧ p ≤ 10) (hx : InI x) (w : World) :
    Calls Try.prog 41 #[rcV g h p x] w fun e w' => e = .returned (.int .i64 (popI g)) ∧ Below w.heap.size w w' :=
  law_any (bs := []) (fs := []) (is := [g, h, p, x]) (rg := [(0, 255), (6, 10), (6, 10), i64R]) (args := [.agg [.int .u8 (.var 0), .int .i64 (.var 1), .int .i64 (.var 2), .int .i64 (.lit 0), .int .i64 (.var 3)]]) ⟨hg, hh, hp, hx, trivial⟩ (cr := []) (fun c hc => by cases hc) ansT (n := 600) (by kernel_rfl) (Tree.whole_live (by kernel_rfl)) (ansT_val hg h p x) w
end Go.Proofs.Ytmgfnejiienghaa
