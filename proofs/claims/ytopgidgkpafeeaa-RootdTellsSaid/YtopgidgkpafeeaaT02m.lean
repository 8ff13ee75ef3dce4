/- The document's numbers: Plus, Mul, Shift by their contracts; laws with them. -/
import Derived.Test.YtopgidgkpafeeaaEvT
import Derived.Test.YtopgidgkpafeeaaNw
namespace Go.Proofs.Ytopgidgkpafeeaa
open Go Go.RowKit Ev
set_option linter.unusedVariables false
set_option linter.unusedSimpArgs false
set_option maxRecDepth 100000

abbrev U02 : SV := .raw (.tuple #[])
abbrev u64Q : Int × Int := (0, 18446744073709551615)
def rpHi (ah al bh bl : Int) : Int := (ah + bh + (al + bl) / 18446744073709551616) % 18446744073709551616
def rpLo (al bl : Int) : Int := (al + bl) % 18446744073709551616
def rpC (ah al bh bl : Int) : Bool := decide (18446744073709551616 ≤ ah + bh + (al + bl) / 18446744073709551616)
theorem rpHi_in (ah al bh bl : Int) : 0 ≤ rpHi ah al bh bl ∧ rpHi ah al bh bl ≤ 18446744073709551615 := by unfold rpHi; omega
theorem rpLo_in (al bl : Int) : 0 ≤ rpLo al bl ∧ rpLo al bl ≤ 18446744073709551615 := by unfold rpLo; omega
def rpT : Tree :=
(.node (.cmp .lss (.ar .add .u64 (.var 1) (.var 3)) (.var 1))
 (.node (.cmp .lss (.ar .add .u64 (.var 0) (.var 2)) (.var 0))
 (.leaf (.tuple [(.int .u64 (.ar .add .u64 (.ar .add .u64 (.var 0) (.var 2)) (.lit 1))), (.int .u64 (.ar .add .u64 (.var 1) (.var 3))), (.bool (.lit true))]))
 (.leaf (.tuple [(.int .u64 (.ar .add .u64 (.ar .add .u64 (.var 0) (.var 2)) (.lit 1))), (.int .u64 (.ar .add .u64 (.var 1) (.var 3))), (.bool (.cmp .lss (.ar .add .u64 (.ar .add .u64 (.var 0) (.var 2)) (.lit 1)) (.ar .add .u64 (.var 0) (.var 2))))])))
 (.node (.cmp .lss (.ar .add .u64 (.var 0) (.var 2)) (.var 0))
 (.leaf (.tuple [(.int .u64 (.pl .add (.ar .add .u64 (.var 0) (.var 2)) (.lit 0))), (.int .u64 (.ar .add .u64 (.var 1) (.var 3))), (.bool (.lit true))]))
 (.leaf (.tuple [(.int .u64 (.pl .add (.ar .add .u64 (.var 0) (.var 2)) (.lit 0))), (.int .u64 (.ar .add .u64 (.var 1) (.var 3))), (.bool (.cmp .lss (.pl .add (.ar .add .u64 (.var 0) (.var 2)) (.lit 0)) (.ar .add .u64 (.var 0) (.var 2))))]))))
theorem tup3 {x y x' y' : Int} {b b' : Bool} (h1 : x = x') (h2 : y = y') (h3 : b = b') : Value.tuple #[.int .u64 x, .int .u64 y, .bool b] = Value.tuple #[.int .u64 x', .int .u64 y', .bool b'] := by rw [h1, h2, h3]
theorem rplus_any (ah al bh bl : Int) (h0 : 0 ≤ ah ∧ ah ≤ 18446744073709551615) (h1 : 0 ≤ al ∧ al ≤ 18446744073709551615) (h2 : 0 ≤ bh ∧ bh ≤ 18446744073709551615) (h3 : 0 ≤ bl ∧ bl ≤ 18446744073709551615) (w : World) :
    Calls Try.prog 109 #[.int .u64 ah, .int .u64 al, .int .u64 bh, .int .u64 bl] w fun e w' => e = .returned (.tuple #[.int .u64 (rpHi ah al bh bl), .int .u64 (rpLo al bl), .bool (rpC ah al bh bl)]) ∧ Below w.heap.size w w' :=
  law_any (bs := []) (fs := []) (is := [ah, al, bh, bl]) (rg := [u64Q, u64Q, u64Q, u64Q]) (args := [.int .u64 (.var 0), .int .u64 (.var 1), .int .u64 (.var 2), .int .u64 (.var 3)]) ⟨h0, h1, h2, h3, trivial⟩ (cr := []) (fun c hc => by cases hc) rpT (n := 400) (by kernel_rfl) (Tree.whole_live (by kernel_rfl)) (by
    simp only [rpT, Tree.val, BE.den, cmpI, SV.den, SV.denL, IE.den, Bool.cond_decide, List.getD_cons_zero, List.getD_cons_succ, addW, plI]
    unfold rpHi rpLo rpC
    split
    · split
      · exact tup3 (by omega) rfl (decide_eq_true (by omega)).symm
      · exact tup3 (by omega) rfl (decide_eq_decide.2 (by omega))
    · split
      · exact tup3 (by omega) rfl (decide_eq_true (by omega)).symm
      · exact tup3 (by omega) rfl (decide_eq_decide.2 (by omega))) w

/-! Mul by adding what is shifted -/
def rmL : LoopSum := ⟨[(.int .u64 (.var 0)), (.int .u64 (.var 1)), U02, U02, (.int .u64 (.lit 0)), (.int .u64 (.lit 0)), (.int .u64 (.lit 0)), (.int .u64 (.lit 0)), (.int .i64 (.lit 63)), U02, U02, U02, U02, U02, U02, U02, U02, U02, U02, U02, U02, U02, U02, U02, U02, U02, U02, U02, U02, U02, U02, U02, U02, U02, U02, U02], [],
  (.exit 0), [(.int .u64 (.var 0)), (.int .u64 (.var 1)), U02, U02, (.int .u64 (.lit 0)), (.int .u64 (.lit 0)), (.int .u64 (.var 2)), (.int .u64 (.var 3)), .any, .any, .any, .any, .any, .any, .any, .any, .any, .any, .any, .any, .any, .any, .any, .any, .any, .any, .any, .any, .any, .any, .any, .any, .any, .any, U02, U02], []⟩
def rmH : St := ⟨Tm.ofL [(.int .u64 (.var 0)), (.int .u64 (.var 1)), U02, U02, (.int .u64 (.lit 0)), (.int .u64 (.lit 0)), (.int .u64 (.var 4)), (.int .u64 (.var 5)), (.int .i64 (.var 6)), .any, .any, .any, .any, .any, .any, .any, .any, .any, .any, .any, .any, .any, .any, .any, .any, .any, .any, .any, .any, .any, .any, .any, .any, .any, U02, U02], []⟩
def rmE : List IE := [(.var 0), (.var 1), (.var 2), (.var 3), (.lit 0), (.lit 0), (.lit 63)]
def rmB : List BE := []
def rmT : RT :=
(.node (.cmp .lss (.var 6) (.lit 0))
 (.stop [(.var 0), (.var 1), (.var 4), (.var 5)] [])
 (.node (.cmp .eql (.ar .and .u64 (.ar .shr .u64 (.var 1) (.var 6)) (.lit 1)) (.lit 1))
 (.go [(.var 0), (.var 1), (.var 2), (.var 3), (.var 9), (.var 10), (.pl .sub (.var 6) (.lit 1))] [])
 (.go [(.var 0), (.var 1), (.var 2), (.var 3), (.var 7), (.var 8), (.pl .sub (.var 6) (.lit 1))] [])))
abbrev rmP : List Nat := [0, 1, 0, 1, 1, 1]
abbrev rmR : List (Int × Int) := [u64Q, u64Q, u64Q, u64Q]
abbrev rmRx : List (Int × Int) := rmR ++ [u64Q, u64Q, (-1, 63), u64Q, u64Q, u64Q, u64Q]
abbrev rmK : List (FuncId × List SV × SV) := [(109, [.int .u64 (.var 4), .int .u64 (.var 5), .int .u64 (.var 4), .int .u64 (.var 5)], .tuple [.int .u64 (.var 7), .int .u64 (.var 8), .bool (.var 0)]), (109, [.int .u64 (.var 7), .int .u64 (.var 8), .int .u64 (.lit 0), .int .u64 (.var 0)], .tuple [.int .u64 (.var 9), .int .u64 (.var 10), .bool (.var 1)])]
noncomputable abbrev rmX : Ctx := { pc := [], cr := rmK ++ crS, rg := rmRx, ar := arN, ct := conCt rmRx arN consN }
theorem rm_lpB : lpB Try.prog rmX 400 93 rmP 1 rmL rmH rmT rmE rmB = true := by kernel_rfl
def rmV (a b j : Nat) : Nat := a * (b / 2 ^ j)
theorem rmV_step (a b j : Nat) : rmV a b j = 2 * rmV a b (j + 1) + a * (b / 2 ^ j % 2) := by
  unfold rmV
  rw [Nat.pow_succ, ← Nat.div_div_eq_div_mul]
  generalize b / 2 ^ j = q
  have h := Nat.div_add_mod q 2
  rw [Nat.mul_left_comm 2 a, ← Nat.mul_add, h]
theorem rmV_le {a b : Nat} (ha : a ≤ 18446744073709551615) (hb : b ≤ 18446744073709551615) (j : Nat) : rmV a b j ≤ 18446744073709551615 * 18446744073709551615 :=
  Nat.mul_le_mul ha (Nat.le_trans (Nat.div_le_self _ _) hb)
abbrev rmHi (a b j : Nat) : Int := (rmV a b j : Int) / 18446744073709551616
abbrev rmLo (a b j : Nat) : Int := (rmV a b j : Int) % 18446744073709551616
abbrev rmH1 (a b j : Nat) : Int := rpHi (rmHi a b j) (rmLo a b j) (rmHi a b j) (rmLo a b j)
abbrev rmL1 (a b j : Nat) : Int := rpLo (rmLo a b j) (rmLo a b j)
abbrev rmSt (a b j : Nat) : List Int := [(a : Int), b, rmHi a b 0, rmLo a b 0, rmHi a b j, rmLo a b j, (j : Int) - 1, rmH1 a b j, rmL1 a b j, rpHi (rmH1 a b j) (rmL1 a b j) 0 a, rpLo (rmL1 a b j) a]
abbrev rmBs (a b j : Nat) : List Bool := [rpC (rmHi a b j) (rmLo a b j) (rmHi a b j) (rmLo a b j), rpC (rmH1 a b j) (rmL1 a b j) 0 a]
theorem and1 {x : Int} (hx : 0 ≤ x ∧ x < 18446744073709551616) : arI .and .u64 x 1 = x % 2 := by
  obtain ⟨a, rfl⟩ := Int.eq_ofNat_of_zero_le hx.1
  have ha64 : a < 18446744073709551616 := by omega
  have e64 : (2 : Nat) ^ 64 = 18446744073709551616 := by decide
  show IntKind.u64.wrap (((BitVec.ofInt 64 a &&& BitVec.ofInt 64 1).toNat : Nat) : Int) = _
  have ea : ((a : Int) % ((2 ^ 64 : Nat) : Int)).toNat = a := by rw [e64]; omega
  have eb : (BitVec.ofInt 64 1).toNat = 2 ^ 1 - 1 := by decide
  rw [BitVec.toNat_and, BitVec.toNat_ofInt, ea, eb, Nat.and_two_pow_sub_one_eq_mod, IntKind.wrap_u64]
  show ((a % 2 : Nat) : Int) % 18446744073709551616 = (a : Int) % 2
  omega
theorem and1N {q : Nat} (h : q ≤ 18446744073709551615) : arI .and .u64 ((q : Nat) : Int) 1 = ((q % 2 : Nat) : Int) := by
  rw [and1 (by omega)]; omega
theorem rm_rg {ρ : Env} {a b : Nat} (ha : a ≤ 18446744073709551615) (hb : b ≤ 18446744073709551615) {j : Nat} (hj : j ≤ 64) (bs : List Bool) : AllIn (ρ.on (rmSt a b j) bs).i rmRx 0 := by
  have h0 := rmV_le ha hb 0
  have h1 := rmV_le ha hb j
  have k0 : 0 ≤ rmHi a b 0 ∧ rmHi a b 0 ≤ 18446744073709551615 := by unfold rmHi; omega
  have k1 : 0 ≤ rmHi a b j ∧ rmHi a b j ≤ 18446744073709551615 := by unfold rmHi; omega
  have k2 : 0 ≤ rmLo a b 0 ∧ rmLo a b 0 ≤ 18446744073709551615 := by unfold rmLo; omega
  have k3 : 0 ≤ rmLo a b j ∧ rmLo a b j ≤ 18446744073709551615 := by unfold rmLo; omega
  have k4 : -1 ≤ (j : Int) - 1 ∧ (j : Int) - 1 ≤ 63 := by omega
  have ka : 0 ≤ (a : Int) ∧ (a : Int) ≤ 18446744073709551615 := by omega
  have kb : 0 ≤ (b : Int) ∧ (b : Int) ≤ 18446744073709551615 := by omega
  simp only [AllIn, Env.on, rmSt, List.getD_cons_zero, List.getD_cons_succ]
  exact ⟨ka, kb, k0, k2, k1, k3, k4, rpHi_in .., rpLo_in .., rpHi_in .., rpLo_in .., trivial⟩
theorem rm_next {ρ : Env} {a b : Nat} (ha : a ≤ 18446744073709551615) (hb : b ≤ 18446744073709551615) {j : Nat} (hj : j < 64) :
    rmT.next (ρ.on (rmSt a b (j + 1)) (rmBs a b (j + 1))) = some ([(a : Int), b, rmHi a b 0, rmLo a b 0, rmHi a b j, rmLo a b j, (j : Int) - 1], []) := by
  have hs := rmV_step a b j
  have h1 := rmV_le ha hb j
  have e0 : (((j + 1 : Nat) : Int) - 1) = (j : Int) := by omega
  have f0 : ¬ ((j : Int) < 0) := by omega
  have esh : arI .shr .u64 (b : Int) (j : Int) = ((b / 2 ^ j : Nat) : Int) := by
    rw [shrW _ j (by omega)]
    rw [show ((2 : Int) ^ j) = ((2 ^ j : Nat) : Int) from (Int.natCast_pow 2 j).symm]
    exact (Int.natCast_ediv b (2 ^ j)).symm
  have hq : b / 2 ^ j ≤ b := Nat.div_le_self _ _
  have eand : arI .and .u64 ((b / 2 ^ j : Nat) : Int) 1 = ((b / 2 ^ j % 2 : Nat) : Int) := and1N (Nat.le_trans hq hb)
  simp only [rmT, RT.next, BE.den, cmpI, IE.den, Env.on, rmSt, List.getD_cons_zero, List.getD_cons_succ, dens, bdens, List.map_cons, List.map_nil, e0, decide_eq_false f0, cond_false, esh, eand, plI]
  have hb2 : b / 2 ^ j % 2 = 0 ∨ b / 2 ^ j % 2 = 1 := by omega
  rcases hb2 with h2 | h2
  · rw [h2] at hs ⊢
    rw [show (((0 : Nat) : Int) == 1) = false from rfl, cond_false]
    have g1 : rmH1 a b (j + 1) = rmHi a b j := by unfold rmH1 rmHi rmLo rpHi; omega
    have g2 : rmL1 a b (j + 1) = rmLo a b j := by unfold rmL1 rmLo rpLo; omega
    rw [g1, g2]
  · rw [h2] at hs ⊢
    rw [show (((1 : Nat) : Int) == 1) = true from rfl, cond_true]
    have g1 : rpHi (rmH1 a b (j + 1)) (rmL1 a b (j + 1)) 0 a = rmHi a b j := by unfold rmH1 rmL1 rmHi rmLo rpHi rpLo; omega
    have g2 : rpLo (rmL1 a b (j + 1)) a = rmLo a b j := by unfold rmL1 rmLo rpLo; omega
    rw [g1, g2]
theorem rm_loop {a b : Nat} (ha : a ≤ 18446744073709551615) (hb : b ≤ 18446744073709551615) {E : List (Nat × Nat)} {cd : Code} (hc : codeAt Try.prog 93 rmP = .loop cd) : LoopGoes Try.prog (envOf [(a : Int), b, rmHi a b 0, rmLo a b 0] (ap := apN)) E rmL cd := by
  generalize hρ : envOf [(a : Int), b, rmHi a b 0, rmLo a b 0] (ap := apN) = ρ
  have hap : ρ.a = apN := by rw [← hρ]
  refine rt_lpx rm_lpB hc (fun m is bs => ∃ j : Nat, j ≤ 64 ∧ m = j ∧ bs = rmBs a b j ∧ is = rmSt a b j) ?_ ?_ ⟨64, rmSt a b 64, rmBs a b 64, ⟨64, Nat.le_refl _, rfl, rfl, rfl⟩, ?_, ⟨_, rfl⟩⟩ ?_
  · rintro m is bs ⟨j, hj, _, rfl, rfl⟩
    exact knows_env rfl (rm_rg ha hb hj _) (by rw [show (ρ.on (rmSt a b j) (rmBs a b j)).a = apN from hap]; exact arN_ok)
  · rintro m is bs ⟨j, hj, _, rfl, rfl⟩ E
    have hr := rm_rg (ρ := ρ) ha hb hj (rmBs a b j)
    refine knowsC_all (AllIn.get0 hr) (numA_N hap) (arIn_N hap) (fun c0 hc0 => ?_) LpOk.none
    have h1 := rmV_le ha hb j
    have k1 : 0 ≤ rmHi a b j ∧ rmHi a b j ≤ 18446744073709551615 := by unfold rmHi; omega
    have k3 : 0 ≤ rmLo a b j ∧ rmLo a b j ≤ 18446744073709551615 := by unfold rmLo; omega
    simp only [rmK, List.mem_cons, List.not_mem_nil, or_false] at hc0
    rcases hc0 with rfl | rfl
    · exact fun φ w _ => rplus_any (rmHi a b j) (rmLo a b j) (rmHi a b j) (rmLo a b j) k1 k3 k1 k3 w
    · exact fun φ w _ => rplus_any (rmH1 a b j) (rmL1 a b j) 0 a (rpHi_in ..) (rpLo_in ..) (by decide) (by omega) w
  · rw [← hρ]
    have z : rmV a b 64 = 0 := by
      have h64 : (2 : Nat) ^ 64 = 18446744073709551616 := by decide
      unfold rmV; rw [Nat.div_eq_of_lt (by rw [h64]; omega), Nat.mul_zero]
    have z1 : rmHi a b 64 = 0 := by unfold rmHi; rw [z]; rfl
    have z2 : rmLo a b 64 = 0 := by unfold rmLo; rw [z]; rfl
    refine ⟨[rmH1 a b 64, rmL1 a b 64, rpHi (rmH1 a b 64) (rmL1 a b 64) 0 a, rpLo (rmL1 a b 64) a], ?_⟩
    show _ = [(a : Int), b, rmHi a b 0, rmLo a b 0, rmHi a b 64, rmLo a b 64, ((64 : Nat) : Int) - 1, rmH1 a b 64, rmL1 a b 64, rpHi (rmH1 a b 64) (rmL1 a b 64) 0 a, rpLo (rmL1 a b 64) a]
    rw [z1, z2]
    rfl
  · rintro m is bs ⟨j, hj, rfl, rfl, rfl⟩
    rcases m with _ | j
    · refine .inr ⟨[(a : Int), b, rmHi a b 0, rmLo a b 0], [], ?_, by rw [← hρ]; exact envOf_has _ _ _ _ _ _⟩
      simp only [rmT, RT.out, BE.den, cmpI, IE.den, Env.on, rmSt, List.getD_cons_zero, List.getD_cons_succ, dens, bdens, List.map_cons, List.map_nil]
      rfl
    · exact .inl ⟨_, [], j, rmSt a b j, rmBs a b j, rm_next ha hb (by omega), by omega, ⟨j, by omega, rfl, rfl, rfl⟩, ⟨[rmH1 a b j, rmL1 a b j, rpHi (rmH1 a b j) (rmL1 a b j) 0 a, rpLo (rmL1 a b j) a], rfl⟩, ⟨_, List.nil_append _⟩⟩
abbrev rmLp : FuncId → List Nat → Nat → Option LoopSum := fun f p _ => if Nat.beq f 93 && decide (p = rmP) then some rmL else none
theorem rmul_any (a b : Int) (ha : 0 ≤ a ∧ a ≤ 18446744073709551615) (hb : 0 ≤ b ∧ b ≤ 18446744073709551615) (w : World) :
    Calls Try.prog 93 #[.int .u64 a, .int .u64 b] w fun e w' => e = .returned (.tuple #[.int .u64 (a * b / 18446744073709551616), .int .u64 (a * b % 18446744073709551616)]) ∧ Below w.heap.size w w' := by
  obtain ⟨a, rfl⟩ := Int.eq_ofNat_of_zero_le ha.1
  obtain ⟨b, rfl⟩ := Int.eq_ofNat_of_zero_le hb.1
  have ha' : a ≤ 18446744073709551615 := by omega
  have hb' : b ≤ 18446744073709551615 := by omega
  have h0 := rmV_le ha' hb' 0
  have hV : (rmV a b 0 : Int) = (a : Int) * b := by unfold rmV; rw [Nat.pow_zero, Nat.div_one, Int.natCast_mul]
  have key := law_all (ρ := envOf [(a : Int), b, rmHi a b 0, rmLo a b 0] (ap := apN)) (rg := rmR) (ar := arN) (f := 93) (args := [.int .u64 (.var 0), .int .u64 (.var 1)]) ⟨ha, hb, ⟨by show 0 ≤ rmHi a b 0; unfold rmHi; omega, by show rmHi a b 0 ≤ 18446744073709551615; unfold rmHi; omega⟩, ⟨by show 0 ≤ rmLo a b 0; unfold rmLo; omega, by show rmLo a b 0 ≤ 18446744073709551615; unfold rmLo; omega⟩, trivial⟩ (numA_N rfl) (arIn_N rfl) (cr := []) (fun c hc => by cases hc) (lp := rmLp) ?_ (xs := []) (fun _ _ h => by cases h) (.leaf (.tuple [.int .u64 (.var 2), .int .u64 (.var 3)])) (n := 400) (by kernel_rfl) rfl rfl w (ExtIn.none fun _ => rfl)
  · have e1 : rmHi a b 0 = (a : Int) * b / 18446744073709551616 := by show (rmV a b 0 : Int) / _ = _; rw [hV]
    have e2 : rmLo a b 0 = (a : Int) * b % 18446744073709551616 := by show (rmV a b 0 : Int) % _ = _; rw [hV]
    rw [← e1, ← e2]
    exact key
  · intro f p u L hL cd hcd _
    dsimp only [rmLp] at hL
    split at hL
    · rename_i hfp
      simp only [Bool.and_eq_true, Nat.beq_eq, decide_eq_true_eq] at hfp
      obtain ⟨rfl, rfl⟩ := hfp
      cases hL
      exact rm_loop ha' hb' hcd
    · cases hL

/-! Mul of numbers with a sign -/
def zSize (a : Int) : Int := if a < 0 then -a else a
theorem zSize_in {a : Int} (h : InI a) : 0 ≤ zSize a ∧ zSize a ≤ 9223372036854775808 := by unfold zSize; have := h.1; have := h.2; split <;> omega
theorem rsize_any (a : Int) (h : InI a) (w : World) : Calls Try.prog 92 #[.int .i64 a] w fun e w' => e = .returned (.int .u64 (zSize a)) ∧ Below w.heap.size w w' :=
  law_any (bs := []) (fs := []) (is := [a]) (rg := [i64R]) (args := [.int .i64 (.var 0)]) ⟨h, trivial⟩ (cr := []) (fun c hc => by cases hc) (.node (.cmp .lss (.var 0) (.lit 0)) (.leaf (.int .u64 (.ar .sub .u64 (.lit 0) (.wr .u64 (.var 0))))) (.leaf (.int .u64 (.var 0)))) (n := 400) (by kernel_rfl) (Tree.whole_live (by kernel_rfl)) (by
    have h1 := h.1; have h2 := h.2
    simp only [Tree.val, BE.den, cmpI, SV.den, IE.den, Bool.cond_decide, List.getD_cons_zero]
    unfold zSize
    split
    · have : arI .sub .u64 0 (IntKind.u64.wrap a) = -a := by
        show IntKind.u64.wrap (0 - IntKind.u64.wrap a) = -a
        rw [IntKind.wrap_u64, IntKind.wrap_u64]; omega
      rw [this]
    · rfl) w
def rsT : Tree :=
(.node (.cmp .lss (.var 4) (.lit 2147483648))
 (.node (.cmp .lss (.var 0) (.lit 0))
 (.node (.cmp .lss (.var 1) (.lit 0))
 (.node (.cmp .lss (.lit 9223372036854775807) (.ar .or .u64 (.ar .shl .u64 (.var 4) (.lit 32)) (.ar .shr .u64 (.var 5) (.lit 32))))
 (.leaf (.int .i64 (.lit 9223372036854775807)))
 (.leaf (.int .i64 (.ar .or .u64 (.ar .shl .u64 (.var 4) (.lit 32)) (.ar .shr .u64 (.var 5) (.lit 32))))))
 (.node (.cmp .eql (.ar .shl .u64 (.var 5) (.lit 32)) (.lit 0))
 (.node (.cmp .lss (.lit 9223372036854775807) (.ar .or .u64 (.ar .shl .u64 (.var 4) (.lit 32)) (.ar .shr .u64 (.var 5) (.lit 32))))
 (.leaf (.int .i64 (.lit (-9223372036854775807))))
 (.leaf (.int .i64 (.pl .sub (.lit 0) (.ar .or .u64 (.ar .shl .u64 (.var 4) (.lit 32)) (.ar .shr .u64 (.var 5) (.lit 32)))))))
 (.node (.cmp .lss (.ar .or .u64 (.ar .shl .u64 (.var 4) (.lit 32)) (.ar .shr .u64 (.var 5) (.lit 32))) (.lit 9223372036854775808))
 (.node (.cmp .lss (.lit 9223372036854775807) (.pl .add (.ar .or .u64 (.ar .shl .u64 (.var 4) (.lit 32)) (.ar .shr .u64 (.var 5) (.lit 32))) (.lit 1)))
 (.leaf (.int .i64 (.lit (-9223372036854775807))))
 (.leaf (.int .i64 (.pl .sub (.lit 0) (.pl .add (.ar .or .u64 (.ar .shl .u64 (.var 4) (.lit 32)) (.ar .shr .u64 (.var 5) (.lit 32))) (.lit 1))))))
 (.leaf (.int .i64 (.lit (-9223372036854775807)))))))
 (.node (.cmp .lss (.var 1) (.lit 0))
 (.node (.cmp .eql (.ar .shl .u64 (.var 5) (.lit 32)) (.lit 0))
 (.node (.cmp .lss (.lit 9223372036854775807) (.ar .or .u64 (.ar .shl .u64 (.var 4) (.lit 32)) (.ar .shr .u64 (.var 5) (.lit 32))))
 (.leaf (.int .i64 (.lit (-9223372036854775807))))
 (.leaf (.int .i64 (.pl .sub (.lit 0) (.ar .or .u64 (.ar .shl .u64 (.var 4) (.lit 32)) (.ar .shr .u64 (.var 5) (.lit 32)))))))
 (.node (.cmp .lss (.ar .or .u64 (.ar .shl .u64 (.var 4) (.lit 32)) (.ar .shr .u64 (.var 5) (.lit 32))) (.lit 9223372036854775808))
 (.node (.cmp .lss (.lit 9223372036854775807) (.pl .add (.ar .or .u64 (.ar .shl .u64 (.var 4) (.lit 32)) (.ar .shr .u64 (.var 5) (.lit 32))) (.lit 1)))
 (.leaf (.int .i64 (.lit (-9223372036854775807))))
 (.leaf (.int .i64 (.pl .sub (.lit 0) (.pl .add (.ar .or .u64 (.ar .shl .u64 (.var 4) (.lit 32)) (.ar .shr .u64 (.var 5) (.lit 32))) (.lit 1))))))
 (.leaf (.int .i64 (.lit (-9223372036854775807))))))
 (.node (.cmp .lss (.lit 9223372036854775807) (.ar .or .u64 (.ar .shl .u64 (.var 4) (.lit 32)) (.ar .shr .u64 (.var 5) (.lit 32))))
 (.leaf (.int .i64 (.lit 9223372036854775807)))
 (.leaf (.int .i64 (.ar .or .u64 (.ar .shl .u64 (.var 4) (.lit 32)) (.ar .shr .u64 (.var 5) (.lit 32))))))))
 (.node (.cmp .lss (.var 0) (.lit 0))
 (.node (.cmp .lss (.var 1) (.lit 0))
 (.leaf (.int .i64 (.lit 9223372036854775807)))
 (.leaf (.int .i64 (.lit (-9223372036854775807)))))
 (.node (.cmp .lss (.var 1) (.lit 0))
 (.leaf (.int .i64 (.lit (-9223372036854775807))))
 (.leaf (.int .i64 (.lit 9223372036854775807))))))
abbrev rsR : List (Int × Int) := [i64R, i64R, (0, 9223372036854775808), (0, 9223372036854775808), (0, 4611686018427387904), u64Q]
abbrev rsK : List (FuncId × List SV × SV) := [(92, [.int .i64 (.var 0)], .int .u64 (.var 2)), (92, [.int .i64 (.var 1)], .int .u64 (.var 3)), (93, [.int .u64 (.var 2), .int .u64 (.var 3)], .tuple [.int .u64 (.var 4), .int .u64 (.var 5)])]
theorem rsT_val (a b P : Int) (ha : InI a) (hb : InI b) (hP : P = zSize a * zSize b) (hP0 : 0 ≤ P) (hP1 : P ≤ 9223372036854775808 * 9223372036854775808) : rsT.val (envOf [a, b, zSize a, zSize b, P / 18446744073709551616, P % 18446744073709551616] (ap := apN)) = .int .i64 (sat (a * b / 4294967296)) := by
  have hab : (a < 0 ∧ b < 0 ∧ a * b = P) ∨ (a < 0 ∧ ¬ b < 0 ∧ a * b = -P) ∨ (¬ a < 0 ∧ b < 0 ∧ a * b = -P) ∨ (¬ a < 0 ∧ ¬ b < 0 ∧ a * b = P) := by
    rw [hP]; unfold zSize
    by_cases h1 : a < 0 <;> by_cases h2 : b < 0 <;> simp [h1, h2, Int.neg_mul, Int.mul_neg]
  clear hP
  by_cases hh : P / 18446744073709551616 < 2147483648
  · have e1 : arI .shl .u64 (P / 18446744073709551616) 32 = P / 18446744073709551616 * 4294967296 := by rw [shl32]; omega
    have e2 : arI .shr .u64 (P % 18446744073709551616) 32 = P % 18446744073709551616 / 4294967296 := shr32 _
    have e3 : arI .or .u64 (arI .shl .u64 (P / 18446744073709551616) 32) (arI .shr .u64 (P % 18446744073709551616) 32) = P / 4294967296 := by
      rw [e1, e2, or32 (by omega) (by omega) (by omega)]; omega
    have e4 : arI .shl .u64 (P % 18446744073709551616) 32 = P * 4294967296 % 18446744073709551616 := by rw [shl32]; omega
    simp only [rsT, Tree.val, BE.den, cmpI, SV.den, IE.den, Bool.cond_decide, List.getD_cons_zero, List.getD_cons_succ, plI, e3, e4]
    rw [if_pos hh]
    unfold sat
    rcases hab with ⟨h1, h2, h3⟩ | ⟨h1, h2, h3⟩ | ⟨h1, h2, h3⟩ | ⟨h1, h2, h3⟩ <;> simp only [h1, h2, if_true, if_false, h3]
    · split <;> (congr 1; omega)
    · by_cases h4 : P * 4294967296 % 18446744073709551616 = 0
      · rw [beq_iff_eq.2 h4, cond_true]; split <;> (congr 1; omega)
      · rw [beq_false_of_ne h4, cond_false]; repeat' split
        all_goals (congr 1; omega)
    · by_cases h4 : P * 4294967296 % 18446744073709551616 = 0
      · rw [beq_iff_eq.2 h4, cond_true]; split <;> (congr 1; omega)
      · rw [beq_false_of_ne h4, cond_false]; repeat' split
        all_goals (congr 1; omega)
    · split <;> (congr 1; omega)
  · simp only [rsT, Tree.val, BE.den, cmpI, SV.den, IE.den, Bool.cond_decide, List.getD_cons_zero, List.getD_cons_succ]
    rw [if_neg hh]
    unfold sat
    rcases hab with ⟨h1, h2, h3⟩ | ⟨h1, h2, h3⟩ | ⟨h1, h2, h3⟩ | ⟨h1, h2, h3⟩ <;> simp only [h1, h2, if_true, if_false, h3] <;> (congr 1; omega)
theorem refmul_any (a b : Int) (ha : InI a) (hb : InI b) (w : World) : Calls Try.prog 62 #[.int .i64 a, .int .i64 b] w fun e w' => e = .returned (.int .i64 (apN 4 a b 0)) ∧ Below w.heap.size w w' := by
  have za := zSize_in ha
  have zb := zSize_in hb
  have hP0 : 0 ≤ zSize a * zSize b := Int.mul_nonneg za.1 zb.1
  have hP1 : zSize a * zSize b ≤ 9223372036854775808 * 9223372036854775808 := Int.mul_le_mul za.2 zb.2 zb.1 (by decide)
  refine law_any (bs := []) (fs := []) (is := [a, b, zSize a, zSize b, zSize a * zSize b / 18446744073709551616, zSize a * zSize b % 18446744073709551616]) (rg := rsR) (args := [.int .i64 (.var 0), .int .i64 (.var 1)]) ⟨ha, hb, za, zb, ⟨by show 0 ≤ zSize a * zSize b / 18446744073709551616; omega, by show zSize a * zSize b / 18446744073709551616 ≤ 4611686018427387904; omega⟩, ⟨by show 0 ≤ zSize a * zSize b % 18446744073709551616; omega, by show zSize a * zSize b % 18446744073709551616 ≤ 18446744073709551615; omega⟩, trivial⟩ (cr := rsK) (fun c hc => ?_) rsT (n := 400) (by kernel_rfl) (Tree.whole_live (by kernel_rfl)) (rsT_val a b _ ha hb rfl hP0 hP1) w
  simp only [rsK, List.mem_cons, List.not_mem_nil, or_false] at hc
  rcases hc with rfl | rfl | rfl
  · exact fun φ w _ => rsize_any a ha w
  · exact fun φ w _ => rsize_any b hb w
  · exact fun φ w _ => rmul_any (zSize a) (zSize b) ⟨za.1, by omega⟩ ⟨zb.1, by omega⟩ w
noncomputable abbrev mulCon2 : Con := con2 62 4
theorem mulCon2_ok {ρ : Env} (ha : NumA ρ) : mulCon2.holds Try.prog ρ := con2_ok ha (by decide) fun a b h k w => refmul_any a b h k w

/-! plainly -/
def sU : Nat → Int → Int × Int
  | 0, a => (a, 0)
  | k + 1, a => if a = 0 ∨ a = -1 then (a, -((k : Int) + 1)) else sU k (a / 2)
def sA (a m : Int) : Int × Int := if m < 0 then sU (-m).toNat a else (a, m)
def sD : Nat → Int → Int
  | 0, a => a
  | k + 1, a => if a = 0 then 0 else sD k (sat (a + a))
theorem sD_zero (a : Int) : sD 0 a = a := rfl
theorem sD_succ (k : Nat) (a : Int) : sD (k + 1) a = if a = 0 then 0 else sD k (sat (a + a)) := rfl
theorem mxI_max (a b : Int) : mxI a b = max a b := by unfold mxI; split <;> omega
theorem sU_fst : ∀ (k : Nat) (a : Int), (sU k a).1 = a / 2 ^ k
  | 0, a => by show a = a / 1; omega
  | k + 1, a => by
    unfold sU
    have hp : (0 : Int) < 2 ^ (k + 1) := Int.pow_pos (by decide)
    split
    · rename_i h
      rcases h with h | h
      · subst h; exact (Int.zero_ediv _).symm
      · subst h; exact (Int.neg_one_ediv _).symm ▸ (by rw [Int.sign_eq_one_of_pos hp])
    · rw [sU_fst k, Int.pow_succ', Int.ediv_ediv_of_nonneg (by decide)]
theorem sU_snd : ∀ (k : Nat) (a : Int), (sU k a).2 = 0 ∨ (-(k : Int) ≤ (sU k a).2 ∧ (sU k a).2 < 0 ∧ ((sU k a).1 = 0 ∨ (sU k a).1 = -1))
  | 0, a => .inl rfl
  | k + 1, a => by
    unfold sU
    split
    · rename_i h
      exact .inr ⟨by show -((k + 1 : Nat) : Int) ≤ -((k : Int) + 1); omega, by show -((k : Int) + 1) < 0; omega, h⟩
    · rcases sU_snd k (a / 2) with h | ⟨h1, h2, h3⟩
      · exact .inl h
      · exact .inr ⟨by omega, h2, h3⟩
theorem sat_sat_mul (x : Int) {p : Int} (hp : 1 ≤ p) : sat (sat x * p) = sat (x * p) := by
  by_cases h1 : x < -9223372036854775807
  · have e : sat x = -9223372036854775807 := by unfold sat; omega
    have k1 : -9223372036854775807 * p ≤ -9223372036854775807 := by omega
    have k2 : x * p ≤ -9223372036854775807 * p := Int.mul_le_mul_of_nonneg_right (by omega) (by omega)
    rw [e]; unfold sat; omega
  · by_cases h2 : 9223372036854775807 < x
    · have e : sat x = 9223372036854775807 := by unfold sat; omega
      have k1 : 9223372036854775807 ≤ 9223372036854775807 * p := by omega
      have k2 : 9223372036854775807 * p ≤ x * p := Int.mul_le_mul_of_nonneg_right (by omega) (by omega)
      rw [e]; unfold sat; omega
    · rw [sat_of (x := x) ⟨by omega, by omega⟩]
theorem sD_sat : ∀ (k : Nat) (a : Int), sat (sD k a) = sat (a * 2 ^ k)
  | 0, a => by unfold sD; rw [Int.pow_zero, Int.mul_one]
  | k + 1, a => by
    unfold sD
    split
    · rename_i h; rw [h, Int.zero_mul]
    · have hp : (1 : Int) ≤ 2 ^ k := Int.pow_pos (by decide)
      rw [sD_sat k, sat_sat_mul _ hp, Int.pow_succ', ← Int.mul_assoc, show a * 2 = a + a by omega]
theorem sD_in : ∀ (k : Nat) {a : Int}, InI a → InI (sD k a)
  | 0, a, h => h
  | k + 1, a, h => by
    unfold sD
    split
    · exact ⟨by decide, by decide⟩
    · have := sat_in (a + a); exact sD_in k ⟨by omega, by omega⟩
theorem sD_big (a : Int) {k : Nat} (hk : 64 ≤ k) : sat (a * 2 ^ k) = sat (a * 2 ^ 64) := by
  have hp : (2 : Int) ^ 64 ≤ 2 ^ k := by
    rw [show k = 64 + (k - 64) by omega, Int.pow_add]
    have : (1 : Int) ≤ 2 ^ (k - 64) := Int.pow_pos (by decide)
    have e : (2 : Int) ^ 64 = 18446744073709551616 := by decide
    rw [e]; omega
  have e : (2 : Int) ^ 64 = 18446744073709551616 := by decide
  rw [e] at hp ⊢
  generalize (2 : Int) ^ k = p at *
  rcases Int.lt_trichotomy a 0 with h | h | h
  · have k1 : a * p ≤ -1 * p := Int.mul_le_mul_of_nonneg_right (by omega) (by omega)
    unfold sat; omega
  · subst h; rw [Int.zero_mul, Int.zero_mul]
  · have k1 : 1 * p ≤ a * p := Int.mul_le_mul_of_nonneg_right (by omega) (by omega)
    unfold sat; omega
theorem sU_big {a : Int} (h : InI a) {k : Nat} (hk : 63 ≤ k) : a / 2 ^ k = a / 2 ^ 63 := by
  have h1 := h.1; have h2 := h.2
  have e : (2 : Int) ^ 63 = 9223372036854775808 := by decide
  have hp : (2 : Int) ^ 63 ≤ 2 ^ k := by
    rw [show k = 63 + (k - 63) by omega, Int.pow_add]
    have : (1 : Int) ≤ 2 ^ (k - 63) := Int.pow_pos (by decide)
    rw [e]; omega
  rw [e] at hp ⊢
  generalize (2 : Int) ^ k = p at *
  by_cases h0 : a < 0
  · have k1 : a / p = -1 := by
      refine Int.le_antisymm ?_ ?_
      · have := (Int.ediv_lt_iff_lt_mul (show (0 : Int) < p by omega) (a := a) (b := 0)).2 (by omega); omega
      · exact (Int.le_ediv_iff_mul_le (by omega)).2 (by omega)
    rw [k1]; omega
  · rw [Int.ediv_eq_zero_of_lt (by omega) (by omega)]; omega
abbrev sM (n : Int) : Int := mxI (-1000) (mnI n 1000)
abbrev sa1 (a n : Int) : Int := (sA a (sM n)).1
abbrev sn1 (a n : Int) : Int := (sA a (sM n)).2
abbrev sa2 (a n : Int) : Int := sD (sn1 a n).toNat (sa1 a n)
theorem sM_eq (n : Int) : sM n = max (-1000) (min n 1000) := by
  have mn : ∀ a b : Int, mnI a b = min a b := fun a b => by unfold mnI; split <;> omega
  unfold sM; rw [mxI_max, mn]
theorem div_in {a : Int} (h : InI a) (k : Nat) : InI (a / 2 ^ k) := by
  have hp : (1 : Int) ≤ 2 ^ k := Int.pow_pos (by decide)
  have h1 := h.1; have h2 := h.2
  generalize (2 : Int) ^ k = p at *
  refine ⟨(Int.le_ediv_iff_mul_le (by omega)).2 ?_, ?_⟩
  · omega
  · by_cases h0 : a < 0
    · have := (Int.ediv_lt_iff_lt_mul (show (0 : Int) < p by omega) (a := a) (b := 0)).2 (by omega); omega
    · have := Int.ediv_le_self p (show 0 ≤ a by omega); omega
theorem sA_in {a m : Int} (h : InI a) (hm : -1000 ≤ m ∧ m ≤ 1000) : InI (sA a m).1 ∧ -1000 ≤ (sA a m).2 ∧ (sA a m).2 ≤ 1000 := by
  unfold sA
  split
  · refine ⟨by rw [sU_fst]; exact div_in h _, ?_⟩
    rcases sU_snd (-m).toNat a with h1 | ⟨h1, h2, _⟩ <;> omega
  · exact ⟨h, hm⟩
theorem shift_plain {a n : Int} (h : InI a) (hn : InI n) : (if sn1 a n < 0 then sa1 a n else mxI (sa2 a n) (-9223372036854775807)) = apN 3 a n 0 := by
  have h1 := h.1; have h2 := h.2
  rw [mxI_max]
  show _ = sat (if n ≤ 0 then a / 2 ^ (min 63 (-n).toNat) else a * 2 ^ (min n.toNat 64))
  have hd := div_in h
  by_cases n0 : n < 0
  · have e0 : sA a (sM n) = sU (-sM n).toNat a := by unfold sA; rw [sM_eq, if_pos (by omega)]
    have eq : a / 2 ^ (-sM n).toNat = a / 2 ^ (min 63 (-n).toNat) := by
      by_cases h63 : n ≤ -63
      · rw [show min 63 (-n).toNat = 63 by omega]; exact sU_big h (by rw [sM_eq]; omega)
      · rw [sM_eq, show (-(max (-1000) (min n 1000))).toNat = min 63 (-n).toNat by omega]
    have f1 : sa1 a n = a / 2 ^ (min 63 (-n).toNat) := by unfold sa1; rw [e0, sU_fst, eq]
    rw [if_pos (show n ≤ 0 by omega), ← f1]
    rcases sU_snd (-sM n).toNat a with g | ⟨g1, g2, g3⟩
    · have f2 : sn1 a n = 0 := by unfold sn1; rw [e0]; exact g
      rw [if_neg (by omega)]
      unfold sa2
      rw [f2]
      have := f1 ▸ hd (min 63 (-n).toNat)
      have k1 := this.1; have k2 := this.2
      show max (sa1 a n) _ = _
      unfold sat; omega
    · have f2 : sn1 a n < 0 := by unfold sn1; rw [e0]; exact g2
      have f3 : sa1 a n = 0 ∨ sa1 a n = -1 := by unfold sa1; rw [e0]; exact g3
      rw [if_pos f2]
      unfold sat; omega
  · have e0 : sA a (sM n) = (a, sM n) := by unfold sA; rw [sM_eq, if_neg (by omega)]
    have f1 : sa1 a n = a := by unfold sa1; rw [e0]
    have f2 : sn1 a n = max (-1000) (min n 1000) := by unfold sn1; rw [e0, sM_eq]
    rw [if_neg (by omega)]
    have key : max (sa2 a n) (-9223372036854775807) = sat (sa2 a n) := by
      have := sD_in (sn1 a n).toNat (f1.symm ▸ h : InI (sa1 a n))
      have k1 := this.1; have k2 := this.2
      unfold sat; show max (sD _ _) _ = max _ (min (sD _ _) _); omega
    rw [key]
    unfold sa2
    rw [sD_sat, f1, f2]
    by_cases hz : n = 0
    · subst hz
      rw [if_pos (Int.le_refl 0)]
      show sat (a * 2 ^ 0) = sat (a / 2 ^ 0)
      rw [Int.pow_zero, Int.mul_one, Int.ediv_one]
    · rw [if_neg (by omega)]
      by_cases h64 : 64 ≤ n
      · rw [show min n.toNat 64 = 64 by omega]; exact sD_big a (by omega)
      · rw [show min n.toNat 64 = n.toNat by omega, show (max (-1000) (min n 1000)).toNat = n.toNat by omega]

/-! the loops -/
def raL : LoopSum := ⟨[(.int .i64 (.var 0)), (.int .i64 (.mx (.lit (-1000)) (.mn (.var 1) (.lit 1000)))), U02, U02, (.int .i64 (.lit 0)), (.int .i64 (.var 1)), (.int .i64 (.mn (.var 1) (.lit 1000))), (.int .i64 (.mx (.lit (-1000)) (.mn (.var 1) (.lit 1000)))), U02, U02, U02, U02, U02, U02, U02, U02, U02, U02, U02, U02, U02, U02, U02, U02, U02, U02, U02, U02, U02, U02, U02, U02, U02, U02, U02, U02, U02, U02], [],
  (.exit 0), [(.int .i64 (.var 2)), (.int .i64 (.var 3)), U02, U02, (.int .i64 (.lit 0)), (.int .i64 (.var 1)), (.int .i64 (.mn (.var 1) (.lit 1000))), (.int .i64 (.mx (.lit (-1000)) (.mn (.var 1) (.lit 1000)))), .any, .any, .any, .any, .any, .any, .any, .any, .any, .any, .any, .any, .any, .any, U02, U02, U02, U02, U02, U02, U02, U02, U02, U02, U02, U02, U02, U02, U02, U02], []⟩
def raH : St := ⟨Tm.ofL [(.int .i64 (.var 5)), (.int .i64 (.var 6)), U02, U02, (.int .i64 (.lit 0)), (.int .i64 (.var 1)), (.int .i64 (.mn (.var 1) (.lit 1000))), (.int .i64 (.mx (.lit (-1000)) (.mn (.var 1) (.lit 1000)))), .any, .any, .any, .any, .any, .any, .any, .any, .any, .any, .any, .any, .any, .any, U02, U02, U02, U02, U02, U02, U02, U02, U02, U02, U02, U02, U02, U02, U02, U02], []⟩
def raE : List IE := [(.var 0), (.var 1), (.var 2), (.var 3), (.var 4), (.var 0), (.mx (.lit (-1000)) (.mn (.var 1) (.lit 1000)))]
def raB : List BE := []
def raT : RT :=
(.node (.cmp .lss (.var 6) (.lit 0))
 (.node (.cmp .eql (.var 5) (.lit 0))
 (.stop [(.var 0), (.var 1), (.var 5), (.var 6), (.var 4)] [])
 (.node (.cmp .eql (.var 5) (.lit (-1)))
 (.stop [(.var 0), (.var 1), (.var 5), (.var 6), (.var 4)] [])
 (.go [(.var 0), (.var 1), (.var 2), (.var 3), (.var 4), (.ar .shr .i64 (.var 5) (.lit 1)), (.pl .add (.var 6) (.lit 1))] [])))
 (.stop [(.var 0), (.var 1), (.var 5), (.var 6), (.var 4)] []))
def rbL : LoopSum := ⟨[(.int .i64 (.var 2)), (.int .i64 (.var 3)), U02, U02, (.int .i64 (.lit 0)), (.int .i64 (.var 1)), (.int .i64 (.mn (.var 1) (.lit 1000))), (.int .i64 (.mx (.lit (-1000)) (.mn (.var 1) (.lit 1000)))), .any, .any, .any, .any, .any, .any, .any, .any, .any, .any, .any, .any, .any, .any, (.int .i64 (.var 3)), (.bool (.cmp .lss (.var 3) (.lit 0))), U02, U02, U02, U02, U02, U02, U02, U02, U02, U02, U02, U02, U02, U02], [],
  (.exit 2), [(.int .i64 (.var 4)), .any, U02, U02, (.int .i64 (.lit 0)), (.int .i64 (.var 1)), (.int .i64 (.mn (.var 1) (.lit 1000))), (.int .i64 (.mx (.lit (-1000)) (.mn (.var 1) (.lit 1000)))), .any, .any, .any, .any, .any, .any, .any, .any, .any, .any, .any, .any, .any, .any, (.int .i64 (.var 3)), (.bool (.cmp .lss (.var 3) (.lit 0))), U02, .any, .any, .any, .any, .any, .any, .any, .any, .any, .any, .any, U02, U02], []⟩
def rbH : St := ⟨Tm.ofL [(.int .i64 (.var 5)), (.int .i64 (.var 6)), U02, U02, (.int .i64 (.lit 0)), (.int .i64 (.var 1)), (.int .i64 (.mn (.var 1) (.lit 1000))), (.int .i64 (.mx (.lit (-1000)) (.mn (.var 1) (.lit 1000)))), .any, .any, .any, .any, .any, .any, .any, .any, .any, .any, .any, .any, .any, .any, (.int .i64 (.var 3)), (.bool (.cmp .lss (.var 3) (.lit 0))), U02, .any, .any, .any, .any, .any, .any, .any, .any, .any, .any, .any, U02, U02], []⟩
def rbE : List IE := [(.var 0), (.var 1), (.var 2), (.var 3), (.var 4), (.var 2), (.var 3)]
def rbB : List BE := []
def rbT : RT :=
(.node (.cmp .lss (.lit 0) (.var 6))
 (.node (.cmp .eql (.var 5) (.lit 0))
 (.stop [(.var 0), (.var 1), (.var 2), (.var 3), (.var 5)] [])
 (.go [(.var 0), (.var 1), (.var 2), (.var 3), (.var 4), (.ap 1 (.var 5) (.var 5) (.lit 0)), (.pl .sub (.var 6) (.lit 1))] []))
 (.stop [(.var 0), (.var 1), (.var 2), (.var 3), (.var 5)] []))
abbrev raP : List Nat := [0, 0, 1, 1]
abbrev rbP : List Nat := [0, 0, 1, 1, 1, 1]
abbrev shR : List (Int × Int) := [i64R, i64R, i64R, (-1000, 1000), i64R]
abbrev shRx : List (Int × Int) := shR ++ [i64R, (-1000, 1000)]
noncomputable abbrev raX : Ctx := { pc := [], cr := [] ++ crS, rg := shRx, ar := arN, ct := conCt shRx arN consN }
theorem ra_lpB : lpB Try.prog raX 400 68 raP 1 raL raH raT raE raB = true := by kernel_rfl
theorem rb_lpB : lpB Try.prog raX 400 68 rbP 3 rbL rbH rbT rbE rbB = true := by kernel_rfl
abbrev shSt (a n x m : Int) : List Int := [a, n, sa1 a n, sn1 a n, sa2 a n, x, m]
theorem sM_in (n : Int) : -1000 ≤ sM n ∧ sM n ≤ 1000 := by rw [sM_eq]; omega
theorem sh_rg {ρ : Env} {a n : Int} (ha : InI a) (hn : InI n) {x m : Int} (hx : InI x) (hm : -1000 ≤ m ∧ m ≤ 1000) (bs : List Bool) : AllIn (ρ.on (shSt a n x m) bs).i shRx 0 := by
  have k := sA_in ha (sM_in n)
  exact ⟨ha, hn, k.1, k.2, sD_in _ k.1, hx, hm, trivial⟩
theorem sh_rg0 {a n : Int} (ha : InI a) (hn : InI n) : AllIn (envOf [a, n, sa1 a n, sn1 a n, sa2 a n] (ap := apN)).i shR 0 := by
  have k := sA_in ha (sM_in n)
  exact ⟨ha, hn, k.1, k.2, sD_in _ k.1, trivial⟩
theorem shr1i (x : Int) : arI .shr .i64 x 1 = x / 2 := by
  show x.fdiv (2 ^ (min (1 : Int).toNat 64)) = _
  rw [Int.fdiv_eq_ediv_of_nonneg _ (by decide)]; rfl
theorem sA_step {x m : Int} (hm : m < 0) (h0 : ¬ x = 0) (h1 : ¬ x = -1) : sA x m = sA (x / 2) (m + 1) := by
  unfold sA
  rw [if_pos hm]
  rw [show (-m).toNat = (-(m + 1)).toNat + 1 by omega]
  show (if x = 0 ∨ x = -1 then _ else sU _ (x / 2)) = _
  rw [if_neg (by omega)]
  split
  · rfl
  · rw [show (-(m + 1)).toNat = 0 by omega, show m + 1 = 0 by omega]; rfl
theorem sA_stop {x m : Int} (h : m < 0 → x = 0 ∨ x = -1) : sA x m = (x, m) := by
  unfold sA
  split
  · rename_i hm
    rw [show (-m).toNat = (-(m + 1)).toNat + 1 by omega]
    show (if x = 0 ∨ x = -1 then _ else _) = _
    rw [if_pos (h hm), show -(((-(m + 1)).toNat : Int) + 1) = m by omega]
  · rfl
theorem ra_loop {a n : Int} (ha : InI a) (hn : InI n) {E : List (Nat × Nat)} {cd : Code} (hc : codeAt Try.prog 68 raP = .loop cd) : LoopGoes Try.prog (envOf [a, n, sa1 a n, sn1 a n, sa2 a n] (ap := apN)) E raL cd := by
  generalize hρ : envOf [a, n, sa1 a n, sn1 a n, sa2 a n] (ap := apN) = ρ
  have hap : ρ.a = apN := by rw [← hρ]
  refine rt_lpx ra_lpB hc (fun k is bs => ∃ x m : Int, InI x ∧ (-1000 ≤ m ∧ m ≤ 1000) ∧ k = (-m).toNat ∧ bs = [] ∧ is = shSt a n x m ∧ sA x m = (sa1 a n, sn1 a n)) ?_ ?_ ⟨_, shSt a n a (sM n), [], ⟨a, sM n, ha, sM_in n, rfl, rfl, rfl, rfl⟩, ?_, ⟨_, rfl⟩⟩ ?_
  · rintro k is bs ⟨x, m, hx, hm, _, rfl, rfl, _⟩
    exact knows_env rfl (sh_rg ha hn hx hm _) (by rw [show (ρ.on (shSt a n x m) []).a = apN from hap]; exact arN_ok)
  · rintro k is bs ⟨x, m, hx, hm, _, rfl, rfl, _⟩ E
    exact knowsC_all (AllIn.get0 (sh_rg (ρ := ρ) ha hn hx hm _)) (numA_N hap) (arIn_N hap) (fun c0 hc0 => by cases hc0) LpOk.none
  · rw [← hρ]
    exact ⟨[], rfl⟩
  · rintro k is bs ⟨x, m, hx, hm, rfl, rfl, rfl, hs⟩
    have hstop : ∀ (h : m < 0 → x = 0 ∨ x = -1), x = sa1 a n ∧ m = sn1 a n := fun h => by
      rw [sA_stop h] at hs; exact ⟨(Prod.mk.injEq .. ▸ hs).1, (Prod.mk.injEq .. ▸ hs).2⟩
    by_cases h0 : m < 0
    · by_cases h1 : x = 0
      · obtain ⟨q1, q2⟩ := hstop fun _ => .inl h1
        refine .inr ⟨[a, n, sa1 a n, sn1 a n, sa2 a n], [], ?_, by rw [← hρ]; exact envOf_has _ _ _ _ _ _⟩
        simp only [raT, RT.out, BE.den, cmpI, IE.den, Env.on, shSt, List.getD_cons_zero, List.getD_cons_succ, dens, bdens, List.map_cons, List.map_nil, decide_eq_true h0, cond_true, beq_iff_eq.2 h1, ← q1, ← q2]
      · by_cases h2 : x = -1
        · obtain ⟨q1, q2⟩ := hstop fun _ => .inr h2
          refine .inr ⟨[a, n, sa1 a n, sn1 a n, sa2 a n], [], ?_, by rw [← hρ]; exact envOf_has _ _ _ _ _ _⟩
          simp only [raT, RT.out, BE.den, cmpI, IE.den, Env.on, shSt, List.getD_cons_zero, List.getD_cons_succ, dens, bdens, List.map_cons, List.map_nil, decide_eq_true h0, cond_true, cond_false, beq_false_of_ne h1, beq_iff_eq.2 h2, ← q1, ← q2]
        · have hx' : InI (x / 2) := by have k1 := hx.1; have k2 := hx.2; exact ⟨by omega, by omega⟩
          refine .inl ⟨[a, n, sa1 a n, sn1 a n, sa2 a n, x / 2, m + 1], [], (-(m + 1)).toNat, shSt a n (x / 2) (m + 1), [], ?_, by omega, ⟨x / 2, m + 1, hx', by omega, rfl, rfl, rfl, by rw [← sA_step h0 h1 h2]; exact hs⟩, ⟨[], rfl⟩, ⟨_, List.nil_append _⟩⟩
          simp only [raT, RT.next, BE.den, cmpI, IE.den, Env.on, shSt, List.getD_cons_zero, List.getD_cons_succ, dens, bdens, List.map_cons, List.map_nil, decide_eq_true h0, cond_true, cond_false, beq_false_of_ne h1, beq_false_of_ne h2, shr1i, plI]
    · obtain ⟨q1, q2⟩ := hstop fun h => absurd h h0
      refine .inr ⟨[a, n, sa1 a n, sn1 a n, sa2 a n], [], ?_, by rw [← hρ]; exact envOf_has _ _ _ _ _ _⟩
      simp only [raT, RT.out, BE.den, cmpI, IE.den, Env.on, shSt, List.getD_cons_zero, List.getD_cons_succ, dens, bdens, List.map_cons, List.map_nil, decide_eq_false h0, cond_false, ← q1, ← q2]
theorem rb_loop {a n : Int} (ha : InI a) (hn : InI n) {E : List (Nat × Nat)} {cd : Code} (hc : codeAt Try.prog 68 rbP = .loop cd) : LoopGoes Try.prog (envOf [a, n, sa1 a n, sn1 a n, sa2 a n] (ap := apN)) E rbL cd := by
  generalize hρ : envOf [a, n, sa1 a n, sn1 a n, sa2 a n] (ap := apN) = ρ
  have hap : ρ.a = apN := by rw [← hρ]
  have k := sA_in ha (sM_in n)
  refine rt_lpx rb_lpB hc (fun k is bs => ∃ x m : Int, InI x ∧ (-1000 ≤ m ∧ m ≤ 1000) ∧ k = m.toNat ∧ bs = [] ∧ is = shSt a n x m ∧ sD m.toNat x = sa2 a n) ?_ ?_ ⟨_, shSt a n (sa1 a n) (sn1 a n), [], ⟨sa1 a n, sn1 a n, k.1, k.2, rfl, rfl, rfl, rfl⟩, ?_, ⟨_, rfl⟩⟩ ?_
  · rintro k is bs ⟨x, m, hx, hm, _, rfl, rfl, _⟩
    exact knows_env rfl (sh_rg ha hn hx hm _) (by rw [show (ρ.on (shSt a n x m) []).a = apN from hap]; exact arN_ok)
  · rintro k is bs ⟨x, m, hx, hm, _, rfl, rfl, _⟩ E
    exact knowsC_all (AllIn.get0 (sh_rg (ρ := ρ) ha hn hx hm _)) (numA_N hap) (arIn_N hap) (fun c0 hc0 => by cases hc0) LpOk.none
  · rw [← hρ]
    exact ⟨[], rfl⟩
  · rintro k is bs ⟨x, m, hx, hm, rfl, rfl, rfl, hs⟩
    by_cases h0 : 0 < m
    · rw [show m.toNat = (m - 1).toNat + 1 by omega, sD_succ] at hs
      by_cases h1 : x = 0
      · rw [if_pos h1] at hs
        refine .inr ⟨[a, n, sa1 a n, sn1 a n, sa2 a n], [], ?_, by rw [← hρ]; exact envOf_has _ _ _ _ _ _⟩
        simp only [rbT, RT.out, BE.den, cmpI, IE.den, Env.on, shSt, List.getD_cons_zero, List.getD_cons_succ, dens, bdens, List.map_cons, List.map_nil, decide_eq_true h0, cond_true, beq_iff_eq.2 h1]
        rw [h1, hs]
      · rw [if_neg h1] at hs
        have hx' : InI (sat (x + x)) := by have := sat_in (x + x); exact ⟨by omega, by omega⟩
        refine .inl ⟨[a, n, sa1 a n, sn1 a n, sa2 a n, sat (x + x), m - 1], [], (m - 1).toNat, shSt a n (sat (x + x)) (m - 1), [], ?_, by omega, ⟨sat (x + x), m - 1, hx', by omega, rfl, rfl, rfl, hs⟩, ⟨[], rfl⟩, ⟨_, List.nil_append _⟩⟩
        have e1 : ρ.a 1 x x 0 = sat (x + x) := by rw [hap]; rfl
        simp only [rbT, RT.next, BE.den, cmpI, IE.den, Env.on, shSt, List.getD_cons_zero, List.getD_cons_succ, dens, bdens, List.map_cons, List.map_nil, decide_eq_true h0, cond_true, cond_false, beq_false_of_ne h1, plI, e1]
    · rw [show m.toNat = 0 by omega, sD_zero] at hs
      refine .inr ⟨[a, n, sa1 a n, sn1 a n, sa2 a n], [], ?_, by rw [← hρ]; exact envOf_has _ _ _ _ _ _⟩
      simp only [rbT, RT.out, BE.den, cmpI, IE.den, Env.on, shSt, List.getD_cons_zero, List.getD_cons_succ, dens, bdens, List.map_cons, List.map_nil, decide_eq_false h0, cond_false]
      rw [hs]
abbrev shLp : FuncId → List Nat → Nat → Option LoopSum := fun f p _ => if Nat.beq f 68 && decide (p = raP) then some raL else if Nat.beq f 68 && decide (p = rbP) then some rbL else none
theorem refshift_any (a n : Int) (ha : InI a) (hn : InI n) (w : World) : Calls Try.prog 68 #[.int .i64 a, .int .i64 n] w fun e w' => e = .returned (.int .i64 (apN 3 a n 0)) ∧ Below w.heap.size w w' := by
  refine law_all (ρ := envOf [a, n, sa1 a n, sn1 a n, sa2 a n] (ap := apN)) (rg := shR) (ar := arN) (f := 68) (args := [.int .i64 (.var 0), .int .i64 (.var 1)]) (sh_rg0 ha hn) (numA_N rfl) (arIn_N rfl) (cr := []) (fun c hc => by cases hc) (lp := shLp) ?_ (xs := []) (fun _ _ h => by cases h) (.node (.cmp .lss (.var 3) (.lit 0)) (.leaf (.int .i64 (.var 2))) (.leaf (.int .i64 (.mx (.var 4) (.lit (-9223372036854775807)))))) (n := 400) (by kernel_rfl) (Tree.whole_live (by kernel_rfl)) ?_ w (ExtIn.none fun _ => rfl)
  · intro f p u L hL cd hcd _
    dsimp only [shLp] at hL
    split at hL
    · rename_i hfp
      simp only [Bool.and_eq_true, Nat.beq_eq, decide_eq_true_eq] at hfp
      obtain ⟨rfl, rfl⟩ := hfp
      cases hL
      exact ra_loop ha hn hcd
    · split at hL
      · rename_i hfp
        simp only [Bool.and_eq_true, Nat.beq_eq, decide_eq_true_eq] at hfp
        obtain ⟨rfl, rfl⟩ := hfp
        cases hL
        exact rb_loop ha hn hcd
      · cases hL
  · rw [← shift_plain ha hn]
    simp only [Tree.val, BE.den, cmpI, SV.den, IE.den, Bool.cond_decide, List.getD_cons_zero, List.getD_cons_succ]
    split <;> rfl
noncomputable abbrev shiftCon2 : Con := con2 68 3
theorem shiftCon2_ok {ρ : Env} (ha : NumA ρ) : shiftCon2.holds Try.prog ρ := con2_ok ha (by decide) fun a b h k w => refshift_any a b h k w
noncomputable abbrev mulCon2s : Con := ⟨62, [.i64, .i64], fun es => match es with | [a, b] => .int .i64 (mkAp 4 b a (.lit 0)) | _ => .any⟩
theorem mulCon2s_ok {ρ : Env} (ha : NumA ρ) : mulCon2s.holds Try.prog ρ := by
  intro es hi φ w
  match es, hi with
  | [e, d], hi =>
    obtain ⟨h0, h1, _⟩ := hi
    refine (refmul_any (e.den ρ) (d.den ρ) h0 h1 w).mono ?_
    rintro e' w' ⟨rfl, hb⟩
    refine ⟨?_, hb⟩
    refine congrArg (fun z => Ending.returned (.int .i64 z)) (Eq.trans ?_ (mkAp_den (f := 4) ha (by decide) d e (.lit 0)).symm)
    show sat (e.den ρ * d.den ρ / 4294967296) = sat (d.den ρ * e.den ρ / 4294967296)
    rw [Int.mul_comm]
  | [], hi => exact hi.elim
  | [_], hi => exact hi.2.elim
  | _ :: _ :: _ :: _, hi => exact hi.2.2.elim
noncomputable abbrev consM : List Con := mulCon2 :: shiftCon2 :: consN
noncomputable abbrev consS : List Con := mulCon2s :: shiftCon2 :: consN
theorem consM_ok {ρ : Env} (ha : NumA ρ) : ∀ c ∈ consM, c.holds Try.prog ρ :=
  List.forall_mem_cons.2 ⟨mulCon2_ok ha, List.forall_mem_cons.2 ⟨shiftCon2_ok ha, consN_ok ha⟩⟩
theorem consS_ok {ρ : Env} (ha : NumA ρ) : ∀ c ∈ consS, c.holds Try.prog ρ :=
  List.forall_mem_cons.2 ⟨mulCon2s_ok ha, List.forall_mem_cons.2 ⟨shiftCon2_ok ha, consN_ok ha⟩⟩
/-- a law by its tree, path by path, with any contracts -/
theorem law_con {ρ : Env} {rg ar : List (Int × Int)} (hin : AllIn ρ.i rg 0) (har : ArIn ρ ar) {cs : List Con} (hcs : ∀ c ∈ cs, c.holds Try.prog ρ) {cr : List (FuncId × List SV × SV)} (hcr : ∀ c ∈ cr, Known Try.prog ρ c) {lp : FuncId → List Nat → Nat → Option LoopSum} (hlp : LpOk ρ [] lp) {xs : List XD} (hxs : ∀ (j : Nat) d, xs[j]? = some d → XOk ρ d (ρ.x j)) {nm : List (IE × IE)} (hnm : ∀ p ∈ nm, p.1.den ρ = p.2.den ρ) {nz : Bool}
    (T : Tree) {n : Nat} {f : FuncId} {args : List SV} (hT : T.Ok Try.prog { pc := [], cr := cr ++ crS, rg := rg, ar := ar, ct := conCt rg ar cs, lp := lp, xs := xs, nm := nm, nz := nz } n f args) (hg : good ρ T = true) (w : World) (hx : ExtIn ρ w) :
    Calls Try.prog f (SV.denL ρ id args).toArray w fun e w' => e = .returned (.bool true) ∧ Below w.heap.size w w' := by
  obtain ⟨hl, hv⟩ := good_ok hg
  have h := tree_soundX (P := Try.prog) mixed (ρ := ρ) T (X := { pc := [], cr := cr ++ crS, rg := rg, ar := ar, ct := conCt rg ar cs, lp := lp, xs := xs, nm := nm, nz := nz }) (knows_env rfl hin har hxs hnm)
    ⟨fun c hc φ w hx => (by rcases List.mem_append.1 hc with hc | hc; exact hcr c hc φ w hx; exact crS_ok c hc φ w hx), fun pc hpc f vs v h _ φ w _ => conCt_ok hin.get0 har hcs hpc h φ w, hlp⟩ hT hl w hx
  rw [hv] at h
  exact h
end Go.Proofs.Ytopgidgkpafeeaa
