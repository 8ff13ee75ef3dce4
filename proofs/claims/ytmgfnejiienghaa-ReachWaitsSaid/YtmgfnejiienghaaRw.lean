/- The law ReachWaits, path by path. -/
import Derived.Test.YtmgfnejiienghaaRh
namespace Go.Proofs.Ytmgfnejiienghaa
open Go Go.RowKit Ev
set_option linter.unusedVariables false
set_option maxRecDepth 100000

abbrev rwN : IE := .mn (.pl .add (.lit 6) (.ar .rem .i64 (.var 0) (.lit 5))) (.pl .add (.lit 6) (.ar .rem .i64 (.var 1) (.lit 5)))
abbrev rwW : IE := .ar .sub .i64 (.ap 1 (.ap 1 (.var 3) (.ap 3 (.lit 4294967296) rwN (.lit 0)) (.lit 0)) (.ap 3 (.var 4) (.pl .sub (.mx rwN (.lit (-1099511627776))) (.lit 4)) (.lit 0)) (.lit 0)) (.var 3)
def rwT : Tree :=
 (.node (.cmp .lss (.lit 0) (.ar .rem .i64 (.var 2) (.lit 9)))
 (.node (.cmp .eql (.ar .sub .i64 (.ap 1 (.var 3) (.lit 8589934592) (.lit 0)) (.var 3)) (.lit 8589934592))
 (.leaf (.bool (.cmp .eql (.pl .sub (.ar .rem .i64 (.var 2) (.lit 9)) (.lit 1)) (.pl .sub (.ar .rem .i64 (.var 2) (.lit 9)) (.lit 1)))))
 (.leaf (.bool (.lit false))))
 (.node (.cmp .lss rwW (.var 5))
 (.leaf (.bool (.lit false)))
 (.node (.cmp .lss rwW (.pl .add (.var 5) (.var 6)))
 (.leaf (.bool (.lit true)))
 (.leaf (.bool (.lit false))))))
abbrev rwR : List (Int × Int) := [(0, 255), (0, 255), (0, 255), (0, 4294967295), (0, 4294967295), (274877906944, 4398046511104), (17179869184, 274877906944)]
def rwX : Ctx := { pc := [], cr := (36, [], .bool (.lit true)) :: (37, [], stdS) :: (42, [.int .i64 rwN], .int .i64 (.var 5)) :: (42, [.int .i64 (.pl .sub rwN (.lit 4))], .int .i64 (.var 6)) :: crS, rg := rwR, ar := arN, ct := conCt rwR arN consN }
theorem rwT_ok : rwT.check Try.prog rwX 600 15 [.int .u8 (.var 0), .int .u8 (.var 1), .int .u8 (.var 2), .int .u32 (.var 3), .int .u32 (.var 4)] = true := by kernel_rfl
/-- the lesser poll exponent -/
def rwP (a b : Int) : Int := mnI (6 + a % 5) (6 + b % 5)
theorem rwP_in (a b : Int) : 6 ≤ rwP a b ∧ rwP a b ≤ 10 := by unfold rwP mnI; split <;> omega
theorem two_in {p : Int} (h : 6 ≤ p ∧ p ≤ 10) : 274877906944 ≤ 4294967296 * (2 : Int) ^ p.toNat ∧ 4294967296 * (2 : Int) ^ p.toNat ≤ 4398046511104 ∧ 17179869184 ≤ 4294967296 * (2 : Int) ^ (p - 4).toNat ∧ 4294967296 * (2 : Int) ^ (p - 4).toNat ≤ 274877906944 := by
  have : p = 6 ∨ p = 7 ∨ p = 8 ∨ p = 9 ∨ p = 10 := by omega
  rcases this with rfl | rfl | rfl | rfl | rfl <;> decide
theorem rw_plain (p d n : Int) (h : 6 ≤ p ∧ p ≤ 10) (d0 : 0 ≤ d) (d1 : d ≤ 4294967295) (n0 : 0 ≤ n) (n1 : n ≤ 4294967295) :
    4294967296 * (2 : Int) ^ p.toNat ≤ arI .sub .i64 (apN 1 (apN 1 n (apN 3 4294967296 p 0) 0) (apN 3 d (mxI p (-1099511627776) - 4) 0) 0) n ∧
    arI .sub .i64 (apN 1 (apN 1 n (apN 3 4294967296 p 0) 0) (apN 3 d (mxI p (-1099511627776) - 4) 0) 0) n < 4294967296 * (2 : Int) ^ p.toNat + 4294967296 * (2 : Int) ^ (p - 4).toNat := by
  have e1 : apN 3 4294967296 p 0 = 4294967296 * 2 ^ p.toNat := by
    have ht := (two_in h)
    simp only [apN]
    rw [if_neg (by omega), show min p.toNat 64 = p.toNat by omega, sat_of (by omega)]
  have e2 : mxI p (-1099511627776) = p := by unfold mxI; split <;> omega
  have hq : 0 ≤ d * (2 : Int) ^ (p - 4).toNat ∧ d * (2 : Int) ^ (p - 4).toNat < 4294967296 * (2 : Int) ^ (p - 4).toNat := by
    have hp : (0 : Int) < 2 ^ (p - 4).toNat := Int.pow_pos (by decide)
    exact ⟨Int.mul_nonneg d0 (by omega), Int.mul_lt_mul_of_pos_right (by omega) hp⟩
  have ht := (two_in h)
  have e3 : apN 3 d (p - 4) 0 = d * 2 ^ (p - 4).toNat := by
    simp only [apN]
    rw [if_neg (by omega), show min (p - 4).toNat 64 = (p - 4).toNat by omega, sat_of (by omega)]
  rw [e1, e2, e3]
  show _ ≤ IntKind.i64.wrap (sat (sat (n + _) + _) - n) ∧ IntKind.i64.wrap (sat (sat (n + _) + _) - n) < _
  generalize 4294967296 * (2 : Int) ^ p.toNat = x at ht ⊢
  generalize 4294967296 * (2 : Int) ^ (p - 4).toNat = y at ht hq ⊢
  generalize d * (2 : Int) ^ (p - 4).toNat = z at hq ⊢
  rw [IntKind.wrap_i64]
  unfold sat
  omega
theorem rwT_val (a b c d e : Int) (a0 : 0 ≤ a) (a1 : a ≤ 255) (b0 : 0 ≤ b) (b1 : b ≤ 255) (c0 : 0 ≤ c) (c1 : c ≤ 255) (d0 : 0 ≤ d) (d1 : d ≤ 4294967295) (e0 : 0 ≤ e) (e1 : e ≤ 4294967295) :
    rwT.val (envOf [a, b, c, d, e, 4294967296 * 2 ^ (rwP a b).toNat, 4294967296 * 2 ^ (rwP a b - 4).toNat] (ap := apN)) = .bool true := by
  have ra : a.tmod 5 = a % 5 := Int.tmod_eq_emod_of_nonneg a0
  have rb : b.tmod 5 = b % 5 := Int.tmod_eq_emod_of_nonneg b0
  have hN : rwN.den (envOf [a, b, c, d, e, 4294967296 * 2 ^ (rwP a b).toNat, 4294967296 * 2 ^ (rwP a b - 4).toNat] (ap := apN)) = rwP a b := by
    show mnI (6 + a.tmod 5) (6 + b.tmod 5) = _
    rw [ra, rb]; rfl
  have hW := rw_plain (rwP a b) e d (rwP_in a b) e0 e1 d0 d1
  rw [← hN] at hW
  have c1 : (BE.cmp .lss rwW (.var 5)).den (envOf [a, b, c, d, e, 4294967296 * 2 ^ (rwP a b).toNat, 4294967296 * 2 ^ (rwP a b - 4).toNat] (ap := apN)) = false := by
    refine decide_eq_false ?_
    rw [hN] at hW
    show ¬ arI .sub .i64 (apN 1 (apN 1 d (apN 3 4294967296 (rwN.den _) 0) 0) (apN 3 e (mxI (rwN.den _) (-1099511627776) - 4) 0) 0) d < 4294967296 * 2 ^ (rwP a b).toNat
    rw [hN]; omega
  have c2 : (BE.cmp .lss rwW (.pl .add (.var 5) (.var 6))).den (envOf [a, b, c, d, e, 4294967296 * 2 ^ (rwP a b).toNat, 4294967296 * 2 ^ (rwP a b - 4).toNat] (ap := apN)) = true := by
    refine decide_eq_true ?_
    rw [hN] at hW
    show arI .sub .i64 (apN 1 (apN 1 d (apN 3 4294967296 (rwN.den _) 0) 0) (apN 3 e (mxI (rwN.den _) (-1099511627776) - 4) 0) 0) d < 4294967296 * 2 ^ (rwP a b).toNat + 4294967296 * 2 ^ (rwP a b - 4).toNat
    rw [hN]; omega
  have c3 : (BE.cmp .eql (.ar .sub .i64 (.ap 1 (.var 3) (.lit 8589934592) (.lit 0)) (.var 3)) (.lit 8589934592)).den (envOf [a, b, c, d, e, 4294967296 * 2 ^ (rwP a b).toNat, 4294967296 * 2 ^ (rwP a b - 4).toNat] (ap := apN)) = true := by
    show (IntKind.i64.wrap (sat (d + 8589934592) - d) == 8589934592) = true
    rw [IntKind.wrap_i64, sat_of (by omega)]
    simp; omega
  simp only [rwT, Tree.val]
  rw [c1, c2, c3]
  simp only [cond_true, cond_false, SV.den]
  cases (BE.cmp .lss (.lit 0) (.ar .rem .i64 (.var 2) (.lit 9))).den (envOf [a, b, c, d, e, 4294967296 * 2 ^ (rwP a b).toNat, 4294967296 * 2 ^ (rwP a b - 4).toNat] (ap := apN)) with
  | true =>
    simp only [cond_true]
    congr 1
    simp only [BE.den, cmpI, beq_self_eq_true]
  | false => rfl
theorem reachWaits_walk (a b c d e : Int) (ha : 0 ≤ a ∧ a ≤ 255) (hb : 0 ≤ b ∧ b ≤ 255) (hc : 0 ≤ c ∧ c ≤ 255) (hd : 0 ≤ d ∧ d ≤ 4294967295) (he : 0 ≤ e ∧ e ≤ 4294967295) (w : World) :
    Calls Try.prog 15 #[.int .u8 a, .int .u8 b, .int .u8 c, .int .u32 d, .int .u32 e] w fun e w' => e = .returned (.bool true) ∧ Below w.heap.size w w' := by
  have hp := rwP_in a b
  have ht := two_in hp
  have ra : a.tmod 5 = a % 5 := Int.tmod_eq_emod_of_nonneg ha.1
  have rb : b.tmod 5 = b % 5 := Int.tmod_eq_emod_of_nonneg hb.1
  have hin : AllIn (envOf [a, b, c, d, e, 4294967296 * 2 ^ (rwP a b).toNat, 4294967296 * 2 ^ (rwP a b - 4).toNat] (ap := apN)).i rwR 0 := ⟨ha, hb, hc, hd, he, ⟨ht.1, ht.2.1⟩, ⟨ht.2.2.1, ht.2.2.2⟩, trivial⟩
  have h := tree_sound (P := Try.prog) mixed (ρ := envOf [a, b, c, d, e, 4294967296 * 2 ^ (rwP a b).toNat, 4294967296 * 2 ^ (rwP a b - 4).toNat] (ap := apN)) rwT (X := rwX) (knows_env rfl hin arN_ok)
    ⟨fun q hq φ w => by
      simp only [rwX, List.mem_cons] at hq
      rcases hq with rfl | rfl | rfl | rfl | hq
      · exact shown11 w
      · exact standard11 w
      · have := refpow_any (rwP a b) (by omega) (by omega) w
        have e1 : SV.denL (envOf [a, b, c, d, e, 4294967296 * 2 ^ (rwP a b).toNat, 4294967296 * 2 ^ (rwP a b - 4).toNat] (ap := apN)) φ [.int .i64 rwN] = [.int .i64 (rwP a b)] := by
          show [Value.int .i64 (mnI (6 + a.tmod 5) (6 + b.tmod 5))] = _
          rw [ra, rb]; rfl
        rw [e1]; exact this
      · have := refpow_any (rwP a b - 4) (by omega) (by omega) w
        have e1 : SV.denL (envOf [a, b, c, d, e, 4294967296 * 2 ^ (rwP a b).toNat, 4294967296 * 2 ^ (rwP a b - 4).toNat] (ap := apN)) φ [.int .i64 (.pl .sub rwN (.lit 4))] = [.int .i64 (rwP a b - 4)] := by
          show [Value.int .i64 (mnI (6 + a.tmod 5) (6 + b.tmod 5) - 4)] = _
          rw [ra, rb]; rfl
        rw [e1]; exact this
      · exact crS_ok q hq φ w,
    fun pc hpc f vs v h _ φ w => conCt_ok hin.get0 arN_ok (consN_ok rfl) hpc h φ w, fun f p u L h => (by cases h)⟩
    (Tree.ok_of_check rwT_ok) (Tree.whole_live (by kernel_rfl)) w
  rw [rwT_val a b c d e ha.1 ha.2 hb.1 hb.2 hc.1 hc.2 hd.1 hd.2 he.1 he.2] at h
  exact h
end Go.Proofs.Ytmgfnejiienghaa
