/- Contracts of wide and fix: the highest bit. -/
import Derived.Test.YthhipnhnpjhaaaaNm
import Derived.Test.YthhipnhnpjhaaaaEvQ
import Derived.Test.YthhipnhnpjhaaaaProg
namespace Go.Proofs.Ythhipnhnpjhaaaa
open Go Go.RowKit Ev
set_option linter.unusedVariables false
set_option maxRecDepth 100000

theorem mixed : Try.prog.follows .mixedOrders = true := by kernel_rfl
abbrev i64R : Int × Int := (-9223372036854775808, 9223372036854775807)
abbrev u64R : Int × Int := (0, 18446744073709551615)

abbrev U1 : SV := .raw (.tuple #[])
def logL : LoopSum := ⟨[.int .u64 (.var 0), U1, .int .i64 (.lit 0), .int .i64 (.lit (-1)), U1, .int .i64 (.lit 0), U1, U1, U1, U1, U1, U1, U1, U1, U1], [],
  .exit 0, [.int .u64 (.var 0), U1, .int .i64 (.lit 0), .int .i64 (.var 1), .any, .any, .any, .any, .any, .any, .any, .any, .any, .any, .any], []⟩
def logH : St := ⟨Tm.ofL [.int .u64 (.var 0), U1, .int .i64 (.lit 0), .int .i64 (.var 2), .any, .int .i64 (.var 3), .any, .any, .any, .any, .any, .any, .any, .any, .any], []⟩
abbrev logX : Ctx := { pc := [], rg := [u64R, (-1, 63), (-1, 63), (0, 64)] }
def logE : List IE := [.var 0, .var 1, .lit (-1), .lit 0]
def logT : RT :=
 (.node (.cmp .lss (.var 3) (.lit 64))
 (.node (.cmp .eql (.ar .shr .u64 (.var 0) (.var 3)) (.lit 0))
 (.stop [.var 0, .var 2] [])
 (.go [.var 0, .var 1, .var 3, .pl .add (.var 3) (.lit 1)] []))
 (.stop [.var 0, .var 2] []))
theorem log_lpB : lpB Try.prog logX 400 54 [0, 1, 0, 1, 1, 0, 1] 1 logL logH logT logE [] = true := by kernel_rfl
theorem log_at {n : Int} {k : Nat} (h0 : 0 ≤ n) (hj : ∀ j, j < k → 2 ^ j ≤ n) (h : n < 2 ^ k) : wLog n = (k : Int) - 1 := by
  by_cases hn : n = 0
  · subst hn
    cases k with
    | zero => rfl
    | succ k => have := hj k (by omega); have : (0 : Int) < 2 ^ k := Int.pow_pos (by decide); omega
  · have a1 := (wLog_lt (n := n) (k := k) (by omega)).2 h
    cases k with
    | zero => simp at h; omega
    | succ k =>
      have a2 := mt (wLog_lt (n := n) (k := k) (by omega)).1 (by have := hj k (by omega); omega)
      push_cast at a1 ⊢; omega
def logX0 : Ctx := { pc := [], rg := [u64R, (-1, 63)], lp := fun f p _ => if Nat.beq f 54 && decide (p = [0, 1, 0, 1, 1, 0, 1]) then some logL else none }
theorem log_any (n : Int) (h0 : 0 ≤ n) (h1 : n ≤ 18446744073709551615) (w : World) :
    Calls Try.prog 54 #[.int .u64 n] w fun e w' => e = .returned (.int .i64 (wLog n)) ∧ Below w.heap.size w w' := by
  refine tree_sound (P := Try.prog) mixed (ρ := envOf [n, wLog n]) (n := 400) (f := 54) (args := [.int .u64 (.var 0)]) (.leaf (.int .i64 (.var 1))) (X := logX0)
    (knows_env rfl ⟨⟨h0, h1⟩, wLog_in h1, trivial⟩ (fun f v h => by cases h)) ⟨fun c hc => (by cases hc), fun pc _ f vs v h => (by cases h), fun f p u L hL c hc hids => ?_⟩ ⟨(by change runFn _ _ _ _ _ = _; kernel_rfl), rfl⟩ rfl w
  simp only [logX0] at hL
  split at hL
  · rename_i hfp
    simp only [Bool.and_eq_true, Nat.beq_eq, decide_eq_true_eq] at hfp
    obtain ⟨rfl, rfl⟩ := hfp
    cases hL
    refine rt_lp mixed log_lpB hc (fun m is bs => ∃ k : Nat, k ≤ 64 ∧ m = 64 - k ∧ (∀ j, j < k → (2 : Int) ^ j ≤ n) ∧ bs = [] ∧ is = [n, wLog n, (k : Int) - 1, (k : Int)]) ?_ (fun _ _ _ _ _ => knowsC_none rfl rfl rfl) ⟨64, 0, by omega, rfl, fun j hj => by omega, rfl, rfl⟩ ?_
    · rintro m is bs ⟨k, hk, _, _, _, rfl⟩
      have := wLog_in h1
      refine knows_env rfl ?_ (fun f v h => by cases h)
      simp only [AllIn, Env.on, List.getD_cons_zero, List.getD_cons_succ]
      exact ⟨⟨h0, h1⟩, this, ⟨by omega, by omega⟩, ⟨by omega, by omega⟩, trivial⟩
    · rintro m is bs ⟨k, hk, rfl, hj, rfl, rfl⟩
      have hp : (0 : Int) < 2 ^ k := Int.pow_pos (by decide)
      have out : wLog n = (k : Int) - 1 → (envOf [n, wLog n]).has [n, (k : Int) - 1] [] := fun e => has_of (fun i x hx => by
        rcases i with _ | _ | i <;> simp at hx <;> subst hx
        · rfl
        · exact e) rfl
      by_cases hlt : k < 64
      · have c1 : ((k : Int) < 64) := by omega
        have c2 : (arI .shr .u64 n k == 0) = decide (n < 2 ^ k) := by
          show (n.fdiv (2 ^ (min (k : Int).toNat 64)) == 0) = _
          rw [show min (k : Int).toNat 64 = k by omega, Int.fdiv_eq_ediv_of_nonneg _ (by omega), Bool.eq_iff_iff]
          simp only [beq_iff_eq, decide_eq_true_eq]
          constructor
          · intro h
            have := Int.lt_mul_ediv_self_add (x := n) hp
            rw [h] at this; omega
          · intro h; exact Int.ediv_eq_zero_of_lt h0 h
        by_cases hz : n < 2 ^ k
        · refine .inr ⟨[n, (k : Int) - 1], [], ?_, out (log_at h0 hj hz)⟩
          simp only [logT, RT.out, BE.den, cmpI, IE.den, Env.on, List.getD_cons_zero, List.getD_cons_succ, decide_eq_true c1, cond_true, c2, decide_eq_true hz, dens, bdens, List.map_cons, List.map_nil]
        · refine .inl ⟨[n, wLog n, (k : Int), (k : Int) + 1], [], 64 - (k + 1), ?_, by omega, k + 1, by omega, rfl, fun j hjk => ?_, rfl, ?_⟩
          · simp only [logT, RT.next, BE.den, cmpI, IE.den, Env.on, List.getD_cons_zero, List.getD_cons_succ, decide_eq_true c1, cond_true, cond_false, c2, decide_eq_false hz, dens, bdens, List.map_cons, List.map_nil, plI]
          · by_cases hjk' : j = k
            · subst hjk'; omega
            · exact hj j (by omega)
          · rw [show ((k + 1 : Nat) : Int) - 1 = k by omega]; rfl
      · have c1 : ¬ ((k : Int) < 64) := by omega
        refine .inr ⟨[n, (k : Int) - 1], [], ?_, out (log_at (k := k) h0 hj ?_)⟩
        · simp only [logT, RT.out, BE.den, cmpI, IE.den, Env.on, List.getD_cons_zero, List.getD_cons_succ, decide_eq_false c1, cond_false, dens, bdens, List.map_cons, List.map_nil]
        · rw [show k = 64 by omega]
          have : (2 : Int) ^ 64 = 18446744073709551616 := by decide
          omega
  · cases hL
end Go.Proofs.Ythhipnhnpjhaaaa
