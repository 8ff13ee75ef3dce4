/- Contracts of wide and fix: the highest bit. -/
import Derived.Test.YthhipnhnpjhaaaaNm
import Derived.Test.YthhipnhnpjhaaaaEvO
import Derived.Test.YthhipnhnpjhaaaaProg
namespace Go.Proofs.Ythhipnhnpjhaaaa
open Go Go.RowKit Ev
set_option linter.unusedVariables false
set_option maxRecDepth 100000

theorem mixed : Try.prog.follows .mixedOrders = true := by kernel_rfl
abbrev i64R : Int × Int := (-9223372036854775808, 9223372036854775807)
abbrev u64R : Int × Int := (0, 18446744073709551615)

def logH : St := ⟨[.int .u64 (.var 0), .any, .any, .int .i64 (.var 1), .any, .int .i64 (.var 2), .any, .any, .any, .any, .any, .any, .any, .any, .any], []⟩
def logX : Ctx := { pc := [], rg := [u64R, (-1, 63), (0, 64)] }
def logS1 : St := ⟨[(.int .u64 (.var 0)), .any, .any, (.int .i64 (.var 1)), (.int .i64 (.var 2)), (.int .i64 (.var 2)), (.bool (.cmp .lss (.var 2) (.lit 64))), (.int .i64 (.var 2)), (.int .u64 (.var 0)), (.int .i64 (.var 2)), (.int .u64 (.ar .shr .u64 (.var 0) (.var 2))), (.bool (.cmp .eql (.ar .shr .u64 (.var 0) (.var 2)) (.lit 0))), .any, .any, .any], []⟩
def logS2 : St := ⟨[(.int .u64 (.var 0)), .any, .any, (.int .i64 (.var 2)), (.int .i64 (.var 2)), (.int .i64 (.pl .add (.var 2) (.lit 1))), (.bool (.cmp .lss (.var 2) (.lit 64))), (.int .i64 (.var 2)), (.int .u64 (.var 0)), (.int .i64 (.var 2)), (.int .u64 (.ar .shr .u64 (.var 0) (.var 2))), (.bool (.cmp .eql (.ar .shr .u64 (.var 0) (.var 2)) (.lit 0))), (.int .i64 (.var 2)), (.int .i64 (.pl .add (.var 2) (.lit 1))), .any], []⟩
def logS3 : St := ⟨[(.int .u64 (.var 0)), .any, .any, (.int .i64 (.var 1)), .any, (.int .i64 (.var 2)), (.bool (.cmp .lss (.var 2) (.lit 64))), .any, .any, .any, .any, .any, .any, .any, .any], []⟩
def logB : CT :=
 (.node (.cmp .lss (.var 2) (.lit 64))
 (.node (.cmp .eql (.ar .shr .u64 (.var 0) (.var 2)) (.lit 0))
 (.leaf (.exit 0) logS1)
 (.leaf .normal logS2))
 (.leaf (.exit 0) logS3))
theorem logB_ok : logB.Ok Try.prog logX 400 54 [0, 0, 1, 0, 1, 1, 0, 1] 1 0 logH := by
  refine ⟨⟨?_, ?_⟩, ?_⟩ <;> (change runC _ _ _ _ _ _ _ _ = _; kernel_rfl)
def logL : LoopSum := ⟨[(.int .u64 (.var 0)), (.raw (.tuple #[])), (.int .i64 (.lit 0)), (.int .i64 (.lit (-1))), (.raw (.tuple #[])), (.int .i64 (.lit 0)), (.raw (.tuple #[])), (.raw (.tuple #[])), (.raw (.tuple #[])), (.raw (.tuple #[])), (.raw (.tuple #[])), (.raw (.tuple #[])), (.raw (.tuple #[])), (.raw (.tuple #[])), (.raw (.tuple #[]))], [],
  .exit 0, [.any, .any, .any, .int .i64 (.var 1), .any, .any, .any, .any, .any, .any, .any, .any, .any, .any, .any], []⟩
/-- what holds at the head -/
structure LogI (n : Int) (m : Nat) (ρ : Env) : Prop where
  en : ρ.i 0 = n
  er : ρ.a = (fun _ _ _ _ => 0) ∧ ρ.f = (fun n => [].getD n 0) ∧ ρ.s = (fun n => [].getD n ⟨#[]⟩) ∧ ρ.x = (fun n => [].getD n none)
  ek : ∃ k : Nat, k ≤ 64 ∧ m = 64 - k ∧ ρ.i 2 = k ∧ ρ.i 1 = (k : Int) - 1 ∧ (∀ j, j < k → 2 ^ j ≤ n)
theorem log_at {n : Int} {k : Nat} (h0 : 0 ≤ n) (hj : ∀ j, j < k → 2 ^ j ≤ n) (h : n < 2 ^ k) : wLog n = (k : Int) - 1 := by
  by_cases hn : n = 0
  · subst hn
    cases k with
    | zero => rfl
    | succ k => have := hj k (by omega); have : (0 : Int) < 2 ^ k := Int.pow_pos (by decide); omega
  · have a1 := (wLog_lt (n := n) (k := k) (by omega)).2 h
    cases k with
    | zero => simp at h; omega
    | succ k =>
      have a2 := mt (wLog_lt (n := n) (k := k) (by omega)).1 (by have := hj k (by omega); omega)
      push_cast at a1 ⊢; omega
theorem log_loop (n : Int) (h0 : 0 ≤ n) (h1 : n ≤ 18446744073709551615) {c : Code} (hc : codeAt Try.prog 54 [0, 1, 0, 1, 1, 0, 1] = .loop c) (w1 : World) (φ1 : Nat → Nat) (a : Act) (hr : RelF (envOf [n, wLog n]) [] w1 φ1 [] ⟨logL.tm, []⟩ a w1)
    (Q : Exit → Act → World → Prop) (hQ : ∀ a' w', RelF (envOf [n, wLog n]) [] w1 φ1 [] ⟨logL.tm', []⟩ a' w' → Q (.exit 0) a' w') : (Code.loop c).wp Try.prog Q a w1 := by
  have hb : codeAt Try.prog 54 [0, 0, 1, 0, 1, 1, 0, 1] = c := by rw [show codeAt Try.prog 54 [0, 0, 1, 0, 1, 1, 0, 1] = child (codeAt Try.prog 54 [0, 1, 0, 1, 1, 0, 1]) 0 from rfl, hc]; rfl
  refine wp_loop_ind (fun m a w => ∃ ρ, LogI n m ρ ∧ RelF ρ [] w1 φ1 [] logH a w) ?_ (m := 64) ⟨envOf [n, -1, 0], ⟨rfl, ⟨rfl, rfl, rfl, rfl⟩, 0, by omega, rfl, rfl, rfl, fun j hj => by omega⟩, ?_⟩
  · rintro m a w ⟨ρ, ⟨hn, he, k, hk, hm, hk2, hk1, hj⟩, hr⟩
    have hX : Knows ρ logX := knows_env rfl ⟨by rw [hn]; exact ⟨h0, h1⟩, by rw [hk1]; show (-1 : Int) ≤ _ ∧ _; omega, by rw [hk2]; show (0 : Int) ≤ _ ∧ _; omega, trivial⟩ (fun f v h => by cases h)
    have hp : (0 : Int) < 2 ^ k := Int.pow_pos (by decide)
    have c1 : (BE.cmp .lss (.var 2) (.lit 64)).den ρ = decide (k < 64) := by
      show decide (ρ.i 2 < 64) = _
      rw [hk2]; exact decide_eq_decide.2 (by omega)
    have c2 : k < 64 → (BE.cmp .eql (.ar .shr .u64 (.var 0) (.var 2)) (.lit 0)).den ρ = decide (n < 2 ^ k) := by
      intro hlt
      show ((ρ.i 0).fdiv (2 ^ (min (ρ.i 2).toNat 64)) == 0) = _
      rw [hn, hk2, show min (k : Int).toNat 64 = k by omega, Int.fdiv_eq_ediv_of_nonneg _ (by omega), Bool.eq_iff_iff]
      simp only [beq_iff_eq, decide_eq_true_eq]
      constructor
      · intro h
        have := Int.lt_mul_ediv_self_add (x := n) hp
        rw [h] at this; omega
      · intro h; exact Int.ediv_eq_zero_of_lt h0 h
    by_cases hlt : k < 64
    · by_cases hz : n < 2 ^ k
      · refine piece_sound mixed hb logB hX (knowsC_none rfl rfl rfl) logB_ok hr (e := .exit 0) (s' := logS1) (by simp only [logB, CT.at, c1, c2 hlt, decide_eq_true hlt, decide_eq_true hz, cond_true]) (fun a' w' hr' => hQ a' w' ?_)
        exact hr'.goes [.var 0, .var 1] [] [] (by kernel_rfl) rfl (by simp) (by kernel_rfl) (fun i e he => by
          rcases i with _ | _ | i <;> simp at he <;> subst he
          · exact hn.symm
          · show wLog n = ρ.i 1; rw [hk1, log_at h0 hj hz]) (fun i e he => by simp at he) he.1.symm he.2.1.symm he.2.2.1.symm (hxx := he.2.2.2.symm)
      · refine piece_sound mixed hb logB hX (knowsC_none rfl rfl rfl) logB_ok hr (e := .normal) (s' := logS2) (by simp only [logB, CT.at, c1, c2 hlt, decide_eq_true hlt, decide_eq_false hz, cond_true, cond_false]) (fun a' w' hr' => ⟨64 - (k + 1), by omega, ρ.to [.var 0, .var 2, .pl .add (.var 2) (.lit 1)] [], ⟨hn, he, k + 1, by omega, rfl, ?_, ?_, ?_⟩, hr'.fits _ _ [] (by kernel_rfl) rfl (by simp)⟩)
        · show ρ.i 2 + 1 = _; rw [hk2]; push_cast; rfl
        · show ρ.i 2 = _; rw [hk2]; push_cast; omega
        · intro j hjk
          by_cases hjk' : j = k
          · subst hjk'; omega
          · exact hj j (by omega)
    · refine piece_sound mixed hb logB hX (knowsC_none rfl rfl rfl) logB_ok hr (e := .exit 0) (s' := logS3) (by simp only [logB, CT.at, c1, decide_eq_false hlt, cond_false]) (fun a' w' hr' => hQ a' w' ?_)
      exact hr'.goes [.var 0, .var 1] [] [] (by kernel_rfl) rfl (by simp) (by kernel_rfl) (fun i e he => by
          rcases i with _ | _ | i <;> simp at he <;> subst he
          · exact hn.symm
          · show wLog n = ρ.i 1
            rw [hk1, log_at (k := k) h0 hj]
            rw [show k = 64 by omega]
            have : (2 : Int) ^ 64 = 18446744073709551616 := by decide
            omega) (fun i e he => by simp at he) he.1.symm he.2.1.symm he.2.2.1.symm (hxx := he.2.2.2.symm)
  · exact hr.goes [.var 0, .lit (-1), .lit 0] [] [] (by kernel_rfl) rfl (by simp) (by kernel_rfl) (fun i e he => by
      rcases i with _ | _ | _ | i <;> simp at he <;> subst he <;> rfl) (fun i e he => by simp at he) rfl rfl rfl
def logX0 : Ctx := { pc := [], rg := [u64R, (-1, 63)], lp := fun f p _ => if Nat.beq f 54 && decide (p = [0, 1, 0, 1, 1, 0, 1]) then some logL else none }
theorem log_any (n : Int) (h0 : 0 ≤ n) (h1 : n ≤ 18446744073709551615) (w : World) :
    Calls Try.prog 54 #[.int .u64 n] w fun e w' => e = .returned (.int .i64 (wLog n)) ∧ Below w.heap.size w w' := by
  refine tree_sound (P := Try.prog) mixed (ρ := envOf [n, wLog n]) (n := 400) (f := 54) (args := [.int .u64 (.var 0)]) (.leaf (.int .i64 (.var 1))) (X := logX0)
    (knows_env rfl ⟨⟨h0, h1⟩, wLog_in h1, trivial⟩ (fun f v h => by cases h)) ⟨fun c hc => (by cases hc), fun pc _ f vs v h => (by cases h), fun f p u L hL c hc st hbl hids w0 φ0 st0 a w hr Q hQ => ?_⟩ ⟨(by change runFn _ _ _ _ _ = _; kernel_rfl), rfl⟩ rfl w
  simp only [logX0] at hL
  split at hL
  · rename_i hfp
    simp only [Bool.and_eq_true, Nat.beq_eq, decide_eq_true_eq] at hfp
    obtain ⟨rfl, rfl⟩ := hfp
    cases hL
    exact lp_frame (by kernel_rfl) (fun w1 φ1 a hr Q hQ => log_loop n h0 h1 hc w1 φ1 a hr Q hQ) hbl hr hQ
  · cases hL
end Go.Proofs.Ythhipnhnpjhaaaa
