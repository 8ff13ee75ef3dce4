/- Several texts in one. -/
import Derived.Test.YtopgidgkpafeeaaM14
import Derived.Test.YtopgidgkpafeeaaProg
/- Contracts of wide and fix: the highest bit. -/
namespace Go.Proofs.Ytopgidgkpafeeaa
open Go Go.RowKit Ev
set_option linter.unusedVariables false
set_option maxRecDepth 100000

theorem mixed : Try.prog.follows .mixedOrders = true := by kernel_rfl
abbrev i64R : Int × Int := (-9223372036854775808, 9223372036854775807)
abbrev u64R : Int × Int := (0, 18446744073709551615)

abbrev U1 : SV := .raw (.tuple #[])
def logL : LoopSum := ⟨[.int .u64 (.var 0), U1, .int .i64 (.lit 0), .int .i64 (.lit (-1)), U1, .int .i64 (.lit 0), U1, U1, U1, U1, U1, U1, U1, U1, U1], [],
  .exit 0, [.int .u64 (.var 0), U1, .int .i64 (.lit 0), .int .i64 (.var 1), .any, .any, .any, .any, .any, .any, .any, .any, .any, .any, .any], []⟩
def logH : St := ⟨Tm.ofL [.int .u64 (.var 0), U1, .int .i64 (.lit 0), .int .i64 (.var 2), .any, .int .i64 (.var 3), .any, .any, .any, .any, .any, .any, .any, .any, .any], []⟩
abbrev logX : Ctx := { pc := [], rg := [u64R, (-1, 63), (-1, 63), (0, 64)] }
def logE : List IE := [.var 0, .var 1, .lit (-1), .lit 0]
def logT : RT :=
 (.node (.cmp .lss (.var 3) (.lit 64))
 (.node (.cmp .eql (.ar .shr .u64 (.var 0) (.var 3)) (.lit 0))
 (.stop [.var 0, .var 2] [])
 (.go [.var 0, .var 1, .var 3, .pl .add (.var 3) (.lit 1)] []))
 (.stop [.var 0, .var 2] []))
theorem log_lpB : lpB Try.prog logX 400 96 [0, 1, 0, 1, 1, 0, 1] 1 logL logH logT logE [] = true := by kernel_rfl
theorem log_at {n : Int} {k : Nat} (h0 : 0 ≤ n) (hj : ∀ j, j < k → 2 ^ j ≤ n) (h : n < 2 ^ k) : wLog n = (k : Int) - 1 := by
  by_cases hn : n = 0
  · subst hn
    cases k with
    | zero => rfl
    | succ k => have := hj k (by omega); have : (0 : Int) < 2 ^ k := Int.pow_pos (by decide); omega
  · have a1 := (wLog_lt (n := n) (k := k) (by omega)).2 h
    cases k with
    | zero => simp at h; omega
    | succ k =>
      have a2 := mt (wLog_lt (n := n) (k := k) (by omega)).1 (by have := hj k (by omega); omega)
      push_cast at a1 ⊢; omega
def logX0 : Ctx := { pc := [], rg := [u64R, (-1, 63)], lp := fun f p _ => if Nat.beq f 96 && decide (p = [0, 1, 0, 1, 1, 0, 1]) then some logL else none }
theorem log_any (n : Int) (h0 : 0 ≤ n) (h1 : n ≤ 18446744073709551615) (w : World) :
    Calls Try.prog 96 #[.int .u64 n] w fun e w' => e = .returned (.int .i64 (wLog n)) ∧ Below w.heap.size w w' := by
  refine tree_sound (P := Try.prog) mixed (ρ := envOf [n, wLog n]) (n := 400) (f := 96) (args := [.int .u64 (.var 0)]) (.leaf (.int .i64 (.var 1))) (X := logX0)
    (knows_env rfl ⟨⟨h0, h1⟩, wLog_in h1, trivial⟩ (fun f v h => by cases h)) ⟨fun c hc => (by cases hc), fun pc _ f vs v h => (by cases h), fun f p u L hL c hc hids => ?_⟩ ⟨(by change runFn _ _ _ _ _ = _; kernel_rfl), rfl⟩ rfl w
  simp only [logX0] at hL
  split at hL
  · rename_i hfp
    simp only [Bool.and_eq_true, Nat.beq_eq, decide_eq_true_eq] at hfp
    obtain ⟨rfl, rfl⟩ := hfp
    cases hL
    refine rt_lp mixed log_lpB hc (fun m is bs => ∃ k : Nat, k ≤ 64 ∧ m = 64 - k ∧ (∀ j, j < k → (2 : Int) ^ j ≤ n) ∧ bs = [] ∧ is = [n, wLog n, (k : Int) - 1, (k : Int)]) ?_ (fun _ _ _ _ _ => knowsC_none rfl rfl rfl) ⟨64, 0, by omega, rfl, fun j hj => by omega, rfl, rfl⟩ ?_
    · rintro m is bs ⟨k, hk, _, _, _, rfl⟩
      have := wLog_in h1
      refine knows_env rfl ?_ (fun f v h => by cases h)
      simp only [AllIn, Env.on, List.getD_cons_zero, List.getD_cons_succ]
      exact ⟨⟨h0, h1⟩, this, ⟨by omega, by omega⟩, ⟨by omega, by omega⟩, trivial⟩
    · rintro m is bs ⟨k, hk, rfl, hj, rfl, rfl⟩
      have hp : (0 : Int) < 2 ^ k := Int.pow_pos (by decide)
      have out : wLog n = (k : Int) - 1 → (envOf [n, wLog n]).has [n, (k : Int) - 1] [] := fun e => has_of (fun i x hx => by
        rcases i with _ | _ | i <;> simp at hx <;> subst hx
        · rfl
        · exact e) rfl
      by_cases hlt : k < 64
      · have c1 : ((k : Int) < 64) := by omega
        have c2 : (arI .shr .u64 n k == 0) = decide (n < 2 ^ k) := by
          show (n.fdiv (2 ^ (min (k : Int).toNat 64)) == 0) = _
          rw [show min (k : Int).toNat 64 = k by omega, Int.fdiv_eq_ediv_of_nonneg _ (by omega), Bool.eq_iff_iff]
          simp only [beq_iff_eq, decide_eq_true_eq]
          constructor
          · intro h
            have := Int.lt_mul_ediv_self_add (x := n) hp
            rw [h] at this; omega
          · intro h; exact Int.ediv_eq_zero_of_lt h0 h
        by_cases hz : n < 2 ^ k
        · refine .inr ⟨[n, (k : Int) - 1], [], ?_, out (log_at h0 hj hz)⟩
          simp only [logT, RT.out, BE.den, cmpI, IE.den, Env.on, List.getD_cons_zero, List.getD_cons_succ, decide_eq_true c1, cond_true, c2, decide_eq_true hz, dens, bdens, List.map_cons, List.map_nil]
        · refine .inl ⟨[n, wLog n, (k : Int), (k : Int) + 1], [], 64 - (k + 1), ?_, by omega, k + 1, by omega, rfl, fun j hjk => ?_, rfl, ?_⟩
          · simp only [logT, RT.next, BE.den, cmpI, IE.den, Env.on, List.getD_cons_zero, List.getD_cons_succ, decide_eq_true c1, cond_true, cond_false, c2, decide_eq_false hz, dens, bdens, List.map_cons, List.map_nil, plI]
          · by_cases hjk' : j = k
            · subst hjk'; omega
            · exact hj j (by omega)
          · rw [show ((k + 1 : Nat) : Int) - 1 = k by omega]; rfl
      · have c1 : ¬ ((k : Int) < 64) := by omega
        refine .inr ⟨[n, (k : Int) - 1], [], ?_, out (log_at (k := k) h0 hj ?_)⟩
        · simp only [logT, RT.out, BE.den, cmpI, IE.den, Env.on, List.getD_cons_zero, List.getD_cons_succ, decide_eq_false c1, cond_false, dens, bdens, List.map_cons, List.map_nil]
        · rw [show k = 64 by omega]
          have : (2 : Int) ^ 64 = 18446744073709551616 := by decide
          omega
  · cases hL
end Go.Proofs.Ytopgidgkpafeeaa
/- Numbers: roots and quotients of 128 bits, plain. -/
namespace Go.Proofs.Ytopgidgkpafeeaa
set_option linter.unusedVariables false

/-- the root's rounds, plain: k rounds are over -/
structure SqI (V : Nat) (k n L X : Nat) : Prop where
  le : k ≤ 64
  y : ∃ Y, Y < 4 ^ (64 - k) ∧ X = Y * 4 ^ k ∧ V = (n * n + L) * 4 ^ (64 - k) + Y
  low : L ≤ 2 * n
  n : n < 2 ^ k
theorem SqI.start {V : Nat} (h : V < 4 ^ 64) : SqI V 0 0 0 V := ⟨by omega, ⟨V, h, by simp, by simp⟩, by omega, by simp⟩
theorem SqI.step {V k n L X : Nat} (h : SqI V k n L X) (hk : k < 64) :
    SqI V (k + 1) (if 4 * L + X / 4 ^ 63 < 4 * n + 1 then 2 * n else 2 * n + 1) (if 4 * L + X / 4 ^ 63 < 4 * n + 1 then 4 * L + X / 4 ^ 63 else 4 * L + X / 4 ^ 63 - (4 * n + 1)) (4 * X % 4 ^ 64) := by
  obtain ⟨_, ⟨Y, hY, rfl, hV⟩, hl, hn⟩ := h
  have e1 : 64 - k = (63 - k) + 1 := by omega
  have e2 : 64 - (k + 1) = 63 - k := by omega
  have e3 : (4 : Nat) ^ 63 = 4 ^ (63 - k) * 4 ^ k := by rw [← Nat.pow_add]; congr 1; omega
  have e4 : (4 : Nat) ^ 64 = 4 * 4 ^ (63 - k) * 4 ^ k := by rw [Nat.mul_assoc, ← e3]
  have hpk : 0 < 4 ^ k := Nat.pow_pos (by decide)
  have hpm : 0 < 4 ^ (63 - k) := Nat.pow_pos (by decide)
  rw [e1, Nat.pow_succ] at hY hV
  have t1 : Y * 4 ^ k / 4 ^ 63 = Y / 4 ^ (63 - k) := by rw [e3, Nat.mul_div_mul_right _ _ hpk]
  have t2 : 4 * (Y * 4 ^ k) % 4 ^ 64 = (Y % 4 ^ (63 - k)) * 4 ^ (k + 1) := by
    rw [e4, ← Nat.mul_assoc, Nat.mul_mod_mul_right, Nat.mul_mod_mul_left, Nat.pow_succ, Nat.mul_comm 4 (Y % _), Nat.mul_assoc, Nat.mul_comm (4 ^ k) 4]
  have hd := Nat.div_add_mod Y (4 ^ (63 - k))
  have hm := Nat.mod_lt Y hpm
  have hq : Y / 4 ^ (63 - k) < 4 := by rw [Nat.div_lt_iff_lt_mul hpm]; omega
  rw [t1, t2]
  have e5 : 4 ^ (64 - (k + 1)) = 4 ^ (63 - k) := by rw [e2]
  generalize 4 ^ (63 - k) = m at *
  generalize Y / m = two at *
  generalize Y % m = Z at *
  have hn2 : (2 : Nat) ^ (k + 1) = 2 * 2 ^ k := by rw [Nat.pow_succ]; omega
  refine ⟨by omega, ⟨Z, by rw [e5]; exact hm, rfl, ?_⟩, ?_, ?_⟩
  · rw [e5, hV, ← hd]
    have key : ∀ A : Nat, A * (m * 4) + (m * two + Z) = (4 * A + two) * m + Z := by
      intro A
      have : (4 * A + two) * m = A * (m * 4) + m * two := by rw [Nat.add_mul, Nat.mul_comm two m, Nat.mul_comm m 4, ← Nat.mul_assoc, Nat.mul_comm A 4]
      omega
    rw [key]
    split
    · have : 2 * n * (2 * n) + (4 * L + two) = 4 * (n * n + L) + two := by
        have : 2 * n * (2 * n) = 4 * (n * n) := by rw [Nat.mul_mul_mul_comm]
        omega
      rw [this]
    · have : (2 * n + 1) * (2 * n + 1) + (4 * L + two - (4 * n + 1)) = 4 * (n * n + L) + two := by
        have : (2 * n + 1) * (2 * n + 1) = 4 * (n * n) + 4 * n + 1 := by
          rw [Nat.add_mul, Nat.mul_add, Nat.mul_mul_mul_comm]; omega
        omega
      rw [this]
  · split <;> omega
  · rw [hn2]; split <;> omega
theorem SqI.ends {V n L X : Nat} (h : SqI V 64 n L X) : n * n ≤ V ∧ V < (n + 1) * (n + 1) := by
  obtain ⟨_, ⟨Y, hY, _, hV⟩, hl, _⟩ := h
  simp at hY hV
  subst hY
  have : (n + 1) * (n + 1) = n * n + 2 * n + 1 := by rw [Nat.add_mul, Nat.mul_add]; omega
  omega
theorem root_one {V n m : Nat} (h : n * n ≤ V ∧ V < (n + 1) * (n + 1)) (g : m * m ≤ V ∧ V < (m + 1) * (m + 1)) : n = m := by
  have key : ∀ {a b : Nat}, a * a < (b + 1) * (b + 1) → a ≤ b := by
    intro a b h
    by_cases hab : a ≤ b
    · exact hab
    · have := Nat.mul_le_mul (show b + 1 ≤ a by omega) (show b + 1 ≤ a by omega)
      omega
  have a := key (Nat.lt_of_le_of_lt h.1 g.2)
  have b := key (Nat.lt_of_le_of_lt g.1 h.2)
  omega
/-- the root, by digits -/
def isqF : Nat → Nat → Nat
  | 0, _ => 0
  | k + 1, V => let r := 2 * isqF k (V / 4); if V < (r + 1) * (r + 1) then r else r + 1
theorem isqF_spec : ∀ (k V : Nat), V < 4 ^ k → isqF k V * isqF k V ≤ V ∧ V < (isqF k V + 1) * (isqF k V + 1)
  | 0, V, h => by simp at h; subst h; decide
  | k + 1, V, h => by
    obtain ⟨h1, h2⟩ := isqF_spec k (V / 4) (by rw [Nat.pow_succ] at h; rw [Nat.div_lt_iff_lt_mul (by decide)]; exact h)
    simp only [isqF]
    generalize isqF k (V / 4) = s at *
    have e1 : 2 * s * (2 * s) = 4 * (s * s) := by rw [Nat.mul_mul_mul_comm]
    have e2 : (2 * s + 1 + 1) * (2 * s + 1 + 1) = 4 * ((s + 1) * (s + 1)) := by
      have : 2 * s + 1 + 1 = 2 * (s + 1) := by omega
      rw [this, Nat.mul_mul_mul_comm]
    generalize s * s = A at *
    generalize (s + 1) * (s + 1) = B at *
    split
    · exact ⟨by omega, by assumption⟩
    · exact ⟨by omega, by omega⟩
theorem isq_ex : ∃ f : Nat → Nat, ∀ V, f V = isqF 64 V := ⟨_, fun _ => rfl⟩
/-- the root (not to be reckoned by unfolding) -/
noncomputable def isq : Nat → Nat := Classical.choose isq_ex
theorem isq_eq (V : Nat) : isq V = isqF 64 V := Classical.choose_spec isq_ex V
theorem isq_of {V n : Nat} (h : V < 4 ^ 64) (hn : n * n ≤ V ∧ V < (n + 1) * (n + 1)) : isq V = n := by rw [isq_eq]; exact root_one (isqF_spec 64 V h) hn
theorem isq_spec {V : Nat} (h : V < 4 ^ 64) : isq V * isq V ≤ V ∧ V < (isq V + 1) * (isq V + 1) := by rw [isq_eq]; exact isqF_spec 64 V h
theorem isq_lt {V : Nat} {k : Nat} (h : V < 4 ^ 64) (hk : V < k * k) : isq V < k := by
  have := (isq_spec h).1
  by_cases hh : isq V < k
  · exact hh
  · have := Nat.mul_le_mul (show k ≤ isq V by omega) (show k ≤ isq V by omega)
    omega
theorem isq_mono {V W : Nat} (hW : W < 4 ^ 64) (h : V ≤ W) : isq V ≤ isq W := by
  have a := isq_spec (show V < 4 ^ 64 by omega)
  have b := isq_spec hW
  by_cases hh : isq V ≤ isq W
  · exact hh
  · have := Nat.mul_le_mul (show isq W + 1 ≤ isq V by omega) (show isq W + 1 ≤ isq V by omega)
    omega

/-- a digit's guess: n is no less than the digit -/
structure DgI (hi next v1 v0 n r : Nat) : Prop where
  eq : n * v1 + r = hi
  up : (hi * 4294967296 + next) / (v1 * 4294967296 + v0) ≤ n
  top : n ≤ 4294967297
structure DgP (hi next v1 v0 : Nat) : Prop where
  v1a : 2147483648 ≤ v1
  v1b : v1 < 4294967296
  v0b : v0 < 4294967296
  nb : next < 4294967296
  lt : hi < v1 * 4294967296 + v0
theorem DgP.start {hi next v1 v0 : Nat} (h : DgP hi next v1 v0) : DgI hi next v1 v0 (hi / v1) (hi - hi / v1 * v1) ∧ hi - hi / v1 * v1 < v1 := by
  obtain ⟨h1, h2, h3, h4, h5⟩ := h
  have e := Nat.div_add_mod hi v1
  have e2 := Nat.mod_lt hi (show v1 > 0 by omega)
  rw [Nat.mul_comm] at e
  have top : hi / v1 ≤ 4294967297 := by
    have : hi / v1 < 4294967298 := by rw [Nat.div_lt_iff_lt_mul (by omega)]; omega
    omega
  refine ⟨⟨by omega, ?_, top⟩, by omega⟩
  generalize hi / v1 = n at *
  have : (hi * 4294967296 + next) / (v1 * 4294967296 + v0) < n + 1 := by
    rw [Nat.div_lt_iff_lt_mul (by omega)]
    have : (n + 1) * (v1 * 4294967296 + v0) = (n * v1 + v1) * 4294967296 + (n + 1) * v0 := by
      rw [Nat.mul_add, ← Nat.mul_assoc, Nat.add_mul n 1 v1, Nat.one_mul]
    rw [this]
    have : hi + 1 ≤ n * v1 + v1 := by omega
    have : (hi + 1) * 4294967296 ≤ (n * v1 + v1) * 4294967296 := Nat.mul_le_mul_right _ this
    omega
  omega
theorem dg_eq {hi next v1 v0 n r : Nat} (e : n * v1 + r = hi) : n * (v1 * 4294967296 + v0) + (r * 4294967296 + next) = hi * 4294967296 + next + n * v0 := by
  rw [Nat.mul_add, ← Nat.mul_assoc, ← e, Nat.add_mul]; omega
/-- it is the digit -/
theorem DgI.stop {hi next v1 v0 n r : Nat} (p : DgP hi next v1 v0) (h : DgI hi next v1 v0 n r) (hc : n * v0 ≤ r * 4294967296 + next) : n = (hi * 4294967296 + next) / (v1 * 4294967296 + v0) := by
  have e := dg_eq (v0 := v0) (next := next) h.eq
  have hd : 0 < v1 * 4294967296 + v0 := by have := p.v1a; omega
  have : n ≤ (hi * 4294967296 + next) / (v1 * 4294967296 + v0) := by
    rw [Nat.le_div_iff_mul_le hd]; omega
  have := h.up
  omega
theorem lt_help {A B y z : Nat} (e : A + y = B + z) (h : y < z) : B < A := by omega
/-- it is too great by one -/
theorem DgI.less {hi next v1 v0 n r : Nat} (p : DgP hi next v1 v0) (h : DgI hi next v1 v0 n r) (hc : 4294967296 ≤ n ∨ r * 4294967296 + next < n * v0) : 1 ≤ n ∧ DgI hi next v1 v0 (n - 1) (r + v1) := by
  have e := dg_eq (v0 := v0) (next := next) h.eq
  have hd : 0 < v1 * 4294967296 + v0 := by have := p.v1a; omega
  have lt : (hi * 4294967296 + next) / (v1 * 4294967296 + v0) < n := by
    rw [Nat.div_lt_iff_lt_mul hd]
    rcases hc with hc | hc
    · have h1 := Nat.mul_le_mul_right (v1 * 4294967296 + v0) hc
      have := p.lt
      have := p.nb
      omega
    · exact lt_help e hc
  have hn : 1 ≤ n := Nat.lt_of_le_of_lt (Nat.zero_le _) lt
  refine ⟨hn, ⟨?_, Nat.le_sub_one_of_lt lt, by have := h.top; omega⟩⟩
  have := h.eq
  clear e lt hc hd
  obtain ⟨m, rfl⟩ : ∃ m, n = m + 1 := ⟨n - 1, by omega⟩
  rw [Nat.add_mul] at this
  show m * v1 + (r + v1) = hi
  omega
/-- behind a rest that is too great it is the digit -/
theorem DgI.far {hi next v1 v0 n r : Nat} (p : DgP hi next v1 v0) (h : DgI hi next v1 v0 n r) (hn : n ≤ 4294967296) (hr : 4294967296 ≤ r) : n = (hi * 4294967296 + next) / (v1 * 4294967296 + v0) := by
  refine h.stop p ?_
  have := Nat.mul_le_mul hn (show v0 ≤ 4294967295 by have := p.v0b; omega)
  omega
theorem DgI.small {hi next v1 v0 n r : Nat} (p : DgP hi next v1 v0) (h : DgI hi next v1 v0 n r) : (hi * 4294967296 + next) / (v1 * 4294967296 + v0) < 4294967296 := by
  have hd : 0 < v1 * 4294967296 + v0 := by have := p.v1a; omega
  rw [Nat.div_lt_iff_lt_mul hd]
  have := p.lt
  have := p.nb
  omega
/-- two digits are the quotient -/
theorem two_digits {hi a b d : Nat} (ha : a < 4294967296) (hb : b < 4294967296) (hd : 0 < d) :
    let q1 := (hi * 4294967296 + a) / d
    let r1 := (hi * 4294967296 + a) % d
    (hi * 18446744073709551616 + (a * 4294967296 + b)) / d = q1 * 4294967296 + (r1 * 4294967296 + b) / d ∧ (hi * 18446744073709551616 + (a * 4294967296 + b)) % d = (r1 * 4294967296 + b) % d := by
  intro q1 r1
  have e := Nat.div_add_mod (hi * 4294967296 + a) d
  have : hi * 18446744073709551616 + (a * 4294967296 + b) = (r1 * 4294967296 + b) + d * (q1 * 4294967296) := by
    show _ = ((hi * 4294967296 + a) % d * 4294967296 + b) + d * ((hi * 4294967296 + a) / d * 4294967296)
    generalize (hi * 4294967296 + a) / d = q at *
    generalize (hi * 4294967296 + a) % d = r at *
    rw [← Nat.mul_assoc]; omega
  rw [this]
  exact ⟨by rw [Nat.add_mul_div_left _ _ hd]; omega, by rw [Nat.add_mul_mod_self_left]⟩

/-- a quotient, cut -/
def fDiv (a b : Int) : Int := if a = 0 then 0 else if b = 0 then (if a < 0 then -9223372036854775807 else 9223372036854775807) else sat ((a * 4294967296).fdiv b)
/-- a root -/
noncomputable def fSqrt (a : Int) : Int := (isq (a.toNat * 4294967296) : Nat)
def fClamp (a lo hi : Int) : Int := max (if a < lo then lo else if hi < a then hi else a) (-9223372036854775807)
def nAbs (a : Int) : Int := sat (if a < 0 then -a else a)
end Go.Proofs.Ytopgidgkpafeeaa
/- Contracts of fix: the sums. -/
namespace Go.Proofs.Ytopgidgkpafeeaa
open Go Go.RowKit Ev
set_option linter.unusedVariables false
set_option maxRecDepth 100000

/-- what the contracts' names stand for -/
noncomputable def apN (f : Nat) (a b c : Int) : Int :=
  match f with
  | 0 => max (-1) (min 63 (wLog a))
  | 1 => sat (a + b)
  | 2 => sat (a - b)
  | 3 => sat (if b ≤ 0 then a / 2 ^ (min 63 (-b).toNat) else a * 2 ^ (min b.toNat 64))
  | 4 => sat (a * b / 4294967296)
  | 5 => if a < c then max 0 (min ((a * 18446744073709551616 + b) / c) 18446744073709551615) else 0
  | 6 => if a < c then max 0 (min ((a * 18446744073709551616 + b) % c) 18446744073709551615) else 0
  | 7 => max 0 (min (isq (a * 18446744073709551616 + b).toNat : Nat) 18446744073709551615)
  | 8 => sat (fDiv a b)
  | 9 => sat (fSqrt a)
  | 10 => sat (fClamp a b c)
  | 11 => sat (nAbs a)
  | _ => 0
abbrev satR : Int × Int := (-9223372036854775807, 9223372036854775807)
abbrev u64S : Int × Int := (0, 18446744073709551615)
abbrev arN : List (Int × Int) := [(-1, 63), satR, satR, satR, satR, u64S, u64S, u64S, satR, (0, 9223372036854775807), satR, (0, 9223372036854775807), (0, 0), (0, 0), (0, 0), (0, 0), (0, 0), (0, 0), (0, 0), (0, 0)]
theorem cut_in (x : Int) : 0 ≤ max 0 (min x 18446744073709551615) ∧ max 0 (min x 18446744073709551615) ≤ 18446744073709551615 := by omega
theorem cut_if (p : Prop) [Decidable p] (x : Int) : 0 ≤ (if p then max 0 (min x 18446744073709551615) else 0) ∧ (if p then max 0 (min x 18446744073709551615) else 0) ≤ 18446744073709551615 := by split <;> omega
theorem sat_in0 {x : Int} (h : 0 ≤ x) : 0 ≤ sat x ∧ sat x ≤ 9223372036854775807 := by unfold sat; omega
theorem fSqrt_in (a : Int) : 0 ≤ fSqrt a := by unfold fSqrt; exact Int.natCast_nonneg _
theorem nAbs_in (a : Int) : 0 ≤ nAbs a := by
  unfold nAbs
  generalize hb : (if a < 0 then -a else a) = b
  have : 0 ≤ b := by rw [← hb]; split <;> omega
  exact (sat_in0 this).1
theorem arN_ok : ∀ (f : Nat) v, arN[f]? = some v → ∀ a b c, v.1 ≤ apN f a b c ∧ apN f a b c ≤ v.2
  | 0, v, h, a, b, c => by cases h; simp only [apN]; omega
  | 1, v, h, a, b, c => by cases h; exact sat_in _
  | 2, v, h, a, b, c => by cases h; exact sat_in _
  | 3, v, h, a, b, c => by cases h; exact sat_in _
  | 4, v, h, a, b, c => by cases h; exact sat_in _
  | 5, v, h, a, b, c => by cases h; exact cut_if _ _
  | 6, v, h, a, b, c => by cases h; exact cut_if _ _
  | 7, v, h, a, b, c => by cases h; exact cut_in _
  | 8, v, h, a, b, c => by cases h; exact sat_in _
  | 9, v, h, a, b, c => by cases h; exact sat_in0 (fSqrt_in a)
  | 10, v, h, a, b, c => by cases h; exact sat_in _
  | 11, v, h, a, b, c => by cases h; exact sat_in0 (nAbs_in a)
  | 12, v, h, a, b, c => by cases h; exact ⟨Int.le_refl _, Int.le_refl _⟩
  | 13, v, h, a, b, c => by cases h; exact ⟨Int.le_refl _, Int.le_refl _⟩
  | 14, v, h, a, b, c => by cases h; exact ⟨Int.le_refl _, Int.le_refl _⟩
  | 15, v, h, a, b, c => by cases h; exact ⟨Int.le_refl _, Int.le_refl _⟩
  | 16, v, h, a, b, c => by cases h; exact ⟨Int.le_refl _, Int.le_refl _⟩
  | 17, v, h, a, b, c => by cases h; exact ⟨Int.le_refl _, Int.le_refl _⟩
  | 18, v, h, a, b, c => by cases h; exact ⟨Int.le_refl _, Int.le_refl _⟩
  | 19, v, h, a, b, c => by cases h; exact ⟨Int.le_refl _, Int.le_refl _⟩
  | n + 20, v, h, a, b, c => by cases h
/-- the same, and behind them the cells of the caller's slices -/
noncomputable def apR (rows : List (Int → Int)) (f : Nat) (a b c : Int) : Int := if f < 20 then apN f a b c else (rows.getD (f - 20) (fun _ => 0)) a
/-- an environment has the contracts' names -/
def NumA (ρ : Env) : Prop := ∀ f, f < 20 → ∀ a b c, ρ.a f a b c = apN f a b c
theorem numA_N {ρ : Env} (h : ρ.a = apN) : NumA ρ := fun f _ a b c => by rw [h]
theorem numA_R {ρ : Env} {rows : List (Int → Int)} (h : ρ.a = apR rows) : NumA ρ := fun f hf a b c => by rw [h]; unfold apR; rw [if_pos hf]
theorem arR_ok {rows : List (Int → Int)} {l : List (Int × Int)} (hr : ∀ (i : Nat) v, l[i]? = some v → ∀ a, v.1 ≤ (rows.getD i (fun _ => 0)) a ∧ (rows.getD i (fun _ => 0)) a ≤ v.2) : ∀ (f : Nat) v, (arN ++ l)[f]? = some v → ∀ a b c, v.1 ≤ apR rows f a b c ∧ apR rows f a b c ≤ v.2 := by
  intro f v h a b c
  unfold apR
  by_cases hf : f < 20
  · rw [if_pos hf]
    rw [List.getElem?_append_left (by simpa using hf)] at h
    exact arN_ok f v h a b c
  · rw [if_neg hf]
    rw [List.getElem?_append_right (by simp; omega)] at h
    exact hr (f - 20) v h a

/-- a contract's name, reckoned where its arguments are told -/
noncomputable def mkAp (f : Nat) (a b c : IE) : IE :=
  match a, b, c with
  | .lit x, .lit y, .lit z => if Nat.beq f 7 then .ap f a b c else if Nat.beq f 9 then .lit (sat (isqF 64 (x.toNat * 4294967296) : Nat)) else .lit (apN f x y z)
  | a, b, c => .ap f a b c
theorem mkAp_den {ρ : Env} (ha : NumA ρ) {f : Nat} (hf : f < 20) (a b c : IE) : (mkAp f a b c).den ρ = apN f (a.den ρ) (b.den ρ) (c.den ρ) := by
  unfold mkAp
  split
  · split
    · exact ha f hf _ _ _
    · split
      · rename_i h9
        obtain rfl : f = 9 := by simpa using h9
        simp only [IE.den, apN, fSqrt, isq_eq]
      · rfl
  · exact ha f hf _ _ _
abbrev InI (x : Int) : Prop := -9223372036854775808 ≤ x ∧ x ≤ 9223372036854775807
abbrev InU (x : Int) : Prop := 0 ≤ x ∧ x ≤ 18446744073709551615
noncomputable def con1 (f : FuncId) (k : Nat) : Con := ⟨f, [.i64], fun es => match es with | [a] => .int .i64 (mkAp k a (.lit 0) (.lit 0)) | _ => .any⟩
noncomputable def con2 (f : FuncId) (k : Nat) : Con := ⟨f, [.i64, .i64], fun es => match es with | [a, b] => .int .i64 (mkAp k a b (.lit 0)) | _ => .any⟩
noncomputable def con3 (f : FuncId) (k : Nat) : Con := ⟨f, [.i64, .i64, .i64], fun es => match es with | [a, b, c] => .int .i64 (mkAp k a b c) | _ => .any⟩
theorem con1_ok {ρ : Env} (ha : NumA ρ) {f : FuncId} {k : Nat} (hk : k < 20) (h : ∀ a, InI a → ∀ w, Calls Try.prog f #[.int .i64 a] w fun e w' => e = .returned (.int .i64 (apN k a 0 0)) ∧ Below w.heap.size w w') : (con1 f k).holds Try.prog ρ := by
  intro es hi φ w
  match es, hi with
  | [e], hi =>
    obtain ⟨h0, _⟩ := hi
    refine (h (e.den ρ) h0 w).mono ?_
    rintro e' w' ⟨rfl, hb⟩
    refine ⟨?_, hb⟩
    exact congrArg (fun z => Ending.returned (.int .i64 z)) (mkAp_den (f := k) ha hk e (.lit 0) (.lit 0)).symm
theorem con2_ok {ρ : Env} (ha : NumA ρ) {f : FuncId} {k : Nat} (hk : k < 20) (h : ∀ a b, InI a → InI b → ∀ w, Calls Try.prog f #[.int .i64 a, .int .i64 b] w fun e w' => e = .returned (.int .i64 (apN k a b 0)) ∧ Below w.heap.size w w') : (con2 f k).holds Try.prog ρ := by
  intro es hi φ w
  match es, hi with
  | [e, d], hi =>
    obtain ⟨h0, h1, _⟩ := hi
    refine (h (e.den ρ) (d.den ρ) h0 h1 w).mono ?_
    rintro e' w' ⟨rfl, hb⟩
    refine ⟨?_, hb⟩
    exact congrArg (fun z => Ending.returned (.int .i64 z)) (mkAp_den (f := k) ha hk e d (.lit 0)).symm
theorem con3_ok {ρ : Env} (ha : NumA ρ) {f : FuncId} {k : Nat} (hk : k < 20) (h : ∀ a b c, InI a → InI b → InI c → ∀ w, Calls Try.prog f #[.int .i64 a, .int .i64 b, .int .i64 c] w fun e w' => e = .returned (.int .i64 (apN k a b c)) ∧ Below w.heap.size w w') : (con3 f k).holds Try.prog ρ := by
  intro es hi φ w
  match es, hi with
  | [e, d, g], hi =>
    obtain ⟨h0, h1, h2, _⟩ := hi
    refine (h (e.den ρ) (d.den ρ) (g.den ρ) h0 h1 h2 w).mono ?_
    rintro e' w' ⟨rfl, hb⟩
    refine ⟨?_, hb⟩
    exact congrArg (fun z => Ending.returned (.int .i64 z)) (mkAp_den (f := k) ha hk e d g).symm

def addT : Tree :=
 (.node (.cmp .lss (.lit 0) (.var 0))
 (.node (.cmp .lss (.lit 0) (.var 1))
 (.node (.cmp .lss (.ar .add .i64 (.var 0) (.var 1)) (.lit 0))
 (.leaf (.int .i64 (.lit 9223372036854775807)))
 (.leaf (.int .i64 (.mx (.ar .add .i64 (.var 0) (.var 1)) (.lit (-9223372036854775807))))))
 (.leaf (.int .i64 (.mx (.pl .add (.var 0) (.var 1)) (.lit (-9223372036854775807))))))
 (.node (.cmp .lss (.var 0) (.lit 0))
 (.node (.cmp .lss (.var 1) (.lit 0))
 (.node (.cmp .lss (.ar .add .i64 (.var 0) (.var 1)) (.lit 0))
 (.leaf (.int .i64 (.mx (.ar .add .i64 (.var 0) (.var 1)) (.lit (-9223372036854775807)))))
 (.leaf (.int .i64 (.lit (-9223372036854775807)))))
 (.leaf (.int .i64 (.mx (.pl .add (.var 0) (.var 1)) (.lit (-9223372036854775807))))))
 (.leaf (.int .i64 (.mx (.pl .add (.var 0) (.var 1)) (.lit (-9223372036854775807)))))))
theorem add_any (a b : Int) (a0 : -9223372036854775808 ≤ a) (a1 : a ≤ 9223372036854775807) (b0 : -9223372036854775808 ≤ b) (b1 : b ≤ 9223372036854775807) (w : World) :
    Calls Try.prog 65 #[.int .i64 a, .int .i64 b] w fun e w' => e = .returned (.int .i64 (sat (a + b))) ∧ Below w.heap.size w w' := by
  have h := tree_sound (P := Try.prog) mixed (ρ := envOf [a, b]) (n := 400) (f := 65) (args := [.int .i64 (.var 0), .int .i64 (.var 1)]) addT (X := { pc := [], rg := [i64R, i64R] })
    (knows_env rfl ⟨⟨a0, a1⟩, ⟨b0, b1⟩, trivial⟩ (fun f v h => by cases h)) (knowsC_none rfl rfl rfl) (Tree.ok_of_check (by kernel_rfl)) (Tree.whole_live (by kernel_rfl)) w
  have e : addT.val (envOf [a, b]) = .int .i64 (sat (a + b)) := by
    simp only [addT, Tree.val, BE.den, cmpI, SV.den, IE.den, arI, plI, mxI, Bool.cond_decide, IntKind.wrap_i64, List.getD_cons_zero, List.getD_cons_succ]
    unfold sat
    repeat' split
    all_goals (congr 1; omega)
  rw [e] at h
  exact h
def logCon : Con := ⟨96, [.u64], fun es => match es with | [a] => .int .i64 (.ap 0 a (.lit 0) (.lit 0)) | _ => .any⟩
theorem log_in_ap {n : Int} (h1 : n ≤ 18446744073709551615) (b c : Int) : apN 0 n b c = wLog n := by
  have := wLog_in h1
  simp only [apN]; omega
theorem logCon_ok {ρ : Env} (ha : NumA ρ) : logCon.holds Try.prog ρ := by
  intro es h φ w
  match es, h with
  | [e], h =>
    obtain ⟨⟨h0, h1⟩, _⟩ := h
    have h0 : 0 ≤ e.den ρ := h0
    have h1 : e.den ρ ≤ 18446744073709551615 := h1
    refine (log_any (e.den ρ) h0 h1 w).mono ?_
    rintro e' w' ⟨rfl, hb⟩
    refine ⟨?_, hb⟩
    show _ = Ending.returned (.int .i64 (ρ.a 0 (e.den ρ) 0 0))
    rw [ha 0 (by decide), log_in_ap h1]
def shiftT : Tree :=
 (.node (.cmp .lss (.lit 0) (.var 1))
 (.node (.cmp .lss (.var 0) (.lit 0))
 (.node (.cmp .lss (.lit 0) (.ar .sub .u64 (.lit 0) (.wr .u64 (.var 0))))
 (.node (.cmp .lss (.pl .add (.ap 0 (.ar .sub .u64 (.lit 0) (.wr .u64 (.var 0))) (.lit 0) (.lit 0)) (.mn (.var 1) (.lit 64))) (.lit 63))
 (.leaf (.int .i64 (.ar .mul .i64 (.lit (-1)) (.mn (.ar .shl .u64 (.ar .sub .u64 (.lit 0) (.wr .u64 (.var 0))) (.mn (.var 1) (.lit 63))) (.lit 9223372036854775807)))))
 (.leaf (.int .i64 (.lit (-9223372036854775807)))))
 (.leaf (.int .i64 (.ar .mul .i64 (.lit (-1)) (.mn (.ar .shl .u64 (.ar .sub .u64 (.lit 0) (.wr .u64 (.var 0))) (.mn (.var 1) (.lit 63))) (.lit 9223372036854775807))))))
 (.node (.cmp .lss (.lit 0) (.var 0))
 (.node (.cmp .lss (.pl .add (.ap 0 (.var 0) (.lit 0) (.lit 0)) (.mn (.var 1) (.lit 64))) (.lit 63))
 (.leaf (.int .i64 (.pl .mul (.lit 1) (.mn (.ar .shl .u64 (.var 0) (.mn (.var 1) (.lit 63))) (.lit 9223372036854775807)))))
 (.leaf (.int .i64 (.lit 9223372036854775807))))
 (.leaf (.int .i64 (.pl .mul (.lit 1) (.mn (.ar .shl .u64 (.var 0) (.mn (.var 1) (.lit 63))) (.lit 9223372036854775807)))))))
 (.leaf (.int .i64 (.mx (.ar .shr .i64 (.var 0) (.mn (.lit 63) (.pl .sub (.lit 0) (.mx (.var 1) (.lit (-63)))))) (.lit (-9223372036854775807))))))
theorem shift_big {m b : Int} (hm : 0 < m) (hm1 : m ≤ 9223372036854775808) (hb : 0 < b) (h : ¬ (wLog m + mnI b 64 < 63)) : 9223372036854775808 ≤ m * 2 ^ (min b.toNat 64) := by
  have e : mnI b 64 = ((min b.toNat 64 : Nat) : Int) := by unfold mnI; split <;> omega
  rw [e, log_shift hm] at h
  omega
theorem shift_small {m b : Int} (hm : 0 < m) (hb : 0 < b) (h : wLog m + mnI b 64 < 63) : m * 2 ^ (min b.toNat 64) < 9223372036854775808 ∧ mnI (arI .shl .u64 m (mnI b 63)) 9223372036854775807 = m * 2 ^ (min b.toNat 64) := by
  have e : mnI b 64 = ((min b.toNat 64 : Nat) : Int) := by unfold mnI; split <;> omega
  have h0 : 0 ≤ wLog m := by unfold wLog; rw [if_neg (by omega)]; exact Int.natCast_nonneg _
  have hle : min b.toNat 64 ≤ 62 := by omega
  have h' := h
  rw [e, log_shift hm] at h'
  refine ⟨h', ?_⟩
  have e2 : min (mnI b 63).toNat 64 = min b.toNat 64 := by unfold mnI; split <;> omega
  show mnI (IntKind.u64.wrap (m * 2 ^ (min (mnI b 63).toNat 64))) _ = _
  have hp : 0 < m * 2 ^ (min b.toNat 64) := Int.mul_pos hm (Int.pow_pos (by decide))
  rw [e2, IntKind.wrap_u64]
  generalize m * 2 ^ (min b.toNat 64) = y at h' hp
  rw [Int.emod_eq_of_lt (by omega) (by omega)]
  unfold mnI; split <;> omega
theorem shiftT_val (a b : Int) (a0 : -9223372036854775808 ≤ a) (a1 : a ≤ 9223372036854775807) : shiftT.val (envOf [a, b] (ap := apN)) = .int .i64 (apN 3 a b 0) := by
  have hneg : a < 0 → arI .sub .u64 0 (IntKind.u64.wrap a) = -a := fun h => by
    show IntKind.u64.wrap (0 - IntKind.u64.wrap a) = -a
    rw [IntKind.wrap_u64, IntKind.wrap_u64]; omega
  simp only [shiftT, Tree.val, BE.den, cmpI, SV.den, IE.den, plI, mxI, Bool.cond_decide, List.getD_cons_zero, List.getD_cons_succ]
  by_cases hb : 0 < b
  · have hap : apN 3 a b 0 = sat (a * 2 ^ (min b.toNat 64)) := by simp only [apN]; rw [if_neg (by omega)]
    rw [if_pos hb, hap]
    by_cases ha : a < 0
    · rw [if_pos ha, hneg ha, if_pos (by omega), log_in_ap (by omega)]
      have hmul : a * 2 ^ (min b.toNat 64) = -(-a * 2 ^ (min b.toNat 64)) := by rw [Int.neg_mul, Int.neg_neg]
      by_cases hl : wLog (-a) + mnI b 64 < 63
      · obtain ⟨h1, h2⟩ := shift_small (m := -a) (by omega) hb hl
        have hp : 0 < -a * 2 ^ (min b.toNat 64) := Int.mul_pos (by omega) (Int.pow_pos (by decide))
        rw [if_pos hl, h2, hmul]
        show Value.int .i64 (IntKind.i64.wrap (-1 * _)) = _
        generalize -a * 2 ^ (min b.toNat 64) = y at h1 hp
        rw [IntKind.wrap_i64]
        unfold sat; congr 1; omega
      · have h1 := shift_big (m := -a) (by omega) (by omega) hb hl
        rw [if_neg hl, hmul]
        generalize -a * 2 ^ (min b.toNat 64) = y at h1
        unfold sat; congr 1; omega
    · rw [if_neg ha]
      by_cases ha' : 0 < a
      · rw [if_pos ha', log_in_ap (by omega)]
        by_cases hl : wLog a + mnI b 64 < 63
        · obtain ⟨h1, h2⟩ := shift_small (m := a) ha' hb hl
          have hp : 0 < a * 2 ^ (min b.toNat 64) := Int.mul_pos ha' (Int.pow_pos (by decide))
          rw [if_pos hl, h2]
          generalize a * 2 ^ (min b.toNat 64) = y at h1 hp
          unfold sat; congr 1; omega
        · have h1 := shift_big (m := a) ha' (by omega) hb hl
          rw [if_neg hl]
          generalize a * 2 ^ (min b.toNat 64) = y at h1
          unfold sat; congr 1; omega
      · obtain rfl : a = 0 := by omega
        rw [if_neg ha']
        have : arI .shl .u64 0 (mnI b 63) = 0 := by
          show IntKind.u64.wrap (0 * _) = 0
          rw [Int.zero_mul]; rfl
        rw [this, Int.zero_mul]
        rfl
  · have hap : apN 3 a b 0 = sat (a / 2 ^ (min 63 (-b).toNat)) := by simp only [apN]; rw [if_pos (by omega)]
    rw [if_neg hb, hap, ← shift_down a0 a1 _ (Int.pow_pos (by decide))]
    have e : min (mnI 63 (0 - (if (-63 : Int) > b then -63 else b))).toNat 64 = min 63 (-b).toNat := by unfold mnI; split <;> split <;> omega
    have e3 : arI .shr .i64 a (mnI 63 (0 - (if (-63 : Int) > b then -63 else b))) = a.fdiv (2 ^ (min 63 (-b).toNat)) := by
      show a.fdiv (2 ^ (min (mnI 63 (0 - (if (-63 : Int) > b then -63 else b))).toNat 64)) = _
      rw [e]
    rw [e3]
    congr 1
    split <;> omega
theorem shift_any (a b : Int) (a0 : -9223372036854775808 ≤ a) (a1 : a ≤ 9223372036854775807) (b0 : -9223372036854775808 ≤ b) (b1 : b ≤ 9223372036854775807) (w : World) :
    Calls Try.prog 66 #[.int .i64 a, .int .i64 b] w fun e w' => e = .returned (.int .i64 (apN 3 a b 0)) ∧ Below w.heap.size w w' := by
  have h := tree_sound (P := Try.prog) mixed (ρ := envOf [a, b] (ap := apN)) (n := 400) (f := 66) (args := [.int .i64 (.var 0), .int .i64 (.var 1)]) shiftT (X := { pc := [], rg := [i64R, i64R], ar := arN, ct := conCt [i64R, i64R] arN [logCon] })
    (knows_env rfl ⟨⟨a0, a1⟩, ⟨b0, b1⟩, trivial⟩ arN_ok) ⟨fun c hc => (by cases hc), fun pc hpc f vs v h _ φ w _ => conCt_ok (AllIn.get0 (f := (envOf [a, b] (ap := apN)).i) (vs := [i64R, i64R]) ⟨⟨a0, a1⟩, ⟨b0, b1⟩, trivial⟩) arN_ok (fun c hc => by rw [List.mem_singleton.1 hc]; exact logCon_ok (numA_N rfl)) hpc h φ w, fun f p u L h => (by cases h)⟩
    (Tree.ok_of_check (by kernel_rfl)) (Tree.whole_live (by kernel_rfl)) w
  rw [shiftT_val a b a0 a1] at h
  exact h
end Go.Proofs.Ytopgidgkpafeeaa
