/- Numbers: roots and quotients of 128 bits, plain. -/
import Derived.Test.YthhipnhnpjhaaaaNm
namespace Go.Proofs.Ythhipnhnpjhaaaa
set_option linter.unusedVariables false

/-- the root's rounds, plain: k rounds are over -/
structure SqI (V : Nat) (k n L X : Nat) : Prop where
  le : k ≤ 64
  y : ∃ Y, Y < 4 ^ (64 - k) ∧ X = Y * 4 ^ k ∧ V = (n * n + L) * 4 ^ (64 - k) + Y
  low : L ≤ 2 * n
  n : n < 2 ^ k
theorem SqI.start {V : Nat} (h : V < 4 ^ 64) : SqI V 0 0 0 V := ⟨by omega, ⟨V, h, by simp, by simp⟩, by omega, by simp⟩
theorem SqI.step {V k n L X : Nat} (h : SqI V k n L X) (hk : k < 64) :
    SqI V (k + 1) (if 4 * L + X / 4 ^ 63 < 4 * n + 1 then 2 * n else 2 * n + 1) (if 4 * L + X / 4 ^ 63 < 4 * n + 1 then 4 * L + X / 4 ^ 63 else 4 * L + X / 4 ^ 63 - (4 * n + 1)) (4 * X % 4 ^ 64) := by
  obtain ⟨_, ⟨Y, hY, rfl, hV⟩, hl, hn⟩ := h
  have e1 : 64 - k = (63 - k) + 1 := by omega
  have e2 : 64 - (k + 1) = 63 - k := by omega
  have e3 : (4 : Nat) ^ 63 = 4 ^ (63 - k) * 4 ^ k := by rw [← Nat.pow_add]; congr 1; omega
  have e4 : (4 : Nat) ^ 64 = 4 * 4 ^ (63 - k) * 4 ^ k := by rw [Nat.mul_assoc, ← e3]
  have hpk : 0 < 4 ^ k := Nat.pow_pos (by decide)
  have hpm : 0 < 4 ^ (63 - k) := Nat.pow_pos (by decide)
  rw [e1, Nat.pow_succ] at hY hV
  have t1 : Y * 4 ^ k / 4 ^ 63 = Y / 4 ^ (63 - k) := by rw [e3, Nat.mul_div_mul_right _ _ hpk]
  have t2 : 4 * (Y * 4 ^ k) % 4 ^ 64 = (Y % 4 ^ (63 - k)) * 4 ^ (k + 1) := by
    rw [e4, ← Nat.mul_assoc, Nat.mul_mod_mul_right, Nat.mul_mod_mul_left, Nat.pow_succ, Nat.mul_comm 4 (Y % _), Nat.mul_assoc, Nat.mul_comm (4 ^ k) 4]
  have hd := Nat.div_add_mod Y (4 ^ (63 - k))
  have hm := Nat.mod_lt Y hpm
  have hq : Y / 4 ^ (63 - k) < 4 := by rw [Nat.div_lt_iff_lt_mul hpm]; omega
  rw [t1, t2]
  have e5 : 4 ^ (64 - (k + 1)) = 4 ^ (63 - k) := by rw [e2]
  generalize 4 ^ (63 - k) = m at *
  generalize Y / m = two at *
  generalize Y % m = Z at *
  have hn2 : (2 : Nat) ^ (k + 1) = 2 * 2 ^ k := by rw [Nat.pow_succ]; omega
  refine ⟨by omega, ⟨Z, by rw [e5]; exact hm, rfl, ?_⟩, ?_, ?_⟩
  · rw [e5, hV, ← hd]
    have key : ∀ A : Nat, A * (m * 4) + (m * two + Z) = (4 * A + two) * m + Z := by
      intro A
      have : (4 * A + two) * m = A * (m * 4) + m * two := by rw [Nat.add_mul, Nat.mul_comm two m, Nat.mul_comm m 4, ← Nat.mul_assoc, Nat.mul_comm A 4]
      omega
    rw [key]
    split
    · have : 2 * n * (2 * n) + (4 * L + two) = 4 * (n * n + L) + two := by
        have : 2 * n * (2 * n) = 4 * (n * n) := by rw [Nat.mul_mul_mul_comm]
        omega
      rw [this]
    · have : (2 * n + 1) * (2 * n + 1) + (4 * L + two - (4 * n + 1)) = 4 * (n * n + L) + two := by
        have : (2 * n + 1) * (2 * n + 1) = 4 * (n * n) + 4 * n + 1 := by
          rw [Nat.add_mul, Nat.mul_add, Nat.mul_mul_mul_comm]; omega
        omega
      rw [this]
  · split <;> omega
  · rw [hn2]; split <;> omega
theorem SqI.ends {V n L X : Nat} (h : SqI V 64 n L X) : n * n ≤ V ∧ V < (n + 1) * (n + 1) := by
  obtain ⟨_, ⟨Y, hY, _, hV⟩, hl, _⟩ := h
  simp at hY hV
  subst hY
  have : (n + 1) * (n + 1) = n * n + 2 * n + 1 := by rw [Nat.add_mul, Nat.mul_add]; omega
  omega
theorem root_one {V n m : Nat} (h : n * n ≤ V ∧ V < (n + 1) * (n + 1)) (g : m * m ≤ V ∧ V < (m + 1) * (m + 1)) : n = m := by
  have key : ∀ {a b : Nat}, a * a < (b + 1) * (b + 1) → a ≤ b := by
    intro a b h
    by_cases hab : a ≤ b
    · exact hab
    · have := Nat.mul_le_mul (show b + 1 ≤ a by omega) (show b + 1 ≤ a by omega)
      omega
  have a := key (Nat.lt_of_le_of_lt h.1 g.2)
  have b := key (Nat.lt_of_le_of_lt g.1 h.2)
  omega
/-- the root, by digits -/
def isqF : Nat → Nat → Nat
  | 0, _ => 0
  | k + 1, V => let r := 2 * isqF k (V / 4); if V < (r + 1) * (r + 1) then r else r + 1
theorem isqF_spec : ∀ (k V : Nat), V < 4 ^ k → isqF k V * isqF k V ≤ V ∧ V < (isqF k V + 1) * (isqF k V + 1)
  | 0, V, h => by simp at h; subst h; decide
  | k + 1, V, h => by
    obtain ⟨h1, h2⟩ := isqF_spec k (V / 4) (by rw [Nat.pow_succ] at h; rw [Nat.div_lt_iff_lt_mul (by decide)]; exact h)
    simp only [isqF]
    generalize isqF k (V / 4) = s at *
    have e1 : 2 * s * (2 * s) = 4 * (s * s) := by rw [Nat.mul_mul_mul_comm]
    have e2 : (2 * s + 1 + 1) * (2 * s + 1 + 1) = 4 * ((s + 1) * (s + 1)) := by
      have : 2 * s + 1 + 1 = 2 * (s + 1) := by omega
      rw [this, Nat.mul_mul_mul_comm]
    generalize s * s = A at *
    generalize (s + 1) * (s + 1) = B at *
    split
    · exact ⟨by omega, by assumption⟩
    · exact ⟨by omega, by omega⟩
theorem isq_ex : ∃ f : Nat → Nat, ∀ V, f V = isqF 64 V := ⟨_, fun _ => rfl⟩
/-- the root (not to be reckoned by unfolding) -/
noncomputable def isq : Nat → Nat := Classical.choose isq_ex
theorem isq_eq (V : Nat) : isq V = isqF 64 V := Classical.choose_spec isq_ex V
theorem isq_of {V n : Nat} (h : V < 4 ^ 64) (hn : n * n ≤ V ∧ V < (n + 1) * (n + 1)) : isq V = n := by rw [isq_eq]; exact root_one (isqF_spec 64 V h) hn
theorem isq_spec {V : Nat} (h : V < 4 ^ 64) : isq V * isq V ≤ V ∧ V < (isq V + 1) * (isq V + 1) := by rw [isq_eq]; exact isqF_spec 64 V h
theorem isq_lt {V : Nat} {k : Nat} (h : V < 4 ^ 64) (hk : V < k * k) : isq V < k := by
  have := (isq_spec h).1
  by_cases hh : isq V < k
  · exact hh
  · have := Nat.mul_le_mul (show k ≤ isq V by omega) (show k ≤ isq V by omega)
    omega
theorem isq_mono {V W : Nat} (hW : W < 4 ^ 64) (h : V ≤ W) : isq V ≤ isq W := by
  have a := isq_spec (show V < 4 ^ 64 by omega)
  have b := isq_spec hW
  by_cases hh : isq V ≤ isq W
  · exact hh
  · have := Nat.mul_le_mul (show isq W + 1 ≤ isq V by omega) (show isq W + 1 ≤ isq V by omega)
    omega

/-- a digit's guess: n is no less than the digit -/
structure DgI (hi next v1 v0 n r : Nat) : Prop where
  eq : n * v1 + r = hi
  up : (hi * 4294967296 + next) / (v1 * 4294967296 + v0) ≤ n
  top : n ≤ 4294967297
structure DgP (hi next v1 v0 : Nat) : Prop where
  v1a : 2147483648 ≤ v1
  v1b : v1 < 4294967296
  v0b : v0 < 4294967296
  nb : next < 4294967296
  lt : hi < v1 * 4294967296 + v0
theorem DgP.start {hi next v1 v0 : Nat} (h : DgP hi next v1 v0) : DgI hi next v1 v0 (hi / v1) (hi - hi / v1 * v1) ∧ hi - hi / v1 * v1 < v1 := by
  obtain ⟨h1, h2, h3, h4, h5⟩ := h
  have e := Nat.div_add_mod hi v1
  have e2 := Nat.mod_lt hi (show v1 > 0 by omega)
  rw [Nat.mul_comm] at e
  have top : hi / v1 ≤ 4294967297 := by
    have : hi / v1 < 4294967298 := by rw [Nat.div_lt_iff_lt_mul (by omega)]; omega
    omega
  refine ⟨⟨by omega, ?_, top⟩, by omega⟩
  generalize hi / v1 = n at *
  have : (hi * 4294967296 + next) / (v1 * 4294967296 + v0) < n + 1 := by
    rw [Nat.div_lt_iff_lt_mul (by omega)]
    have : (n + 1) * (v1 * 4294967296 + v0) = (n * v1 + v1) * 4294967296 + (n + 1) * v0 := by
      rw [Nat.mul_add, ← Nat.mul_assoc, Nat.add_mul n 1 v1, Nat.one_mul]
    rw [this]
    have : hi + 1 ≤ n * v1 + v1 := by omega
    have : (hi + 1) * 4294967296 ≤ (n * v1 + v1) * 4294967296 := Nat.mul_le_mul_right _ this
    omega
  omega
theorem dg_eq {hi next v1 v0 n r : Nat} (e : n * v1 + r = hi) : n * (v1 * 4294967296 + v0) + (r * 4294967296 + next) = hi * 4294967296 + next + n * v0 := by
  rw [Nat.mul_add, ← Nat.mul_assoc, ← e, Nat.add_mul]; omega
/-- it is the digit -/
theorem DgI.stop {hi next v1 v0 n r : Nat} (p : DgP hi next v1 v0) (h : DgI hi next v1 v0 n r) (hc : n * v0 ≤ r * 4294967296 + next) : n = (hi * 4294967296 + next) / (v1 * 4294967296 + v0) := by
  have e := dg_eq (v0 := v0) (next := next) h.eq
  have hd : 0 < v1 * 4294967296 + v0 := by have := p.v1a; omega
  have : n ≤ (hi * 4294967296 + next) / (v1 * 4294967296 + v0) := by
    rw [Nat.le_div_iff_mul_le hd]; omega
  have := h.up
  omega
theorem lt_help {A B y z : Nat} (e : A + y = B + z) (h : y < z) : B < A := by omega
/-- it is too great by one -/
theorem DgI.less {hi next v1 v0 n r : Nat} (p : DgP hi next v1 v0) (h : DgI hi next v1 v0 n r) (hc : 4294967296 ≤ n ∨ r * 4294967296 + next < n * v0) : 1 ≤ n ∧ DgI hi next v1 v0 (n - 1) (r + v1) := by
  have e := dg_eq (v0 := v0) (next := next) h.eq
  have hd : 0 < v1 * 4294967296 + v0 := by have := p.v1a; omega
  have lt : (hi * 4294967296 + next) / (v1 * 4294967296 + v0) < n := by
    rw [Nat.div_lt_iff_lt_mul hd]
    rcases hc with hc | hc
    · have h1 := Nat.mul_le_mul_right (v1 * 4294967296 + v0) hc
      have := p.lt
      have := p.nb
      omega
    · exact lt_help e hc
  have hn : 1 ≤ n := Nat.lt_of_le_of_lt (Nat.zero_le _) lt
  refine ⟨hn, ⟨?_, Nat.le_sub_one_of_lt lt, by have := h.top; omega⟩⟩
  have := h.eq
  clear e lt hc hd
  obtain ⟨m, rfl⟩ : ∃ m, n = m + 1 := ⟨n - 1, by omega⟩
  rw [Nat.add_mul] at this
  show m * v1 + (r + v1) = hi
  omega
/-- behind a rest that is too great it is the digit -/
theorem DgI.far {hi next v1 v0 n r : Nat} (p : DgP hi next v1 v0) (h : DgI hi next v1 v0 n r) (hn : n ≤ 4294967296) (hr : 4294967296 ≤ r) : n = (hi * 4294967296 + next) / (v1 * 4294967296 + v0) := by
  refine h.stop p ?_
  have := Nat.mul_le_mul hn (show v0 ≤ 4294967295 by have := p.v0b; omega)
  omega
theorem DgI.small {hi next v1 v0 n r : Nat} (p : DgP hi next v1 v0) (h : DgI hi next v1 v0 n r) : (hi * 4294967296 + next) / (v1 * 4294967296 + v0) < 4294967296 := by
  have hd : 0 < v1 * 4294967296 + v0 := by have := p.v1a; omega
  rw [Nat.div_lt_iff_lt_mul hd]
  have := p.lt
  have := p.nb
  omega
/-- two digits are the quotient -/
theorem two_digits {hi a b d : Nat} (ha : a < 4294967296) (hb : b < 4294967296) (hd : 0 < d) :
    let q1 := (hi * 4294967296 + a) / d
    let r1 := (hi * 4294967296 + a) % d
    (hi * 18446744073709551616 + (a * 4294967296 + b)) / d = q1 * 4294967296 + (r1 * 4294967296 + b) / d ∧ (hi * 18446744073709551616 + (a * 4294967296 + b)) % d = (r1 * 4294967296 + b) % d := by
  intro q1 r1
  have e := Nat.div_add_mod (hi * 4294967296 + a) d
  have : hi * 18446744073709551616 + (a * 4294967296 + b) = (r1 * 4294967296 + b) + d * (q1 * 4294967296) := by
    show _ = ((hi * 4294967296 + a) % d * 4294967296 + b) + d * ((hi * 4294967296 + a) / d * 4294967296)
    generalize (hi * 4294967296 + a) / d = q at *
    generalize (hi * 4294967296 + a) % d = r at *
    rw [← Nat.mul_assoc]; omega
  rw [this]
  exact ⟨by rw [Nat.add_mul_div_left _ _ hd]; omega, by rw [Nat.add_mul_mod_self_left]⟩

/-- a quotient, cut -/
def fDiv (a b : Int) : Int := if a = 0 then 0 else if b = 0 then (if a < 0 then -9223372036854775807 else 9223372036854775807) else sat ((a * 4294967296).fdiv b)
/-- a root -/
noncomputable def fSqrt (a : Int) : Int := (isq (a.toNat * 4294967296) : Nat)
def fClamp (a lo hi : Int) : Int := max (if a < lo then lo else if hi < a then hi else a) (-9223372036854775807)
def nAbs (a : Int) : Int := sat (if a < 0 then -a else a)
end Go.Proofs.Ythhipnhnpjhaaaa
