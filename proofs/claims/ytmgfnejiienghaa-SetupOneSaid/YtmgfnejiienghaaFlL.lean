/- Plain laws on floats: what Of tells is the number's floor in units of 2^-32, and keeps order. -/
import Derived.Test.YtmgfnejiienghaaFlP
namespace Go.Proofs.Ytmgfnejiienghaa
open Go.RowKit
set_option maxRecDepth 100000

/-- the parts of a double -/
def dE (b : Nat) : Nat := b / 4503599627370496 % 2048
def dM (b : Nat) : Nat := b % 4503599627370496
def dS (b : Nat) : Bool := b / 9223372036854775808 % 2 == 1
def dMag (b : Nat) : Nat := if dE b = 0 then dM b else dM b + 4503599627370496
def dPlace (b : Nat) : Int := if dE b = 0 then -1074 else (dE b : Int) - 1075
def dVal (b : Nat) : Int := if dS b then -(dMag b : Int) else dMag b

theorem read_fin (b : Nat) (h : dE b < 2047) : FloatKind.f64.format.read b = .number (dS b) (dMag b) (dPlace b) := by
  have hE : dE b = b % 9223372036854775808 / 4503599627370496 := by unfold dE; omega
  have hM : dM b = b % 9223372036854775808 % 4503599627370496 := by unfold dM; omega
  have w1 : FloatKind.f64.format.signWeight = 9223372036854775808 := by decide
  have w2 : FloatKind.f64.format.binade = 4503599627370496 := by decide
  have w3 : FloatKind.f64.format.infRung = 9218868437227405312 := by decide
  have w4 : FloatKind.f64.format.leastPlace = -1074 := by decide
  simp only [Ieee.Format.read, w1, w2, w3, w4]
  by_cases h0 : dE b = 0
  · rw [if_pos (by omega)]
    simp only [dS, dMag, dPlace, if_pos h0]
    congr 1
    omega
  · rw [if_neg (by omega), if_pos (by omega)]
    simp only [dS, dMag, dPlace, if_neg h0]
    congr 1 <;> omega
theorem read_top (b : Nat) (h : dE b = 2047) : FloatKind.f64.format.read b = if dM b = 0 then .infinity (dS b) else .nan (dS b) (dM b) := by
  have hE : dE b = b % 9223372036854775808 / 4503599627370496 := by unfold dE; omega
  have hM : dM b = b % 9223372036854775808 % 4503599627370496 := by unfold dM; omega
  have w1 : FloatKind.f64.format.signWeight = 9223372036854775808 := by decide
  have w2 : FloatKind.f64.format.binade = 4503599627370496 := by decide
  have w3 : FloatKind.f64.format.infRung = 9218868437227405312 := by decide
  simp only [Ieee.Format.read, w1, w2, w3]
  rw [if_neg (by omega), if_neg (by omega)]
  by_cases h0 : dM b = 0
  · rw [if_pos (by omega), if_pos h0]; rfl
  · rw [if_neg (by omega), if_neg h0]
    have e : b % 9223372036854775808 - 9218868437227405312 = dM b := by omega
    rw [e]; rfl
theorem fAbs_eq (b : Nat) : fAbs b = b % 9223372036854775808 := by
  have hn : (~~~(BitVec.ofInt 64 9223372036854775808)).toNat = 2 ^ 63 - 1 := by decide
  have h1 : (b : Int) = ((b : Nat) : Int) := rfl
  unfold fAbs
  simp only [bits]
  have e : (BitVec.ofInt IntKind.u64.bits (b : Int) &&& ~~~(BitVec.ofInt IntKind.u64.bits 9223372036854775808)).toNat = b % 9223372036854775808 := by
    show (BitVec.ofInt 64 (b : Int) &&& ~~~(BitVec.ofInt 64 9223372036854775808)).toNat = _
    rw [BitVec.toNat_and, hn, Nat.and_two_pow_sub_one_eq_mod, BitVec.ofInt_natCast, BitVec.toNat_ofNat]
    omega
  rw [e, Go.IntWalk.u64_in _ (by omega)]
  omega
theorem dE_lt (b : Nat) : dE b < 2048 := by unfold dE; omega

theorem signed_eq (s : Bool) (m k : Nat) : Ieee.signed s m k = (if s then -(m : Int) else m) * 2 ^ k := by
  cases s <;> simp [Ieee.signed, Nat.shiftLeft_eq, Int.neg_mul]

/-- a whole number times a power of two, downwards -/
def floorShift (n : Int) (k : Int) : Int := if 0 ≤ k then n * 2 ^ k.toNat else n / 2 ^ (-k).toNat
theorem pow_pos' (k : Nat) : (0 : Int) < 2 ^ k := by exact_mod_cast Nat.two_pow_pos k
/-- a part of the power taken into the number -/
theorem floorShift_add (n : Int) (d : Nat) (k : Int) : floorShift n (d + k) = floorShift (n * 2 ^ d) k := by
  unfold floorShift
  by_cases hk : 0 ≤ k
  · rw [if_pos hk, if_pos (by omega), show ((d : Int) + k).toNat = d + k.toNat from by omega, Int.pow_add, Int.mul_assoc]
  · rw [if_neg hk]
    by_cases hd : 0 ≤ (d : Int) + k
    · rw [if_pos hd]
      obtain ⟨e, he⟩ : ∃ e, d = ((d : Int) + k).toNat + e := ⟨(-k).toNat, by omega⟩
      have h2 : (-k).toNat = e := by omega
      rw [h2]
      generalize ((d : Int) + k).toNat = q at he
      subst he
      rw [Int.pow_add, ← Int.mul_assoc, Int.mul_ediv_cancel _ (Int.ne_of_gt (pow_pos' e))]
    · rw [if_neg hd]
      have h2 : (-k).toNat = d + (-((d : Int) + k)).toNat := by omega
      rw [h2, Int.pow_add]
      rw [Int.mul_comm n, Int.mul_ediv_mul_of_pos _ _ (pow_pos' d)]
theorem floorShift_mono {a b : Int} (h : a ≤ b) (k : Int) : floorShift a k ≤ floorShift b k := by
  unfold floorShift
  split
  · exact Int.mul_le_mul_of_nonneg_right h (Int.le_of_lt (pow_pos' _))
  · exact Int.ediv_le_ediv (pow_pos' _) h

/-- how two finite doubles stand to each other, over one base -/
theorem order_fin (a b : Nat) (ha : dE a < 2047) (hb : dE b < 2047) :
    FloatKind.f64.format.order a b = some (compare (dVal a * 2 ^ (dPlace a - min (dPlace a) (dPlace b)).toNat) (dVal b * 2 ^ (dPlace b - min (dPlace a) (dPlace b)).toNat)) := by
  simp only [Ieee.Format.order, read_fin a ha, read_fin b hb, Ieee.Datum.order, signed_eq, dVal]
theorem floor_le (a b : Nat) (ha : dE a < 2047) (hb : dE b < 2047) (h : FloatKind.f64.format.order a b ≠ some Ordering.gt) : floorShift (dVal a) (dPlace a + 32) ≤ floorShift (dVal b) (dPlace b + 32) := by
  rw [order_fin a b ha hb] at h
  have h' : dVal a * 2 ^ (dPlace a - min (dPlace a) (dPlace b)).toNat ≤ dVal b * 2 ^ (dPlace b - min (dPlace a) (dPlace b)).toNat := by
    rcases Int.lt_or_le (dVal b * 2 ^ (dPlace b - min (dPlace a) (dPlace b)).toNat) (dVal a * 2 ^ (dPlace a - min (dPlace a) (dPlace b)).toNat) with c | c
    · exact (h (by rw [Int.compare_eq_gt.2 c])).elim
    · exact c
  have e1 : dPlace a + 32 = ((dPlace a - min (dPlace a) (dPlace b)).toNat : Int) + (min (dPlace a) (dPlace b) + 32) := by omega
  have e2 : dPlace b + 32 = ((dPlace b - min (dPlace a) (dPlace b)).toNat : Int) + (min (dPlace a) (dPlace b) + 32) := by omega
  rw [e1, e2, floorShift_add, floorShift_add]
  exact floorShift_mono h' _

theorem dMag_lt (b : Nat) : dMag b < 9007199254740992 := by unfold dMag dM; split <;> omega
theorem abs_parts (b : Nat) : dE (fAbs b) = dE b ∧ dM (fAbs b) = dM b ∧ dS (fAbs b) = false ∧ fAbs b < 18446744073709551616 := by
  rw [fAbs_eq]
  unfold dE dM dS
  refine ⟨by omega, by omega, ?_, by omega⟩
  simp
theorem abs_val (b : Nat) : dVal (fAbs b) = dMag b ∧ dPlace (fAbs b) = dPlace b := by
  obtain ⟨h1, h2, h3, _⟩ := abs_parts b
  simp [dVal, dMag, dPlace, h1, h2, h3]
/-- a number that Of tells is finite, and small -/
theorem fOf_fin (b : Nat) (h : (fOf b).2 = 0) : dE b < 1054 ∧ ((fOf b).1 = 0 ∧ dVal b = 0 ∨ (fOf b).1 = fVal (FloatKind.f64.format.order b 0 == some Ordering.lt) ((b : Int) / 4503599627370496 % 2048) ((b : Int) % 4503599627370496)) := by
  obtain ⟨a1, a2, a3, _⟩ := abs_parts b
  obtain ⟨v1, v2⟩ := abs_val b
  have z : dE 0 = 0 ∧ dVal 0 = 0 ∧ dPlace 0 = -1074 := by decide
  -- not among those that are no numbers
  by_cases ht : dE b = 2047
  · exfalso
    have hr := read_top b ht
    by_cases hm : dM b = 0
    · rw [if_pos hm] at hr
      have hra := read_top (fAbs b) (by omega)
      rw [if_pos (by omega), a3] at hra
      have hmax : FloatKind.f64.format.read 9218868437227405311 = .number false 9007199254740991 971 := by decide
      have o1 : (FloatKind.f64.format.order b b != some Ordering.eq) = false := by simp [Ieee.Format.order, hr, Ieee.Datum.order]
      have o2 : (FloatKind.f64.format.order (fAbs b) 9218868437227405311 == some Ordering.gt) = true := by simp [Ieee.Format.order, hra, hmax, Ieee.Datum.order]
      have k : fKind b ≤ 2 ∧ fKind b ≠ 0 := by
        unfold fKind
        rw [if_neg (by simp [o1]), if_pos o2]
        split <;> omega
      unfold fOf at h
      rw [if_neg k.2, if_pos k.1] at h
      simp at h
    · rw [if_neg hm] at hr
      have o1 : (FloatKind.f64.format.order b b != some Ordering.eq) = true := by simp [Ieee.Format.order, hr, Ieee.Datum.order]
      have k : fKind b = 0 := by unfold fKind; rw [if_pos o1]
      unfold fOf at h
      rw [if_pos k] at h
      simp at h
  have hE : dE b < 2047 := by have := dE_lt b; omega
  have o1 : (FloatKind.f64.format.order b b != some Ordering.eq) = false := by
    rw [order_fin b b hE hE]; simp
  have o2 : (FloatKind.f64.format.order (fAbs b) 9218868437227405311 == some Ordering.gt) = false := by
    have hm : dE 9218868437227405311 = 2046 ∧ dVal 9218868437227405311 = 9007199254740991 ∧ dPlace 9218868437227405311 = 971 := by decide
    rw [order_fin _ _ (by omega) (by omega), v1, v2, hm.2.1, hm.2.2]
    have hp : dPlace b ≤ 971 := by unfold dPlace; split <;> omega
    have hle : (dMag b : Int) * 2 ^ (dPlace b - min (dPlace b) 971).toNat ≤ 9007199254740991 * 2 ^ (971 - min (dPlace b) 971).toNat := by
      have e : (dPlace b - min (dPlace b) 971).toNat = 0 := by omega
      rw [e]
      have := dMag_lt b
      have := pow_pos' (971 - min (dPlace b) 971).toNat
      calc (dMag b : Int) * 2 ^ 0 ≤ 9007199254740991 * 1 := by omega
        _ ≤ 9007199254740991 * 2 ^ (971 - min (dPlace b) 971).toNat := Int.mul_le_mul_of_nonneg_left (by omega) (by omega)
    have : compare ((dMag b : Int) * 2 ^ (dPlace b - min (dPlace b) 971).toNat) (9007199254740991 * 2 ^ (971 - min (dPlace b) 971).toNat) ≠ .gt := fun c => by
      rw [Int.compare_eq_gt] at c; omega
    simpa using this
  by_cases o3 : (FloatKind.f64.format.order b 0 == some Ordering.eq) = true
  · -- nought
    have k : (fKind b = 3 ∨ fKind b = 4) := by
      unfold fKind
      rw [if_neg (by simp [o1]), if_neg (by simp [o2]), if_pos o3]
      split <;> omega
    have hz : dVal b = 0 := by
      rw [order_fin b 0 hE (by omega), z.2.1] at o3
      have o5 : dVal b * 2 ^ (dPlace b - min (dPlace b) (dPlace 0)).toNat = 0 := by simpa using o3
      rcases Int.mul_eq_zero.1 o5 with o6 | o6
      · exact o6
      · exact (Int.ne_of_gt (pow_pos' _) o6).elim
    have hv : (fOf b).1 = 0 := by
      unfold fOf
      rw [if_neg (by omega), if_neg (by omega), if_pos (by omega)]
    refine ⟨?_, .inl ⟨hv, hz⟩⟩
    by_cases h0 : dE b = 0
    · omega
    · exfalso
      unfold dVal dMag at hz
      rw [if_neg h0] at hz
      split at hz <;> omega
  · have o3' : (FloatKind.f64.format.order b 0 == some Ordering.eq) = false := by simpa using o3
    have k : 4 < fKind b := by
      unfold fKind
      rw [if_neg (by simp [o1]), if_neg (by simp [o2]), if_neg o3]
      split <;> omega
    have o4 : ¬ ((FloatKind.f64.format.order (fAbs b) 4746794007248502784 == some Ordering.gt) = true ∨ (FloatKind.f64.format.order (fAbs b) 4746794007248502784 == some Ordering.eq) = true) := fun c => by
      unfold fOf at h
      rw [if_neg (by omega), if_neg (by omega), if_neg (by omega), if_pos c] at h
      simp at h
    have hv : (fOf b).1 = fVal (FloatKind.f64.format.order b 0 == some Ordering.lt) ((b : Int) / 4503599627370496 % 2048) ((b : Int) % 4503599627370496) := by
      unfold fOf
      rw [if_neg (by omega), if_neg (by omega), if_neg (by omega), if_neg o4]
    refine ⟨?_, .inr hv⟩
    -- it is less than 2^31
    have hm : dE 4746794007248502784 = 1054 ∧ dVal 4746794007248502784 = 4503599627370496 ∧ dPlace 4746794007248502784 = -21 := by decide
    rcases Nat.lt_or_ge (dE b) 1054 with c | c
    · exact c
    · exfalso
      refine o4 ?_
      rw [order_fin _ _ (by omega) (by omega), v1, v2, hm.2.1, hm.2.2]
      have hp : -21 ≤ dPlace b := by unfold dPlace; rw [if_neg (by omega)]; omega
      have hge : (4503599627370496 : Int) * 2 ^ (-21 - min (dPlace b) (-21)).toNat ≤ (dMag b : Int) * 2 ^ (dPlace b - min (dPlace b) (-21)).toNat := by
        have e : (-21 - min (dPlace b) (-21)).toNat = 0 := by omega
        rw [e]
        have h1 : (4503599627370496 : Int) ≤ dMag b := by unfold dMag; rw [if_neg (by omega)]; omega
        have := pow_pos' (dPlace b - min (dPlace b) (-21)).toNat
        calc (4503599627370496 : Int) * 2 ^ 0 ≤ (dMag b : Int) * 1 := by omega
          _ ≤ (dMag b : Int) * 2 ^ (dPlace b - min (dPlace b) (-21)).toNat := Int.mul_le_mul_of_nonneg_left (by omega) (by omega)
      rcases Int.lt_or_eq_of_le hge with c2 | c2
      · left; rw [Int.compare_eq_gt.2 c2]; rfl
      · right; rw [c2]; simp

theorem neg_floor (n : Int) (k : Nat) (h0 : -9223372036854775808 < n) (h1 : n < 9223372036854775808) (hk : 63 ≤ k) : n / 2 ^ k = n / 2 ^ 63 := by
  have hp : (2 : Int) ^ 63 ≤ 2 ^ k := by exact_mod_cast Nat.pow_le_pow_right (by decide : 0 < 2) hk
  rw [p63] at hp ⊢
  generalize (2 : Int) ^ k = P at hp
  rcases Int.lt_or_le n 0 with c | c
  · have e1 : n / 9223372036854775808 = -1 := by omega
    rw [e1]
    have := Int.ediv_nonneg_iff_of_pos (a := n) (show 0 < P by omega)
    exact Int.ediv_eq_iff_of_pos (by omega) |>.2 ⟨by omega, by omega⟩
  · rw [Int.ediv_eq_zero_of_lt c (by omega), Int.ediv_eq_zero_of_lt c (by omega)]
/-- what Of tells: the floor -/
theorem fOf_floor (b : Nat) (h : (fOf b).2 = 0) : dE b < 1054 ∧ (fOf b).1 = floorShift (dVal b) (dPlace b + 32) := by
  obtain ⟨hE, hv⟩ := fOf_fin b h
  refine ⟨hE, ?_⟩
  rcases hv with ⟨h1, h2⟩ | hv
  · rw [h1, h2]; unfold floorShift; split <;> simp
  have z : dE 0 = 0 ∧ dVal 0 = 0 ∧ dPlace 0 = -1074 := by decide
  have hm := dMag_lt b
  have hEb : ((b : Int) / 4503599627370496 % 2048) = (dE b : Int) := by unfold dE; omega
  have hMb : ((b : Int) % 4503599627370496) = (dM b : Int) := by unfold dM; omega
  rw [hv, hEb, hMb]
  -- the sign
  have hs : ∀ m : Int, m = dMag b → (if (FloatKind.f64.format.order b 0 == some Ordering.lt) = true then -m else m) = dVal b := by
    rintro m rfl
    rw [order_fin b 0 (by omega) (by omega), z.2.1]
    have hpp := pow_pos' (dPlace b - min (dPlace b) (dPlace 0)).toNat
    by_cases hn : dVal b < 0
    · have hneg : dVal b * 2 ^ (dPlace b - min (dPlace b) (dPlace 0)).toNat < 0 := Int.mul_neg_of_neg_of_pos hn hpp
      rw [Int.zero_mul, Int.compare_eq_lt.2 hneg, if_pos (by rfl)]
      unfold dVal at hn ⊢
      split at hn
      · rename_i c; rw [if_pos c]
      · omega
    · have hneg : ¬ dVal b * 2 ^ (dPlace b - min (dPlace b) (dPlace 0)).toNat < 0 := by
        have := Int.mul_nonneg (Int.not_lt.1 hn) (Int.le_of_lt hpp); omega
      rw [Int.zero_mul, if_neg (by simpa [Int.compare_eq_lt] using hneg)]
      unfold dVal at hn ⊢
      split at hn
      · rename_i c; rw [if_pos c]; omega
      · rename_i c; rw [if_neg c]
  have hab : -9007199254740992 < dVal b ∧ dVal b < 9007199254740992 := by unfold dVal; split <;> omega
  unfold fVal
  by_cases h0 : dE b = 0
  · have e1 : ¬ (0 : Int) < (dE b : Int) := by omega
    have e2 : dPlace b = -1074 := by unfold dPlace; rw [if_pos h0]
    have e3 : (dM b : Int) = dMag b := by unfold dMag; rw [if_pos h0]
    simp only [if_neg e1]
    rw [hs _ e3, h0, e2]
    unfold floorShift
    rw [if_neg (by omega), if_neg (by omega)]
    exact (neg_floor _ _ (by omega) (by omega) (by omega)).symm
  · have e1 : (0 : Int) < (dE b : Int) := by omega
    have e2 : dPlace b = (dE b : Int) - 1075 := by unfold dPlace; rw [if_neg h0]
    have e3 : (dM b : Int) + 4503599627370496 = dMag b := by unfold dMag; rw [if_neg h0]; omega
    simp only [if_pos e1]
    rw [hs _ e3]
    have e4 : (dE b : Int) - 1023 - 52 + 32 = dPlace b + 32 := by omega
    rw [e4]
    unfold floorShift
    by_cases hp : 0 ≤ dPlace b + 32
    · rw [if_pos hp, if_pos hp]
      have hq : (dPlace b + 32).toNat ≤ 10 := by omega
      rw [show min (dPlace b + 32).toNat 64 = (dPlace b + 32).toNat from by omega]
      have hpw : (2 : Int) ^ (dPlace b + 32).toNat ≤ 1024 := by
        have : (2 : Nat) ^ (dPlace b + 32).toNat ≤ 2 ^ 10 := Nat.pow_le_pow_right (by decide) hq
        exact_mod_cast this
      have hpp := pow_pos' (dPlace b + 32).toNat
      generalize (2 : Int) ^ (dPlace b + 32).toNat = P at hpw hpp
      have hlo : -9007199254740992 * 1024 ≤ dVal b * P := by
        calc (-9007199254740992 : Int) * 1024 ≤ -9007199254740992 * P := Int.mul_le_mul_of_nonpos_left (by decide) hpw
          _ ≤ dVal b * P := Int.mul_le_mul_of_nonneg_right (by omega) (by omega)
      have hhi : dVal b * P < 9007199254740992 * 1024 := by
        calc dVal b * P ≤ 9007199254740991 * P := Int.mul_le_mul_of_nonneg_right (by omega) (by omega)
          _ ≤ 9007199254740991 * 1024 := Int.mul_le_mul_of_nonneg_left hpw (by decide)
          _ < 9007199254740992 * 1024 := by decide
      exact Go.IntWalk.wrap64_in _ (by omega)
    · rw [if_neg hp, if_neg hp]
      by_cases hq : -(dPlace b + 32) ≤ 63
      · rw [show (min (-(dPlace b + 32)) 63).toNat = (-(dPlace b + 32)).toNat from by omega]
      · rw [show (min (-(dPlace b + 32)) 63).toNat = 63 from by omega]
        exact (neg_floor _ _ (by omega) (by omega) (by omega)).symm
/-- Of keeps order -/
theorem fOf_mono (a b : Nat) (ha : (fOf a).2 = 0) (hb : (fOf b).2 = 0) (h : FloatKind.f64.format.order a b ≠ some Ordering.gt) : (fOf a).1 ≤ (fOf b).1 := by
  obtain ⟨h1, h2⟩ := fOf_floor a ha
  obtain ⟨h3, h4⟩ := fOf_floor b hb
  rw [h2, h4]
  exact floor_le a b (by omega) (by omega) h
end Go.Proofs.Ytmgfnejiienghaa
