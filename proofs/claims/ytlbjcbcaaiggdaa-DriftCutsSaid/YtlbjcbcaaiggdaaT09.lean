/- Chapter 9: bytes put together again, plainly. -/
import Derived.Test.YtlbjcbcaaiggdaaEvQ
namespace Go.Proofs.Ytlbjcbcaaiggdaa
open Go Go.RowKit Ev
set_option linter.unusedVariables false
set_option linter.unusedSimpArgs false
set_option maxRecDepth 100000

/-- bytes put together, as the program does it -/
def catG (k : IntKind) : IE → List IE → IE
  | a, [] => a
  | a, b :: l => catG k (.ar .or k (.ar .shl k a (.lit 8)) b) l
def catE (k : IntKind) : List IE → IE
  | [] => .lit 0
  | b :: l => catG k (.ar .or k (.lit 0) b) l
/-- plainly -/
def catN : Int → List Int → Int
  | a, [] => a
  | a, b :: l => catN (a * 256 + b) l
theorem or_nat (n a c : Nat) (ha : a * 256 + 255 < 2 ^ n) (hc : c < 256) : ((BitVec.ofInt n ((a : Int) * 256) ||| BitVec.ofInt n (c : Int)).toNat) = a * 256 + c := by
  have hor : a * 256 ||| c = a * 256 + c := by
    rw [Nat.mul_comm]; exact (Nat.two_pow_add_eq_or_of_lt (i := 8) hc a).symm
  rw [BitVec.toNat_or, BitVec.toNat_ofInt, BitVec.toNat_ofInt]
  have ea : (((a : Int) * 256) % ((2 ^ n : Nat) : Int)).toNat = a * 256 := by
    rw [Int.emod_eq_of_lt (by omega) (by omega)]; omega
  have ec : ((c : Int) % ((2 ^ n : Nat) : Int)).toNat = c := by
    rw [Int.emod_eq_of_lt (by omega) (by omega)]; omega
  rw [ea, ec, hor]
theorem or_u32 {x b : Int} (hx : 0 ≤ x) (hs : x * 256 + 255 ≤ 4294967295) (hb : 0 ≤ b ∧ b ≤ 255) : arI .or .u32 (arI .shl .u32 x 8) b = x * 256 + b := by
  have e : arI .shl .u32 x 8 = x * 256 := by
    show IntKind.u32.wrap (x * 2 ^ (min (8 : Int).toNat 32)) = _
    rw [show (2 : Int) ^ (min (8 : Int).toNat 32) = 256 from rfl, IntKind.wrap_u32]; omega
  rw [e]
  obtain ⟨a, rfl⟩ := Int.eq_ofNat_of_zero_le hx
  obtain ⟨c, rfl⟩ := Int.eq_ofNat_of_zero_le hb.1
  show IntKind.u32.wrap (((BitVec.ofInt 32 ((a : Int) * 256) ||| BitVec.ofInt 32 (c : Int)).toNat : Nat) : Int) = _
  rw [or_nat 32 a c (by omega) (by omega), IntKind.wrap_u32]; omega
theorem or_u64 {x b : Int} (hx : 0 ≤ x) (hs : x * 256 + 255 ≤ 18446744073709551615) (hb : 0 ≤ b ∧ b ≤ 255) : arI .or .u64 (arI .shl .u64 x 8) b = x * 256 + b := by
  have e : arI .shl .u64 x 8 = x * 256 := by
    show IntKind.u64.wrap (x * 2 ^ (min (8 : Int).toNat 64)) = _
    rw [show (2 : Int) ^ (min (8 : Int).toNat 64) = 256 from rfl, IntKind.wrap_u64]; omega
  rw [e]
  obtain ⟨a, rfl⟩ := Int.eq_ofNat_of_zero_le hx
  obtain ⟨c, rfl⟩ := Int.eq_ofNat_of_zero_le hb.1
  show IntKind.u64.wrap (((BitVec.ofInt 64 ((a : Int) * 256) ||| BitVec.ofInt 64 (c : Int)).toNat : Nat) : Int) = _
  rw [or_nat 64 a c (by omega) (by omega), IntKind.wrap_u64]; omega
theorem or0_u32 {b : Int} (hb : 0 ≤ b ∧ b ≤ 255) : arI .or .u32 0 b = b := by
  have := or_u32 (x := 0) (Int.le_refl 0) (by decide) hb
  rw [show arI .shl .u32 0 8 = 0 from rfl] at this
  omega
theorem or0_u64 {b : Int} (hb : 0 ≤ b ∧ b ≤ 255) : arI .or .u64 0 b = b := by
  have := or_u64 (x := 0) (Int.le_refl 0) (by decide) hb
  rw [show arI .shl .u64 0 8 = 0 from rfl] at this
  omega
abbrev Byt (x : Int) : Prop := 0 ≤ x ∧ x ≤ 255
/-- four bytes, eight bytes -/
theorem cat4 {ρ : Env} {a b c d : IE} (ha : Byt (a.den ρ)) (hb : Byt (b.den ρ)) (hc : Byt (c.den ρ)) (hd : Byt (d.den ρ)) :
    (catE .u32 [a, b, c, d]).den ρ = ((a.den ρ * 256 + b.den ρ) * 256 + c.den ρ) * 256 + d.den ρ := by
  simp only [catE, catG, IE.den]
  rw [or0_u32 ha, or_u32 (by omega) (by omega) hb, or_u32 (by omega) (by omega) hc, or_u32 (by omega) (by omega) hd]
theorem cat8 {ρ : Env} {a b c d e f g h : IE} (ha : Byt (a.den ρ)) (hb : Byt (b.den ρ)) (hc : Byt (c.den ρ)) (hd : Byt (d.den ρ)) (he : Byt (e.den ρ)) (hf : Byt (f.den ρ)) (hg : Byt (g.den ρ)) (hh : Byt (h.den ρ)) :
    (catE .u64 [a, b, c, d, e, f, g, h]).den ρ = ((((((a.den ρ * 256 + b.den ρ) * 256 + c.den ρ) * 256 + d.den ρ) * 256 + e.den ρ) * 256 + f.den ρ) * 256 + g.den ρ) * 256 + h.den ρ := by
  simp only [catE, catG, IE.den]
  rw [or0_u64 ha, or_u64 (by omega) (by omega) hb, or_u64 (by omega) (by omega) hc, or_u64 (by omega) (by omega) hd, or_u64 (by omega) (by omega) he, or_u64 (by omega) (by omega) hf, or_u64 (by omega) (by omega) hg, or_u64 (by omega) (by omega) hh]
end Go.Proofs.Ytlbjcbcaaiggdaa
