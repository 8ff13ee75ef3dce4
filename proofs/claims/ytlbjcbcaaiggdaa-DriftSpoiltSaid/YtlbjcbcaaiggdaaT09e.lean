/- Chapter 9: DriftSpoilt: the walk. -/
import Derived.Test.YtlbjcbcaaiggdaaT09d0
import Derived.Test.YtlbjcbcaaiggdaaT09d1
import Derived.Test.YtlbjcbcaaiggdaaT09d2
import Derived.Test.YtlbjcbcaaiggdaaT09d3
namespace Go.Proofs.Ytlbjcbcaaiggdaa
open Go Go.RowKit Ev
set_option linter.unusedVariables false
set_option linter.unusedSimpArgs false
set_option maxRecDepth 100000

theorem spoil_all : ∀ i : Nat, i < 32 → runFn Try.prog { pc := [(.cmp .eql (.var 4) (.lit (i : Int)), true), (.cmp .eql (.var 3) (.lit 0), false), (.var 0, false)], cr := shC, rg := rgQ, ar := arD0, ct := conCt rgQ arD0 [packCon], nm := nmQ, nb := nbQ } 2000 4 spArgs = .ok (spL i)
  | 0, _ => spoil_p0
  | 1, _ => spoil_p1
  | 2, _ => spoil_p2
  | 3, _ => spoil_p3
  | 4, _ => spoil_p4
  | 5, _ => spoil_p5
  | 6, _ => spoil_p6
  | 7, _ => spoil_p7
  | 8, _ => spoil_p8
  | 9, _ => spoil_p9
  | 10, _ => spoil_p10
  | 11, _ => spoil_p11
  | 12, _ => spoil_p12
  | 13, _ => spoil_p13
  | 14, _ => spoil_p14
  | 15, _ => spoil_p15
  | 16, _ => spoil_p16
  | 17, _ => spoil_p17
  | 18, _ => spoil_p18
  | 19, _ => spoil_p19
  | 20, _ => spoil_p20
  | 21, _ => spoil_p21
  | 22, _ => spoil_p22
  | 23, _ => spoil_p23
  | 24, _ => spoil_p24
  | 25, _ => spoil_p25
  | 26, _ => spoil_p26
  | 27, _ => spoil_p27
  | 28, _ => spoil_p28
  | 29, _ => spoil_p29
  | 30, _ => spoil_p30
  | 31, _ => spoil_p31
  | n + 32, h => absurd h (by omega)
theorem driftSpoilt_walk (a b t y : Int) (ha : -9223372036854775808 ≤ a ∧ a ≤ 9223372036854775807) (hb : -9223372036854775808 ≤ b ∧ b ≤ 9223372036854775807) (ht : 0 ≤ t ∧ t ≤ 255) (hy : 0 ≤ y ∧ y ≤ 255) (w : World) :
    Calls Try.prog 4 #[.int .i64 a, .int .i64 b, .int .u8 t, .int .u8 y] w fun e w' => e = .returned (.bool true) ∧ Below w.heap.size w w' := by
  obtain ⟨i, hi⟩ : ∃ i : Nat, t % 32 = i := ⟨(t % 32).toNat, by omega⟩
  generalize hρ : envOf [a, b, t, y, t % 32] [false] (ap := apD ⟨#[]⟩ []) = ρ
  have hp : PkA ρ := by rw [← hρ]; exact pkA_D (S := ⟨#[]⟩) (rows := []) rfl
  have k0 : -9223372036854775808 ≤ (IE.var 0).den ρ ∧ (IE.var 0).den ρ ≤ 9223372036854775807 := by rw [← hρ]; exact ha
  have k1 : -9223372036854775808 ≤ (IE.var 1).den ρ ∧ (IE.var 1).den ρ ≤ 9223372036854775807 := by rw [← hρ]; exact hb
  have l1 : 0 ≤ (IE.lit 1).den ρ ∧ (IE.lit 1).den ρ ≤ 4294967295 := ⟨by show (0 : Int) ≤ 1; decide, by show (1 : Int) ≤ 4294967295; decide⟩
  have l2 : 0 ≤ (IE.lit 2).den ρ ∧ (IE.lit 2).den ρ ≤ 4294967295 := ⟨by show (0 : Int) ≤ 2; decide, by show (2 : Int) ≤ 4294967295; decide⟩
  have hin : AllIn ρ.i rgQ 0 := by rw [← hρ]; exact ⟨ha, hb, ht, hy, ⟨by show 0 ≤ t % 32; omega, by show t % 32 ≤ 31; omega⟩, trivial⟩
  have har : ∀ (f : Nat) v, arD0[f]? = some v → ∀ a b c, v.1 ≤ ρ.a f a b c ∧ ρ.a f a b c ≤ v.2 := by rw [← hρ]; exact arD0_ok
  have hnm : ∀ p ∈ nmQ, p.1.den ρ = p.2.den ρ := by
    intro p hp'
    simp only [nmQ, List.mem_cons, List.not_mem_nil, or_false] at hp'
    rcases hp' with rfl | rfl | rfl | rfl | rfl
    · exact seqE_den hp l1 k0
    · exact freqE_den hp l1 k0
    · exact seqE_den hp l2 k1
    · exact freqE_den hp l2 k1
    · rw [← hρ]
      show t.tmod 32 = t % 32
      exact Int.tmod_eq_emod_of_nonneg ht.1
  have e : SV.denL ρ id spArgs = [.int .i64 a, .int .i64 b, .int .u8 t, .int .u8 y] := by rw [← hρ]; rfl
  have hx : ExtIn ρ w := ExtIn.none fun _ => by rw [← hρ]; rfl
  have i3 : ρ.i 3 = y := by rw [← hρ]; rfl
  have i4 : ρ.i 4 = i := by rw [← hρ]; exact hi
  have b0 : ρ.b 0 = false := by rw [← hρ]; rfl
  by_cases h0 : y = 0
  · have key := law09 (ρ := ρ) hin hp har (cr := shC) shC_ok noLp (xs := []) (fun _ _ h => by cases h) hnm (ss := []) (fun _ _ h => by cases h) (nb := []) (fun p h => by cases h) (.node (.cmp .eql (.var 3) (.lit 0)) (.leaf (.bool (.lit true))) .dead) (n := 2000) (f := 4) (args := spArgs) ⟨⟨spoil_n, rfl⟩, trivial⟩ (v := .bool true)
      (by simp only [Tree.live, BE.den, cmpI, IE.den, i3, h0]; rfl) (by simp only [Tree.val, BE.den, cmpI, IE.den, i3, h0]; rfl) w hx
    rw [e] at key
    exact key
  · have hne : (y == 0) = false := by simpa using h0
    have heq : ((i : Int) == (i : Int)) = true := by simp
    have key := law09 (ρ := ρ) hin hp har (cr := shC) shC_ok noLp (xs := []) (fun _ _ h => by cases h) hnm (ss := []) (fun _ _ h => by cases h) (nb := nbQ) (nbQ_ok hp (by rw [i3]; omega) b0)
      (.node (.var 0) .dead (.node (.cmp .eql (.var 3) (.lit 0)) .dead (.node (.cmp .eql (.var 4) (.lit (i : Int))) (.leaf (spL i)) .dead))) (n := 2000) (f := 4) (args := spArgs) ⟨trivial, trivial, ⟨spoil_all i (by omega), by unfold spL; split <;> rfl⟩, trivial⟩ (v := .bool true)
      (by simp only [Tree.live, BE.den, cmpI, IE.den, i3, i4, b0, hne, heq, cond_true, cond_false])
      (by
        simp only [Tree.val, BE.den, cmpI, IE.den, i3, i4, b0, hne, heq, cond_true, cond_false]
        unfold spL
        split <;> simp only [SV.den, BE.den, cmpI, beq_self_eq_true]) w hx
    rw [e] at key
    exact key
end Go.Proofs.Ytlbjcbcaaiggdaa
