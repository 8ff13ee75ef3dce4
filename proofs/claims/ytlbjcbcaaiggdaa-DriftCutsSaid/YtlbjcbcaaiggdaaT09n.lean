/- Chapter 9: DriftCuts: the walk. -/
import Derived.Test.YtlbjcbcaaiggdaaT09l
import Derived.Test.YtlbjcbcaaiggdaaT09m
namespace Go.Proofs.Ytlbjcbcaaiggdaa
open Go Go.RowKit Ev
set_option linter.unusedVariables false
set_option linter.unusedSimpArgs false
set_option maxRecDepth 100000

theorem driftCuts_walk {W : World} {v : Value} (S : ByteArray) (hs : S.size ≤ 140737488351232) (hv : IsXs [.int .i64] W v) (f c : Int) (hf : -9223372036854775808 ≤ f ∧ f ≤ 9223372036854775807) (hc : 0 ≤ c ∧ c ≤ 255) :
    Calls Try.prog 6 #[.string S, v, .int .i64 f, .int .u8 c] W fun e w' => e = .returned (.bool true) ∧ Below W.heap.size W w' := by
  obtain ⟨B, rows, hB⟩ := hv.any
  obtain ⟨dr, rfl⟩ : ∃ dr, rows = [dr] := by
    have := hB.len
    match rows, this with
    | [x], _ => exact ⟨x, rfl⟩
  have hle := hB.le
  have hmax : (B.len : Int) ≤ 9223372036854775807 := by unfold maxLen at hle; omega
  have hp : ∀ is bs, PkA (envOf is bs [] [S] (apD S [dr]) [some B]) := fun is bs => pkA_D (S := S) (rows := [dr]) rfl
  by_cases hS : S.size ≤ 100
  · by_cases hn : B.len ≤ 50
    · have hb := dc_run S (dr := dr) f c B.len (Nat.le_refl _)
      obtain ⟨k, hk⟩ : ∃ k : Nat, c % 20 = k := ⟨(c % 20).toNat, by omega⟩
      have hg := cu_good (n := B.len) (f := f) (c := c) (S := S) hb (rows := [dr]) (xs := [some B]) k
      have i4 : (cuEnv B.len S f c (dcRun S dr B f c B.len) [dr] [some B]).i 4 = (k : Int) := hk
      have hg2 : good9 (cuEnv B.len S f c (dcRun S dr B f c B.len) [dr] [some B]) (.node (.cmp .eql (.var 4) (.lit (k : Int))) (cuT k) .dead) = true := by
        show cond ((cuEnv B.len S f c (dcRun S dr B f c B.len) [dr] [some B]).i 4 == (k : Int)) (good9 (cuEnv B.len S f c (dcRun S dr B f c B.len) [dr] [some B]) (cuT k)) false = true
        rw [i4, beq_self_eq_true]
        exact hg
      obtain ⟨hl, hval⟩ := good9_ok hg2
      have key := law09 (ρ := cuEnv B.len S f c (dcRun S dr B f c B.len) [dr] [some B]) (rg := rgM) (ar := arT) (cu_rg hb (u := (0, 50)) ⟨by omega, by show (B.len : Int) ≤ 50; omega⟩ hS hf hc) (hp _ _) (arT_ok (dr_in hB) rfl) (cr := shC) shC_ok (lp := dcLp) ?_ (xs := xs9A) (xs9 (xok9 hB rfl rfl) rfl) (nm := nmM) (cu_nm hb hf hc) (ss := ss9A) (sok9 rfl rfl rfl) (nb := nbM) (cu_nb hb) (.node (.cmp .eql (.var 4) (.lit (k : Int))) (cuT k) .dead) (n := 2000) (f := 6) (args := cuA) ⟨cut_ok k (by omega), trivial⟩ hl hval W (ext9 hB rfl)
      · have e : SV.denL (cuEnv B.len S f c (dcRun S dr B f c B.len) [dr] [some B]) id cuA = [.string S, v, .int .i64 f, .int .u8 c] := by rw [hB.val]; rfl
        rw [e] at key
        exact key
      · intro f' p u L hL cd hcd _
        unfold dcLp at hL
        split at hL
        · rename_i hfp
          simp only [Bool.and_eq_true, Nat.beq_eq, decide_eq_true_eq] at hfp
          obtain ⟨rfl, rfl⟩ := hfp
          cases hL
          exact dc_loop hB S hf hc dc_lpB hn hS hcd
        · cases hL
    · have key := law09 (ρ := envOf [(B.len : Int), (S.size : Int), f, c] [] [] [S] (apD S [dr]) [some B]) (rg := [(51, 9223372036854775807), (0, 100), i64R9, byR9]) (ar := arT) ⟨⟨by show (51 : Int) ≤ B.len; omega, hmax⟩, ⟨by show (0 : Int) ≤ S.size; omega, by show (S.size : Int) ≤ 100; omega⟩, hf, hc, trivial⟩ (hp _ _) (arT_ok (dr_in hB) rfl) (cr := shC) shC_ok noLp (xs := xs9A) (xs9 (xok9 hB rfl rfl) rfl) (nm := []) (fun p hp' => by cases hp') (ss := ss9A) (sok9 rfl rfl rfl) (nb := []) (fun p hp' => by cases hp') (.leaf (.bool (.lit true))) (n := 2000) (f := 6) (args := cuA) (Tree.ok_of_check (by kernel_rfl)) rfl rfl W (ext9 hB rfl)
      have e : SV.denL (envOf [(B.len : Int), (S.size : Int), f, c] [] [] [S] (apD S [dr]) [some B]) id cuA = [.string S, v, .int .i64 f, .int .u8 c] := by rw [hB.val]; rfl
      rw [e] at key
      exact key
  · have key := law09 (ρ := envOf [(B.len : Int), (S.size : Int), f, c] [] [] [S] (apD S [dr]) [some B]) (rg := [(0, 9223372036854775807), (101, 9223372036854775807), i64R9, byR9]) (ar := arT) ⟨⟨by show (0 : Int) ≤ B.len; omega, hmax⟩, ⟨by show (101 : Int) ≤ S.size; omega, by show (S.size : Int) ≤ 9223372036854775807; omega⟩, hf, hc, trivial⟩ (hp _ _) (arT_ok (dr_in hB) rfl) (cr := shC) shC_ok noLp (xs := xs9A) (xs9 (xok9 hB rfl rfl) rfl) (nm := []) (fun p hp' => by cases hp') (ss := ss9A) (sok9 rfl rfl rfl) (nb := []) (fun p hp' => by cases hp') (.leaf (.bool (.lit true))) (n := 2000) (f := 6) (args := cuA) (Tree.ok_of_check (by kernel_rfl)) rfl rfl W (ext9 hB rfl)
    have e : SV.denL (envOf [(B.len : Int), (S.size : Int), f, c] [] [] [S] (apD S [dr]) [some B]) id cuA = [.string S, v, .int .i64 f, .int .u8 c] := by rw [hB.val]; rfl
    rw [e] at key
    exact key
end Go.Proofs.Ytlbjcbcaaiggdaa
