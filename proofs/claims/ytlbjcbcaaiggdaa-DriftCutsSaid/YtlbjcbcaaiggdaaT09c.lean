/- Chapter 9: DriftPacks. -/
import Derived.Test.YtlbjcbcaaiggdaaT09b
namespace Go.Proofs.Ytlbjcbcaaiggdaa
open Go Go.RowKit Ev
set_option linter.unusedVariables false
set_option linter.unusedSimpArgs false
set_option maxRecDepth 100000

theorem eqBs_all {ρ : Env} : ∀ {l m : List IE}, l.length = m.length → (eqBs l m).den ρ = decide (l.map (IE.den ρ) = m.map (IE.den ρ))
  | [], [], _ => rfl
  | [], _ :: _, h => by simp at h
  | _ :: _, [], h => by simp at h
  | a :: l, b :: m, h => by
    simp only [eqBs, mkAnd_den, mkCmp_den, cmpI, eqBs_all (ρ := ρ) (l := l) (m := m) (by simpa using h), List.map_cons, List.cons.injEq]
    by_cases hab : a.den ρ = b.den ρ <;> simp [hab]
/-- the same bytes: the same number and frequency -/
theorem pB_inj {ρ : Env} (ha : PkA ρ) {a b c d : IE} (hs : 0 ≤ a.den ρ ∧ a.den ρ ≤ 4294967295) (hf : -9223372036854775808 ≤ b.den ρ ∧ b.den ρ ≤ 9223372036854775807) (ht : 0 ≤ c.den ρ ∧ c.den ρ ≤ 4294967295) (hg : -9223372036854775808 ≤ d.den ρ ∧ d.den ρ ≤ 9223372036854775807) (h : (pB a b).map (IE.den ρ) = (pB c d).map (IE.den ρ)) : a.den ρ = c.den ρ ∧ b.den ρ = d.den ρ := by
  simp only [pB, List.map_cons, List.map_nil, List.cons.injEq] at h
  obtain ⟨_, h1, h2, h3, h4, h5, h6, h7, h8, h9, h10, h11, h12, _⟩ := h
  constructor
  · rw [← seqE_den ha hs hf, ← seqE_den ha ht hg]
    rw [cat4 (pk_byt ha ..) (pk_byt ha ..) (pk_byt ha ..) (pk_byt ha ..), cat4 (pk_byt ha ..) (pk_byt ha ..) (pk_byt ha ..) (pk_byt ha ..), h1, h2, h3, h4]
  · rw [← freqE_den ha hs hf, ← freqE_den ha ht hg]
    show IntKind.i64.wrap ((catE .u64 _).den ρ) = IntKind.i64.wrap ((catE .u64 _).den ρ)
    rw [cat8 (pk_byt ha ..) (pk_byt ha ..) (pk_byt ha ..) (pk_byt ha ..) (pk_byt ha ..) (pk_byt ha ..) (pk_byt ha ..) (pk_byt ha ..), cat8 (pk_byt ha ..) (pk_byt ha ..) (pk_byt ha ..) (pk_byt ha ..) (pk_byt ha ..) (pk_byt ha ..) (pk_byt ha ..) (pk_byt ha ..), h5, h6, h7, h8, h9, h10, h11, h12]
abbrev nmS : List (IE × IE) := [(seqE (.lit 1) (.lit 77), .lit 1), (freqE (.lit 1) (.lit 77), .lit 77)]
theorem i64_in9 {n : Int} (h : -9223372036854775808 ≤ n) (h' : n ≤ 9223372036854775807) : i64R9.1 ≤ n ∧ n ≤ i64R9.2 := ⟨h, h'⟩
theorem noLp {ρ : Env} {E : List (Nat × Nat)} : ∀ f p u L, (fun _ _ _ => none : FuncId → List Nat → Nat → Option LoopSum) f p u = some L → ∀ c, codeAt Try.prog f p = .loop c → sameIds L.bl L.bl' = true → LoopGoes Try.prog ρ E L c := fun f p u L h => by cases h
theorem noCr {ρ : Env} : ∀ c ∈ ([] : List (FuncId × List SV × SV)), ∀ φ w, ExtIn ρ w → Calls Try.prog c.1 (SV.denL ρ φ c.2.1).toArray w fun e w' => e = .returned (c.2.2.den ρ φ) ∧ Below w.heap.size w w' := fun c h => by cases h
theorem shown09_any (w : World) : Calls Try.prog 10 #[] w fun e w' => e = .returned (.bool true) ∧ Below w.heap.size w w' := by
  have ha : PkA (envOf [] (ap := apD ⟨#[]⟩ [])) := pkA_D (S := ⟨#[]⟩) (rows := []) rfl
  refine law09 (ρ := envOf [] (ap := apD ⟨#[]⟩ [])) (rg := []) (ar := arD0) trivial ha arD0_ok noCr noLp (xs := []) (fun _ _ h => by cases h) (nm := nmS) (fun p hp => ?_) (ss := []) (fun _ _ h => by cases h) (nb := []) (fun p hp => by cases hp) (.leaf (.bool (.lit true))) (n := 2000) (args := []) (Tree.ok_of_check (by kernel_rfl)) rfl rfl w (ExtIn.none fun _ => rfl)
  simp only [nmS, List.mem_cons, List.not_mem_nil, or_false] at hp
  have h1 : (0 : Int) ≤ (IE.lit 1).den (envOf [] (ap := apD ⟨#[]⟩ [])) ∧ (IE.lit 1).den (envOf [] (ap := apD ⟨#[]⟩ [])) ≤ 4294967295 := by decide
  have h2 : (-9223372036854775808 : Int) ≤ (IE.lit 77).den (envOf [] (ap := apD ⟨#[]⟩ [])) ∧ (IE.lit 77).den (envOf [] (ap := apD ⟨#[]⟩ [])) ≤ 9223372036854775807 := by decide
  rcases hp with rfl | rfl
  · exact seqE_den ha h1 h2
  · exact freqE_den ha h1 h2
abbrev shC : List (FuncId × List SV × SV) := [(10, [], .bool (.lit true))]
theorem shC_ok {ρ : Env} : ∀ c ∈ shC, ∀ φ w, ExtIn ρ w → Calls Try.prog c.1 (SV.denL ρ φ c.2.1).toArray w fun e w' => e = .returned (c.2.2.den ρ φ) ∧ Below w.heap.size w w' := by
  intro c hc φ w _
  rw [List.mem_singleton.1 hc]
  exact shown09_any w

abbrev nmP : List (IE × IE) := [(seqE 0 2, 0), (freqE 0 2, 2), (seqE 1 3, 1), (freqE 1 3, 3)]
abbrev rgP : List (Int × Int) := [u32R9, u32R9, i64R9, i64R9]
abbrev nbP : List (BE × Nat) := [(eqBs (pB 0 2) (pB 1 3), 0)]
def packsT : Tree :=
(.node (.cmp .eql (.var 0) (.var 1))
 (.node (.var 0)
 (.node (.cmp .eql (.var 2) (.var 3))
 (.leaf (.bool (.lit true)))
 .dead)
 (.node (.cmp .eql (.var 2) (.var 3))
 .dead
 (.leaf (.bool (.lit true)))))
 (.node (.var 0)
 .dead
 (.leaf (.bool (.lit true)))))
theorem packs_ok : packsT.check Try.prog { pc := [], cr := shC, rg := rgP, ar := arD0, ct := conCt rgP arD0 [packCon], nm := nmP, nb := nbP } 2000 3 [.int .u32 (.var 0), .int .u32 (.var 1), .int .i64 (.var 2), .int .i64 (.var 3)] = true := by kernel_rfl
theorem driftPacks_walk (a b f g : Int) (ha : 0 ≤ a ∧ a ≤ 4294967295) (hb : 0 ≤ b ∧ b ≤ 4294967295) (hf : -9223372036854775808 ≤ f ∧ f ≤ 9223372036854775807) (hg : -9223372036854775808 ≤ g ∧ g ≤ 9223372036854775807) (w : World) :
    Calls Try.prog 3 #[.int .u32 a, .int .u32 b, .int .i64 f, .int .i64 g] w fun e w' => e = .returned (.bool true) ∧ Below w.heap.size w w' := by
  generalize hx : (eqBs (pB 0 2) (pB 1 3)).den (envOf [a, b, f, g] (ap := apD ⟨#[]⟩ [])) = x
  generalize hρ : envOf [a, b, f, g] [x] (ap := apD ⟨#[]⟩ []) = ρ
  have hp : PkA ρ := by rw [← hρ]; exact pkA_D (S := ⟨#[]⟩) (rows := []) rfl
  have i0 : (IE.var 0).den ρ = a := by rw [← hρ]; rfl
  have i1 : (IE.var 1).den ρ = b := by rw [← hρ]; rfl
  have i2 : (IE.var 2).den ρ = f := by rw [← hρ]; rfl
  have i3 : (IE.var 3).den ρ = g := by rw [← hρ]; rfl
  have hb0 : ρ.b 0 = x := by rw [← hρ]; rfl
  have hE : (eqBs (pB 0 2) (pB 1 3)).den ρ = x := by rw [← hx, ← hρ]; rfl
  have k0 : 0 ≤ (IE.var 0).den ρ ∧ (IE.var 0).den ρ ≤ 4294967295 := by rw [i0]; exact ha
  have k1 : 0 ≤ (IE.var 1).den ρ ∧ (IE.var 1).den ρ ≤ 4294967295 := by rw [i1]; exact hb
  have k2 : -9223372036854775808 ≤ (IE.var 2).den ρ ∧ (IE.var 2).den ρ ≤ 9223372036854775807 := by rw [i2]; exact hf
  have k3 : -9223372036854775808 ≤ (IE.var 3).den ρ ∧ (IE.var 3).den ρ ≤ 9223372036854775807 := by rw [i3]; exact hg
  have hxx : x = decide (a = b ∧ f = g) := by
    refine hE.symm.trans ((eqBs_all (l := pB (.var 0) (.var 2)) (m := pB (.var 1) (.var 3)) rfl).trans ?_)
    by_cases h : a = b ∧ f = g
    · rw [decide_eq_true h]
      apply decide_eq_true
      rw [pB_den hp k0 k2, pB_den hp k1 k3, i0, i1, i2, i3, h.1, h.2]
    · rw [decide_eq_false h]
      apply decide_eq_false
      intro he
      have := pB_inj hp k0 k2 k1 k3 he
      rw [i0, i1, i2, i3] at this
      exact h this
  have hgood : good9 ρ packsT = true := by
    have j0 : ρ.i 0 = a := i0
    have j1 : ρ.i 1 = b := i1
    have j2 : ρ.i 2 = f := i2
    have j3 : ρ.i 3 = g := i3
    simp only [packsT, good9, BE.den, cmpI, IE.den, j0, j1, j2, j3, hb0, hxx]
    by_cases h1 : a = b <;> by_cases h2 : f = g <;> simp [h1, h2]
  obtain ⟨hl, hv⟩ := good9_ok hgood
  have key := law09 (ρ := ρ) (rg := rgP) (ar := arD0) (by rw [← hρ]; exact ⟨ha, hb, hf, hg, trivial⟩) hp (by rw [← hρ]; exact arD0_ok) (cr := shC) shC_ok noLp (xs := []) (fun _ _ h => by cases h) (nm := nmP) (fun p hp' => ?_) (ss := []) (fun _ _ h => by cases h) (nb := nbP) (fun p hp' => by rw [List.mem_singleton.1 hp']; exact hE.trans hb0.symm) packsT (Tree.ok_of_check packs_ok) hl hv w (ExtIn.none fun _ => by rw [← hρ]; rfl)
  · have e : SV.denL ρ id [.int .u32 (.var 0), .int .u32 (.var 1), .int .i64 (.var 2), .int .i64 (.var 3)] = [.int .u32 a, .int .u32 b, .int .i64 f, .int .i64 g] := by rw [← hρ]; rfl
    rw [e] at key
    exact key
  · simp only [nmP, List.mem_cons, List.not_mem_nil, or_false] at hp'
    rcases hp' with rfl | rfl | rfl | rfl
    · exact seqE_den hp k0 k2
    · exact freqE_den hp k0 k2
    · exact seqE_den hp k1 k3
    · exact freqE_den hp k1 k3
end Go.Proofs.Ytlbjcbcaaiggdaa
