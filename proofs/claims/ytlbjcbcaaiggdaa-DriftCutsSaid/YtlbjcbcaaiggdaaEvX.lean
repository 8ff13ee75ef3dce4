/- A checked evaluator: loops whose rounds have more variables than the head; rounds path by path. -/
import Derived.Test.YtlbjcbcaaiggdaaEvQ
namespace Go.Proofs.Ytlbjcbcaaiggdaa
open Go Go.RowKit
set_option linter.unusedVariables false
namespace Ev
/-- a loop's sum by what holds at its head; the rounds' environments may tell more than the head has variables -/
theorem rt_lpg {P : Program} (hmix : P.follows .mixedOrders = true) {L : LoopSum} {n : Nat} {f : FuncId} {p : List Nat} {u : Nat} {H : St} {T : RT} {X : Ctx} {es : List IE} {bs : List BE} (hB : lpB P X n f p u L H T es bs = true) {c : Code} (hc : codeAt P f p = .loop c) {ρ : Env} {E : List (Nat × Nat)}
    (J : Nat → List Int → List Bool → Prop) (hX : ∀ m is bs, J m is bs → Knows (ρ.on is bs) X) (hC : ∀ m is bs, J m is bs → ∀ E, KnowsC P (ρ.on is bs) E X)
    (h0 : ∃ m is bs', J m is bs' ∧ dens ρ es <+: is ∧ bdens ρ bs <+: bs') (hstep : ∀ m is bs, J m is bs → (∃ is' bs' m' js cs, T.next (ρ.on is bs) = some (is', bs') ∧ m' < m ∧ J m' js cs ∧ is' <+: js ∧ bs' <+: cs) ∨ (∃ is' bs', T.out (ρ.on is bs) = some (is', bs') ∧ ρ.has is' bs'))
    : LoopGoes P ρ E L c := by
  simp only [lpB, Bool.and_eq_true] at hB
  obtain ⟨⟨⟨⟨⟨⟨hown, hHs⟩, hLs⟩, hT⟩, hf0⟩, hv0⟩, hne⟩ := hB
  have hcp : codeAt P f (0 :: p) = c := by simp only [codeAt, hc, child]
  have pre : ∀ {is js : List Int} {bs cs : List Bool}, is <+: js → bs <+: cs → (ρ.on js cs).has is bs := by
    rintro is _ bs _ ⟨r, rfl⟩ ⟨s, rfl⟩
    exact Env.has_left (ρ.on_has (is ++ r) (bs ++ s))
  refine lp_frame hown (fun w1 φ1 a D hr1 Q hQ1 => ?_)
  have al : ∀ {t : Store}, L.bl.all (fun q => (Store.get t q.1).isSome) = true → L.bl.all (fun q => (Store.get t q.1).isSome && Nat.beq (Ev.pi [] q.1) q.1) = true := by
    intro t ht
    rw [List.all_eq_true] at ht ⊢
    intro q hq
    simp only [Bool.and_eq_true]
    exact ⟨ht q hq, by simp [Ev.pi]⟩
  obtain ⟨m0, is0, bs0, hJ0, hi0, hb0⟩ := h0
  have hh := pre hi0 hb0
  have hr2 := hr1.goes (ρ' := ρ.on is0 bs0) es bs [] hf0 (al hHs) (by simp) hv0 (fun i e he => hh.1 i _ (by simp [dens, he])) (fun i e he => hh.2 i _ (by simp [bdens, he])) rfl rfl rfl rfl
  refine wpIn_loop_ind (fun m a w => ∃ is bs, J m is bs ∧ RelF P (ρ.on is bs) (L.bl.map fun p => (p.1, φ1 p.1)) D w1 φ1 L.bl H a w) ?_ (m := m0) ⟨_, _, hJ0, hr2⟩
  rintro m a w ⟨is, bs', hJ, hr⟩
  rcases hstep m is bs' hJ with ⟨is', bs'', m', js, cs, h1, hlt, hJ', hp1, hp2⟩ | ⟨is', bs'', h1, h2⟩
  · exact rt_go hmix hcp hHs T (ρ' := ρ.on js cs) (hX m is bs' hJ) (hC m is bs' hJ _) hT hr ⟨rfl, rfl, rfl, rfl⟩ h1 (pre hp1 hp2) (fun a' w' hr' => ⟨m', hlt, js, cs, hJ', hr'⟩)
  · refine rt_stop hmix hcp hLs T (ρ' := ρ) (hX m is bs' hJ) (hC m is bs' hJ _) hT hr ⟨rfl, rfl, rfl, rfl⟩ h1 h2 (fun a' w' hr' => ?_)
    have := hQ1 a' w' hr'
    cases hex : L.ex with
    | normal => rw [hex] at hne; cases hne
    | pan v => rw [hex] at hne; cases hne
    | exit i => rw [hex] at this; exact this
    | ret => rw [hex] at this; exact this
/-- the same; what is known, and the round's tree, may be other ones where the loop is left -/
theorem rt_lpg2 {P : Program} (hmix : P.follows .mixedOrders = true) {L : LoopSum} {n : Nat} {f : FuncId} {p : List Nat} {u : Nat} {H : St} {T T2 : RT} {X X2 : Ctx} {es : List IE} {bs : List BE} (hB : lpB P X n f p u L H T es bs = true) (hB2 : lpB P X2 n f p u L H T2 es bs = true) {c : Code} (hc : codeAt P f p = .loop c) {ρ : Env} {E : List (Nat × Nat)}
    (J : Nat → List Int → List Bool → Prop) (h0 : ∃ m is bs', J m is bs' ∧ dens ρ es <+: is ∧ bdens ρ bs <+: bs')
    (hstep : ∀ m is bs, J m is bs → (Knows (ρ.on is bs) X ∧ (∀ E, KnowsC P (ρ.on is bs) E X) ∧ ∃ is' bs' m' js cs, T.next (ρ.on is bs) = some (is', bs') ∧ m' < m ∧ J m' js cs ∧ is' <+: js ∧ bs' <+: cs) ∨ (Knows (ρ.on is bs) X2 ∧ (∀ E, KnowsC P (ρ.on is bs) E X2) ∧ ∃ is' bs', T2.out (ρ.on is bs) = some (is', bs') ∧ ρ.has is' bs'))
    : LoopGoes P ρ E L c := by
  simp only [lpB, Bool.and_eq_true] at hB hB2
  obtain ⟨⟨⟨⟨⟨⟨_, _⟩, _⟩, hT2⟩, _⟩, _⟩, _⟩ := hB2
  obtain ⟨⟨⟨⟨⟨⟨hown, hHs⟩, hLs⟩, hT⟩, hf0⟩, hv0⟩, hne⟩ := hB
  have hcp : codeAt P f (0 :: p) = c := by simp only [codeAt, hc, child]
  have pre : ∀ {is js : List Int} {bs cs : List Bool}, is <+: js → bs <+: cs → (ρ.on js cs).has is bs := by
    rintro is _ bs _ ⟨r, rfl⟩ ⟨s, rfl⟩
    exact Env.has_left (ρ.on_has (is ++ r) (bs ++ s))
  refine lp_frame hown (fun w1 φ1 a D hr1 Q hQ1 => ?_)
  have al : ∀ {t : Store}, L.bl.all (fun q => (Store.get t q.1).isSome) = true → L.bl.all (fun q => (Store.get t q.1).isSome && Nat.beq (Ev.pi [] q.1) q.1) = true := by
    intro t ht
    rw [List.all_eq_true] at ht ⊢
    intro q hq
    simp only [Bool.and_eq_true]
    exact ⟨ht q hq, by simp [Ev.pi]⟩
  obtain ⟨m0, is0, bs0, hJ0, hi0, hb0⟩ := h0
  have hh := pre hi0 hb0
  have hr2 := hr1.goes (ρ' := ρ.on is0 bs0) es bs [] hf0 (al hHs) (by simp) hv0 (fun i e he => hh.1 i _ (by simp [dens, he])) (fun i e he => hh.2 i _ (by simp [bdens, he])) rfl rfl rfl rfl
  refine wpIn_loop_ind (fun m a w => ∃ is bs, J m is bs ∧ RelF P (ρ.on is bs) (L.bl.map fun p => (p.1, φ1 p.1)) D w1 φ1 L.bl H a w) ?_ (m := m0) ⟨_, _, hJ0, hr2⟩
  rintro m a w ⟨is, bs', hJ, hr⟩
  rcases hstep m is bs' hJ with ⟨hX, hC, is', bs'', m', js, cs, h1, hlt, hJ', hp1, hp2⟩ | ⟨hX, hC, is', bs'', h1, h2⟩
  · exact rt_go hmix hcp hHs T (ρ' := ρ.on js cs) hX (hC _) hT hr ⟨rfl, rfl, rfl, rfl⟩ h1 (pre hp1 hp2) (fun a' w' hr' => ⟨m', hlt, js, cs, hJ', hr'⟩)
  · refine rt_stop hmix hcp hLs T2 (ρ' := ρ) hX (hC _) hT2 hr ⟨rfl, rfl, rfl, rfl⟩ h1 h2 (fun a' w' hr' => ?_)
    have := hQ1 a' w' hr'
    cases hex : L.ex with
    | normal => rw [hex] at hne; cases hne
    | pan v => rw [hex] at hne; cases hne
    | exit i => rw [hex] at this; exact this
    | ret => rw [hex] at this; exact this
/-- each path of the round is what the evaluator comes to (one theorem a path, if it is a great one) -/
def RT.Ok (P : Program) (X : Ctx) (n : Nat) (f : FuncId) (p : List Nat) (u : Nat) (H : St) (ex : Ex) (O : St) : RT → Prop
  | .dead => True
  | .go es bs => RT.check P X n f p u H ex O (.go es bs) = true
  | .stop es bs => RT.check P X n f p u H ex O (.stop es bs) = true
  | .node b t e => t.Ok P { X with pc := (b, true) :: X.pc } n f p u H ex O ∧ e.Ok P { X with pc := (b, false) :: X.pc } n f p u H ex O
theorem RT.check_ok {P : Program} {n : Nat} {f : FuncId} {p : List Nat} {u : Nat} {H : St} {ex : Ex} {O : St} : ∀ {T : RT} {X : Ctx}, T.Ok P X n f p u H ex O → T.check P X n f p u H ex O = true
  | .dead, X, _ => rfl
  | .go es bs, X, h => h
  | .stop es bs, X, h => h
  | .node b t e, X, h => by
    simp only [RT.check, Bool.and_eq_true]
    exact ⟨RT.check_ok h.1, RT.check_ok h.2⟩
/-- all of a loop's sum but its rounds -/
def lpB0 (L : LoopSum) (H : St) (es : List IE) (bs : List BE) : Bool :=
  L.own && (L.bl.all (fun q => (Store.get H.st q.1).isSome)) && (L.bl.all (fun q => (Store.get L.bl' q.1).isSome)) && fitsB es bs [] ⟨L.tm, L.bl⟩ H && H.vb es.length bs.length && (match L.ex with | .normal => false | .pan _ => false | _ => true)
theorem lpB_of {P : Program} {X : Ctx} {n : Nat} {f : FuncId} {p : List Nat} {u : Nat} {L : LoopSum} {H : St} {T : RT} {es : List IE} {bs : List BE} (h0 : lpB0 L H es bs = true) (hT : T.Ok P X n f (0 :: p) u H L.ex ⟨L.tm', L.bl'⟩) : lpB P X n f p u L H T es bs = true := by
  simp only [lpB0, Bool.and_eq_true] at h0
  obtain ⟨⟨⟨⟨⟨h1, h2⟩, h3⟩, h4⟩, h5⟩, h6⟩ := h0
  simp only [lpB, Bool.and_eq_true]
  exact ⟨⟨⟨⟨⟨⟨h1, h2⟩, h3⟩, RT.check_ok hT⟩, h4⟩, h5⟩, h6⟩
end Ev
end Go.Proofs.Ytlbjcbcaaiggdaa
