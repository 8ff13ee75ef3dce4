/- A checked evaluator: a loop by its rounds, each told by the numbers and bools that are there behind it. -/
import Derived.Test.YthhipnhnpjhaaaaEvP
namespace Go.Proofs.Ythhipnhnpjhaaaa
open Go Go.RowKit
set_option linter.unusedVariables false
namespace Ev
variable {P : Program} {ρ ρ' : Env} {E : List (Nat × Nat)} {D : List Deferred} {w0 : World} {φ φ0 : Nat → Nat} {st st0 : Store} {w : World}

/-- a round, path by path: what the head's variables are next; or what the law's variables are, where the loop is left -/
inductive RT where
  | dead
  | go (es : List IE) (bs : List BE)
  | stop (es : List IE) (bs : List BE)
  | node (c : BE) (t f : RT)
def RT.check (P : Program) (X : Ctx) (n : Nat) (f : FuncId) (p : List Nat) (u : Nat) (H : St) (ex : Ex) (O : St) : RT → Bool
  | .dead => true
  | .go es bs =>
    (match runC P X n f p u 0 H with
     | .ok (.normal, s') => fitsB es bs [] s' H
     | _ => false) && H.vb es.length bs.length
  | .stop es bs =>
    (match runC P X n f p u 0 H with
     | .ok (e', s') => exBeq e' ex && fitsB es bs [] s' O
     | _ => false) && O.vb es.length bs.length
  | .node b t e => t.check P { X with pc := (b, true) :: X.pc } n f p u H ex O && e.check P { X with pc := (b, false) :: X.pc } n f p u H ex O
def dens (ρ : Env) (es : List IE) : List Int := es.map (IE.den ρ)
def bdens (ρ : Env) (bs : List BE) : List Bool := bs.map (BE.den ρ)
/-- what is there behind the round, if it goes on -/
def RT.next (ρ : Env) : RT → Option (List Int × List Bool)
  | .go es bs => some (dens ρ es, bdens ρ bs)
  | .node c t f => cond (c.den ρ) (t.next ρ) (f.next ρ)
  | _ => none
/-- what is there where the loop is left -/
def RT.out (ρ : Env) : RT → Option (List Int × List Bool)
  | .stop es bs => some (dens ρ es, bdens ρ bs)
  | .node c t f => cond (c.den ρ) (t.out ρ) (f.out ρ)
  | _ => none
/-- an environment has these numbers and bools, from the first one on -/
def Env.has (ρ : Env) (is : List Int) (bs : List Bool) : Prop := (∀ i x, is[i]? = some x → ρ.i i = x) ∧ (∀ i x, bs[i]? = some x → ρ.b i = x)
theorem envOf_has (is : List Int) (bs : List Bool) (fs : List Nat) (ss : List ByteArray) (ap : Nat → Int → Int → Int → Int) (xs : List (Option Ext)) : (envOf is bs fs ss ap xs).has is bs :=
  ⟨fun i x h => by show is.getD i 0 = x; rw [List.getD_eq_getElem?_getD, h]; rfl, fun i x h => by show bs.getD i false = x; rw [List.getD_eq_getElem?_getD, h]; rfl⟩
theorem Env.has_left {is js : List Int} {bs cs : List Bool} (h : ρ.has (is ++ js) (bs ++ cs)) : ρ.has is bs :=
  ⟨fun i x hx => h.1 i x (by rw [List.getElem?_append_left (List.getElem?_eq_some_iff.1 hx).1]; exact hx), fun i x hx => h.2 i x (by rw [List.getElem?_append_left (List.getElem?_eq_some_iff.1 hx).1]; exact hx)⟩
theorem rt_go (hmix : P.follows .mixedOrders = true) {n : Nat} {f : FuncId} {p : List Nat} {c : Code} (hcp : codeAt P f p = c) {u : Nat} {H O : St} {ex : Ex} (hst : st0.all (fun q => (Store.get H.st q.1).isSome) = true) :
    ∀ (T : RT) {X : Ctx}, Knows ρ X → KnowsC P ρ E X → T.check P X n f p u H ex O = true → ∀ {a : Act} {w : World}, RelF P ρ E D w0 φ0 st0 H a w → ρ.like ρ' → ∀ {is bs}, T.next ρ = some (is, bs) → ρ'.has is bs →
    ∀ {Q : Exit → Act → World → Prop}, (∀ a' w', RelF P ρ' E D w0 φ0 st0 H a' w' → Q .normal a' w') → c.wpIn (FW none) 0 P Q a w
  | .dead, X, hX, hC, h, a, w, hr, hl, is, bs, hg, hh, Q, hQ => by cases hg
  | .stop _ _, X, hX, hC, h, a, w, hr, hl, is, bs, hg, hh, Q, hQ => by cases hg
  | .go es bs, X, hX, hC, h, a, w, hr, hl, is, bs', hg, hh, Q, hQ => by
    cases hg
    simp only [RT.check, Bool.and_eq_true] at h
    obtain ⟨h1, h3⟩ := h
    unfold runC at h1
    split at h1
    · rename_i s' hs'
      split at hs'
      · rename_i h4
        cases hs'
        refine (ev_sound hmix hX hC n).1 _ _ _ none _ _ _ .normal _ _ _ _ hcp (by rw [← hcp]; exact h4) D w0 φ0 st0 a w none rfl hr Q (fun a' w' x hr' => ?_)
        have hF := hr'.relF
        obtain ⟨_, _, _, hx⟩ := hr'
        obtain rfl : x = .normal := hx
        refine hQ a' w' ?_
        exact hF.goes es bs [] h1 (by
          rw [List.all_eq_true] at hst ⊢
          intro q hq
          have := hst q hq
          simp only [Bool.and_eq_true]
          exact ⟨this, by simp [pi]⟩) (by simp) h3 (fun i e he => hh.1 i _ (by simp [dens, he])) (fun i e he => hh.2 i _ (by simp [bdens, he])) hl.a hl.f hl.s hl.x
      · cases hs'
    · cases h1
  | .node b t e, X, hX, hC, h, a, w, hr, hl, is, bs, hg, hh, Q, hQ => by
    simp only [RT.check, Bool.and_eq_true] at h
    simp only [RT.next] at hg
    cases hb : b.den ρ with
    | true => rw [hb] at hg; exact rt_go hmix hcp hst t (X := { X with pc := (b, true) :: X.pc }) (hX.more hb) hC.more h.1 hr hl hg hh hQ
    | false => rw [hb] at hg; exact rt_go hmix hcp hst e (X := { X with pc := (b, false) :: X.pc }) (hX.more hb) hC.more h.2 hr hl hg hh hQ
theorem rt_stop (hmix : P.follows .mixedOrders = true) {n : Nat} {f : FuncId} {p : List Nat} {c : Code} (hcp : codeAt P f p = c) {u : Nat} {H O : St} {ex : Ex} (hst : st0.all (fun q => (Store.get O.st q.1).isSome) = true) :
    ∀ (T : RT) {X : Ctx}, Knows ρ X → KnowsC P ρ E X → T.check P X n f p u H ex O = true → ∀ {a : Act} {w : World}, RelF P ρ E D w0 φ0 st0 H a w → ρ.like ρ' → ∀ {is bs}, T.out ρ = some (is, bs) → ρ'.has is bs →
    ∀ {Q : Exit → Act → World → Prop}, (∀ a' w', RelF P ρ' E D w0 φ0 st0 O a' w' → Q ex.to a' w') → c.wpIn (FW none) 0 P Q a w
  | .dead, X, hX, hC, h, a, w, hr, hl, is, bs, hg, hh, Q, hQ => by cases hg
  | .go _ _, X, hX, hC, h, a, w, hr, hl, is, bs, hg, hh, Q, hQ => by cases hg
  | .stop es bs, X, hX, hC, h, a, w, hr, hl, is, bs', hg, hh, Q, hQ => by
    cases hg
    simp only [RT.check, Bool.and_eq_true] at h
    obtain ⟨h1, h3⟩ := h
    unfold runC at h1
    split at h1
    · rename_i e' s' hs'
      split at hs'
      · rename_i h4
        cases hs'
        simp only [Bool.and_eq_true] at h1
        have he := exBeq_eq h1.1
        subst he
        refine (ev_sound hmix hX hC n).1 _ _ _ none _ _ _ _ _ _ _ _ hcp (by rw [← hcp]; exact h4) D w0 φ0 st0 a w none rfl hr Q (fun a' w' x hr' => ?_)
        have hF := hr'.relF
        obtain ⟨_, _, _, hx⟩ := hr'
        have hx : x = e'.to := by
          cases e' with
          | pan v => simp [exBeq] at h1
          | _ => exact hx
        subst hx
        refine hQ a' w' ?_
        exact hF.goes es bs [] h1.2 (by
          rw [List.all_eq_true] at hst ⊢
          intro q hq
          have := hst q hq
          simp only [Bool.and_eq_true]
          exact ⟨this, by simp [pi]⟩) (by simp) h3 (fun i e he => hh.1 i _ (by simp [dens, he])) (fun i e he => hh.2 i _ (by simp [bdens, he])) hl.a hl.f hl.s hl.x
      · cases hs'
    · cases h1
  | .node b t e, X, hX, hC, h, a, w, hr, hl, is, bs, hg, hh, Q, hQ => by
    simp only [RT.check, Bool.and_eq_true] at h
    simp only [RT.out] at hg
    cases hb : b.den ρ with
    | true => rw [hb] at hg; exact rt_stop hmix hcp hst t (X := { X with pc := (b, true) :: X.pc }) (hX.more hb) hC.more h.1 hr hl hg hh hQ
    | false => rw [hb] at hg; exact rt_stop hmix hcp hst e (X := { X with pc := (b, false) :: X.pc }) (hX.more hb) hC.more h.2 hr hl hg hh hQ
/-- what a loop's sum must be, as the kernel reckons it: entry, rounds, way out -/
def lpB (P : Program) (X : Ctx) (n : Nat) (f : FuncId) (p : List Nat) (u : Nat) (L : LoopSum) (H : St) (T : RT) (es : List IE) (bs : List BE) : Bool :=
  L.own && (L.bl.all (fun q => (Store.get H.st q.1).isSome)) && (L.bl.all (fun q => (Store.get L.bl' q.1).isSome)) && T.check P X n f (0 :: p) u H L.ex ⟨L.tm', L.bl'⟩
  && fitsB es bs [] ⟨L.tm, L.bl⟩ H && H.vb es.length bs.length && (match L.ex with | .normal => false | .pan _ => false | _ => true)
/-- another environment, with other numbers and bools alone -/
def Env.on (ρ : Env) (is : List Int) (bs : List Bool) : Env := { ρ with i := fun n => is.getD n 0, b := fun n => bs.getD n false }
theorem Env.on_has (ρ : Env) (is : List Int) (bs : List Bool) : (ρ.on is bs).has is bs :=
  ⟨fun i x h => by show is.getD i 0 = x; rw [List.getD_eq_getElem?_getD, h]; rfl, fun i x h => by show bs.getD i false = x; rw [List.getD_eq_getElem?_getD, h]; rfl⟩
theorem Env.on_like (ρ : Env) (is : List Int) (bs : List Bool) : ρ.like (ρ.on is bs) := ⟨rfl, rfl, rfl, rfl⟩
/-- a loop's sum by what holds at its head: of the numbers and bools that are there, and a measure that gets less -/
theorem rt_lp (hmix : P.follows .mixedOrders = true) {L : LoopSum} {n : Nat} {f : FuncId} {p : List Nat} {u : Nat} {H : St} {T : RT} {X : Ctx} {es : List IE} {bs : List BE} (hB : lpB P X n f p u L H T es bs = true) {c : Code} (hc : codeAt P f p = .loop c)
    (J : Nat → List Int → List Bool → Prop) (hX : ∀ m is bs, J m is bs → Knows (ρ.on is bs) X) (hC : ∀ m is bs, J m is bs → ∀ E, KnowsC P (ρ.on is bs) E X)
    (h0 : ∃ m, J m (dens ρ es) (bdens ρ bs)) (hstep : ∀ m is bs, J m is bs → (∃ is' bs' m', T.next (ρ.on is bs) = some (is', bs') ∧ m' < m ∧ J m' is' bs') ∨ (∃ is' bs', T.out (ρ.on is bs) = some (is', bs') ∧ ρ.has is' bs'))
    : LoopGoes P ρ E L c := by
  simp only [lpB, Bool.and_eq_true] at hB
  obtain ⟨⟨⟨⟨⟨⟨hown, hHs⟩, hLs⟩, hT⟩, hf0⟩, hv0⟩, hne⟩ := hB
  have hcp : codeAt P f (0 :: p) = c := by simp only [codeAt, hc, child]
  refine lp_frame hown (fun w1 φ1 a D hr1 Q hQ1 => ?_)
  have al : ∀ {t : Store}, L.bl.all (fun q => (Store.get t q.1).isSome) = true → L.bl.all (fun q => (Store.get t q.1).isSome && Nat.beq (pi [] q.1) q.1) = true := by
    intro t ht
    rw [List.all_eq_true] at ht ⊢
    intro q hq
    simp only [Bool.and_eq_true]
    exact ⟨ht q hq, by simp [pi]⟩
  obtain ⟨m0, hJ0⟩ := h0
  have hh := ρ.on_has (dens ρ es) (bdens ρ bs)
  have hr2 := hr1.goes (ρ' := ρ.on (dens ρ es) (bdens ρ bs)) es bs [] hf0 (al hHs) (by simp) hv0 (fun i e he => hh.1 i _ (by simp [dens, he])) (fun i e he => hh.2 i _ (by simp [bdens, he])) rfl rfl rfl rfl
  refine wpIn_loop_ind (fun m a w => ∃ is bs, J m is bs ∧ RelF P (ρ.on is bs) (L.bl.map fun p => (p.1, φ1 p.1)) D w1 φ1 L.bl H a w) ?_ (m := m0) ⟨_, _, hJ0, hr2⟩
  rintro m a w ⟨is, bs', hJ, hr⟩
  rcases hstep m is bs' hJ with ⟨is', bs'', m', h1, hlt, hJ'⟩ | ⟨is', bs'', h1, h2⟩
  · exact rt_go hmix hcp hHs T (ρ' := ρ.on is' bs'') (hX m is bs' hJ) (hC m is bs' hJ _) hT hr ⟨rfl, rfl, rfl, rfl⟩ h1 (ρ.on_has is' bs'') (fun a' w' hr' => ⟨m', hlt, is', bs'', hJ', hr'⟩)
  · refine rt_stop hmix hcp hLs T (ρ' := ρ) (hX m is bs' hJ) (hC m is bs' hJ _) hT hr ⟨rfl, rfl, rfl, rfl⟩ h1 h2 (fun a' w' hr' => ?_)
    have := hQ1 a' w' hr'
    cases hex : L.ex with
    | normal => rw [hex] at hne; cases hne
    | pan v => rw [hex] at hne; cases hne
    | exit i => rw [hex] at this; exact this
    | ret => rw [hex] at this; exact this
theorem has_of {is : List Int} {bs : List Bool} (hi : ∀ i x, is[i]? = some x → ρ.i i = x) (hb : bs = []) : ρ.has is bs := ⟨hi, fun i x h => by rw [hb] at h; simp at h⟩
/-- an environment out of lists has what stands ahead in them -/
theorem envOf_has_pre {is js : List Int} {bs cs : List Bool} {fs : List Nat} {ss : List ByteArray} {ap : Nat → Int → Int → Int → Int} {xs : List (Option Ext)} (hi : is <+: js) (hb : bs <+: cs) : (envOf js cs fs ss ap xs).has is bs := by
  obtain ⟨r, rfl⟩ := hi
  obtain ⟨s, rfl⟩ := hb
  exact Env.has_left (envOf_has (is ++ r) (bs ++ s) fs ss ap xs)
end Ev
end Go.Proofs.Ythhipnhnpjhaaaa
