/- A checked evaluator: a loop by its rounds, each told by an environment of its own. -/
import Derived.Test.YthhipnhnpjhaaaaEvO
namespace Go.Proofs.Ythhipnhnpjhaaaa
open Go Go.RowKit
set_option linter.unusedVariables false
namespace Ev
variable {P : Program} {ρ ρ' : Env} {E : List (Nat × Nat)} {w0 : World} {φ φ0 : Nat → Nat} {st st0 : Store} {w : World}

/-- a round, path by path: it goes on, with what the head's variables are then; or the loop is left -/
inductive LT where
  | dead
  | go (s : St) (es : List IE) (bs : List BE)
  | stop (e : Ex) (s : St)
  | node (c : BE) (t f : LT)
def exBeq : Ex → Ex → Bool
  | .normal, .normal => true
  | .exit a, .exit b => Nat.beq a b
  | .ret, .ret => true
  | _, _ => false
theorem exBeq_eq {x y : Ex} (h : exBeq x y = true) : x = y := by
  cases x <;> cases y <;> simp_all [exBeq]
def stBeq : Store → Store → Bool
  | [], [] => true
  | (b, B) :: s, (c, C) :: t => Nat.beq b c && blkBeq B C && stBeq s t
  | _, _ => false
theorem blkBeq_eq {B C : Blk} (h : blkBeq B C = true) : B = C := by
  obtain ⟨a, b⟩ := B; obtain ⟨c, d⟩ := C
  simp only [blkBeq, Bool.and_eq_true, Nat.beq_eq] at h
  rw [h.1, SV.beqL_eq h.2]
theorem stBeq_eq : ∀ {s t : Store}, stBeq s t = true → s = t
  | [], [], _ => rfl
  | [], _ :: _, h => by simp [stBeq] at h
  | _ :: _, [], h => by simp [stBeq] at h
  | (b, B) :: s, (c, C) :: t, h => by
    simp only [stBeq, Bool.and_eq_true, Nat.beq_eq] at h
    rw [h.1.1, blkBeq_eq h.1.2, stBeq_eq h.2]
def stSame (s t : St) : Bool := tmBeq s.tm t.tm && stBeq s.st t.st
theorem RelF.weak {s t : St} {a : Act} (h : stSame s t = true) (hr : RelF ρ E w0 φ0 st0 s a w) : RelF ρ E w0 φ0 st0 t a w := by
  simp only [stSame, Bool.and_eq_true] at h
  obtain ⟨h1, h2⟩ := tmBeq_spec h.1
  have h3 := stBeq_eq h.2
  obtain ⟨tm, st⟩ := t
  simp only at h1 h2 h3
  subst h3
  obtain ⟨φ, hs, ht⟩ := hr
  refine ⟨φ, hs, ⟨by rw [ht.len, h1], ht.df, fun i v hv => ?_, fun i v hv c hc => ?_⟩⟩
  · rcases h2 i v hv with h4 | h4
    · exact .inl h4
    · exact ht.tm i v h4
  · rcases h2 i v hv with h4 | h4
    · subst h4; simp [SV.ids] at hc
    · exact ht.cl i v h4 c hc
/-- the rounds are what the evaluator comes to, and go on with the head's state -/
def LT.check (P : Program) (X : Ctx) (n : Nat) (f : FuncId) (p : List Nat) (u : Nat) (H : St) : LT → Bool
  | .dead => true
  | .go s es bs =>
    (match runC P X n f p u 0 H with
     | .ok (.normal, s') => stSame s' s
     | _ => false) && fitsB es bs [] s H && H.vb es.length bs.length
  | .stop e s =>
    match runC P X n f p u 0 H with
    | .ok (e', s') => exBeq e' e && stSame s' s
    | _ => false
  | .node b t e => t.check P { X with pc := (b, true) :: X.pc } n f p u H && e.check P { X with pc := (b, false) :: X.pc } n f p u H
/-- the round goes on, and the next environment has what is wanted -/
def LT.goes (ρ ρ' : Env) : LT → Prop
  | .dead => False
  | .go _ es bs => (∀ i e, es[i]? = some e → ρ'.i i = e.den ρ) ∧ (∀ i e, bs[i]? = some e → ρ'.b i = e.den ρ)
  | .stop _ _ => False
  | .node c t f => if c.den ρ = true then t.goes ρ ρ' else f.goes ρ ρ'
def LT.stops (ρ : Env) : LT → Option (Ex × St)
  | .dead => none
  | .go _ _ _ => none
  | .stop e s => some (e, s)
  | .node c t f => cond (c.den ρ) (t.stops ρ) (f.stops ρ)
/-- they differ in numbers and bools alone -/
structure Env.like (ρ ρ' : Env) : Prop where
  a : ρ'.a = ρ.a
  f : ρ'.f = ρ.f
  s : ρ'.s = ρ.s
  x : ρ'.x = ρ.x
theorem lt_go (hmix : P.follows .mixedOrders = true) {n : Nat} {f : FuncId} {p : List Nat} {c : Code} (hcp : codeAt P f p = c) {u : Nat} {H : St} (hst : st0.all (fun q => (Store.get H.st q.1).isSome) = true) :
    ∀ (T : LT) {X : Ctx}, Knows ρ X → KnowsC P ρ E X → T.check P X n f p u H = true → ∀ {a : Act} {w : World}, RelF ρ E w0 φ0 st0 H a w → ρ.like ρ' → T.goes ρ ρ' →
    ∀ {Q : Exit → Act → World → Prop}, (∀ a' w', RelF ρ' E w0 φ0 st0 H a' w' → Q .normal a' w') → c.wp P Q a w
  | .dead, X, hX, hC, h, a, w, hr, hl, hg, Q, hQ => by cases hg
  | .stop _ _, X, hX, hC, h, a, w, hr, hl, hg, Q, hQ => by cases hg
  | .go s es bs, X, hX, hC, h, a, w, hr, hl, hg, Q, hQ => by
    simp only [LT.check, Bool.and_eq_true] at h
    obtain ⟨⟨h1, h2⟩, h3⟩ := h
    unfold runC at h1
    split at h1
    · rename_i s' hs'
      split at hs'
      · rename_i h4
        cases hs'
        refine (ev_sound hmix hX hC n).1 _ _ _ _ _ _ .normal _ _ _ _ hcp (by rw [← hcp]; exact h4) w0 φ0 st0 a w hr Q (fun a' w' hr' => hQ a' w' ?_)
        exact (hr'.weak h1).goes es bs [] h2 (by
          rw [List.all_eq_true] at hst ⊢
          intro q hq
          have := hst q hq
          simp only [Bool.and_eq_true]
          exact ⟨this, by simp [pi]⟩) (by simp) h3 hg.1 hg.2 hl.a hl.f hl.s hl.x
      · cases hs'
    · cases h1
  | .node b t e, X, hX, hC, h, a, w, hr, hl, hg, Q, hQ => by
    simp only [LT.check, Bool.and_eq_true] at h
    simp only [LT.goes] at hg
    cases hb : b.den ρ with
    | true => rw [if_pos hb] at hg; exact lt_go hmix hcp hst t (X := { X with pc := (b, true) :: X.pc }) (hX.more hb) hC.more h.1 hr hl hg hQ
    | false => rw [if_neg (by simp [hb])] at hg; exact lt_go hmix hcp hst e (X := { X with pc := (b, false) :: X.pc }) (hX.more hb) hC.more h.2 hr hl hg hQ
theorem lt_stop (hmix : P.follows .mixedOrders = true) {n : Nat} {f : FuncId} {p : List Nat} {c : Code} (hcp : codeAt P f p = c) {u : Nat} {H : St} :
    ∀ (T : LT) {X : Ctx}, Knows ρ X → KnowsC P ρ E X → T.check P X n f p u H = true → ∀ {a : Act} {w : World}, RelF ρ E w0 φ0 st0 H a w → ∀ {e : Ex} {s : St}, T.stops ρ = some (e, s) →
    ∀ {Q : Exit → Act → World → Prop}, (∀ a' w', RelF ρ E w0 φ0 st0 s a' w' → Q e.to a' w') → c.wp P Q a w
  | .dead, X, hX, hC, h, a, w, hr, e, s, hg, Q, hQ => by cases hg
  | .go _ _ _, X, hX, hC, h, a, w, hr, e, s, hg, Q, hQ => by cases hg
  | .stop e0 s0, X, hX, hC, h, a, w, hr, e, s, hg, Q, hQ => by
    cases hg
    simp only [LT.check] at h
    unfold runC at h
    split at h
    · rename_i e' s' hs'
      split at hs'
      · rename_i h4
        cases hs'
        simp only [Bool.and_eq_true] at h
        have he := exBeq_eq h.1
        subst he
        exact (ev_sound hmix hX hC n).1 _ _ _ _ _ _ _ _ _ _ _ hcp (by rw [← hcp]; exact h4) w0 φ0 st0 a w hr Q (fun a' w' hr' => hQ a' w' (hr'.weak h.2))
      · cases hs'
    · cases h
  | .node b t e', X, hX, hC, h, a, w, hr, e, s, hg, Q, hQ => by
    simp only [LT.check, Bool.and_eq_true] at h
    simp only [LT.stops] at hg
    cases hb : b.den ρ with
    | true => rw [hb] at hg; exact lt_stop hmix hcp t (X := { X with pc := (b, true) :: X.pc }) (hX.more hb) hC.more h.1 hr hg hQ
    | false => rw [hb] at hg; exact lt_stop hmix hcp e' (X := { X with pc := (b, false) :: X.pc }) (hX.more hb) hC.more h.2 hr hg hQ
/-- a loop, by the environments of its rounds -/
theorem loop_go (hmix : P.follows .mixedOrders = true) {n : Nat} {f : FuncId} {p : List Nat} {c : Code} (hcp : codeAt P f (0 :: p) = c) {u : Nat} {H : St} (hst : st0.all (fun q => (Store.get H.st q.1).isSome) = true) (T : LT) {X : Ctx} (hT : T.check P X n f (0 :: p) u H = true)
    (S : Nat → Env) (N : Nat) (hX : ∀ k, k ≤ N → Knows (S k) X) (hC : ∀ k, k ≤ N → KnowsC P (S k) E X) (hl : ∀ k, k < N → (S k).like (S (k + 1))) (hgo : ∀ k, k < N → T.goes (S k) (S (k + 1))) {e : Ex} {s : St} (hstop : T.stops (S N) = some (e, s)) (hne : e ≠ .normal)
    {a : Act} (hr : RelF (S 0) E w0 φ0 st0 H a w) {Q : Exit → Act → World → Prop} (hQ : ∀ a' w', RelF (S N) E w0 φ0 st0 s a' w' → Q e.to a' w') : (Code.loop c).wp P Q a w := by
  refine wp_loop_ind (fun m a w => ∃ k, k ≤ N ∧ m = N - k ∧ RelF (S k) E w0 φ0 st0 H a w) ?_ (m := N) ⟨0, by omega, by omega, hr⟩
  rintro m a w ⟨k, hk, rfl, hr⟩
  by_cases hlt : k < N
  · exact lt_go hmix hcp hst T (hX k hk) (hC k hk) hT hr (hl k hlt) (hgo k hlt) (fun a' w' hr' => ⟨N - (k + 1), by omega, k + 1, by omega, rfl, hr'⟩)
  · obtain rfl : k = N := by omega
    refine lt_stop hmix hcp T (hX k hk) (hC k hk) hT hr hstop (fun a' w' hr' => ?_)
    have := hQ a' w' hr'
    cases e with
    | normal => exact absurd rfl hne
    | exit i => exact this
    | ret => exact this
/-- a loop's sum by its rounds -/
theorem lp_go (hmix : P.follows .mixedOrders = true) {L : LoopSum} (hown : L.own = true) {n : Nat} {f : FuncId} {p : List Nat} {c : Code} (hc : codeAt P f p = .loop c) {u : Nat} {H : St} (hHs : L.bl.all (fun q => (Store.get H.st q.1).isSome) = true) (hLs : L.bl.all (fun q => (Store.get L.bl' q.1).isSome) = true) (T : LT) {X : Ctx} (hT : T.check P X n f (0 :: p) u H = true)
    (S : Nat → Env) (N : Nat) (hX : ∀ k, k ≤ N → Knows (S k) X) (hC : ∀ k E, k ≤ N → KnowsC P (S k) E X) (hl : ∀ k, k ≤ N → ρ.like (S k)) (hgo : ∀ k, k < N → T.goes (S k) (S (k + 1))) {s : St} (hstop : T.stops (S N) = some (L.ex, s)) (hne : L.ex ≠ .normal)
    (es : List IE) (bs : List BE) (h0 : fitsB es bs [] ⟨L.tm, L.bl⟩ H = true) (hv0 : H.vb es.length bs.length = true) (hi0 : ∀ i e, es[i]? = some e → (S 0).i i = e.den ρ) (hb0 : ∀ i e, bs[i]? = some e → (S 0).b i = e.den ρ)
    (es' : List IE) (bs' : List BE) (h1 : fitsB es' bs' [] s ⟨L.tm', L.bl'⟩ = true) (hv1 : St.vb es'.length bs'.length ⟨L.tm', L.bl'⟩ = true) (hi1 : ∀ i e, es'[i]? = some e → ρ.i i = e.den (S N)) (hb1 : ∀ i e, bs'[i]? = some e → ρ.b i = e.den (S N))
    {st : Store} (hbl : ∀ q ∈ L.bl, Store.get st q.1 = some q.2) {a : Act} (hr : RelF ρ E w0 φ0 st0 ⟨L.tm, st⟩ a w) {Q : Exit → Act → World → Prop} (hQ : ∀ a' w', RelF ρ E w0 φ0 st0 ⟨L.tm', setAll st L.bl'⟩ a' w' → Q L.ex.to a' w') : (Code.loop c).wp P Q a w := by
  have hcp : codeAt P f (0 :: p) = c := by simp only [codeAt, hc, child]
  refine lp_frame hown (fun w1 φ1 a hr1 Q hQ1 => ?_) hbl hr hQ
  have al : ∀ {t : Store}, L.bl.all (fun q => (Store.get t q.1).isSome) = true → L.bl.all (fun q => (Store.get t q.1).isSome && Nat.beq (pi [] q.1) q.1) = true := by
    intro t ht
    rw [List.all_eq_true] at ht ⊢
    intro q hq
    simp only [Bool.and_eq_true]
    exact ⟨ht q hq, by simp [pi]⟩
  have l0 := hl 0 (by omega)
  have lN := hl N (by omega)
  have hr2 := hr1.goes es bs [] h0 (al hHs) (by simp) hv0 hi0 hb0 l0.a l0.f l0.s l0.x
  refine loop_go hmix hcp hHs T hT S N hX (fun k hk => hC k _ hk) (fun k hk => ?_) hgo hstop hne hr2 (fun a' w' hr' => hQ1 a' w' ?_)
  · have a1 := hl k (by omega)
    have a2 := hl (k + 1) (by omega)
    exact ⟨a2.a.trans a1.a.symm, a2.f.trans a1.f.symm, a2.s.trans a1.s.symm, a2.x.trans a1.x.symm⟩
  · exact hr'.goes es' bs' [] h1 (al hLs) (by simp) hv1 hi1 hb1 lN.a.symm lN.f.symm lN.s.symm lN.x.symm
end Ev
end Go.Proofs.Ythhipnhnpjhaaaa
