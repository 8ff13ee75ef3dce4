/- A checked evaluator: pieces of a function, and the heads of loops. -/
import Derived.Test.YtmgfnejiienghaaEvM
namespace Go.Proofs.Ytmgfnejiienghaa
open Go Go.RowKit
set_option linter.unusedVariables false
namespace Ev
variable {P : Program} {ρ : Env} {E : List (Nat × Nat)} {w0 : World} {φ φ0 : Nat → Nat} {st st0 : Store} {w : World}

/-- the piece of code at a place of a function -/
def runC (P : Program) (X : Ctx) (n : Nat) (f : FuncId) (p : List Nat) (u k : Nat) (s : St) : Except Err (Ex × St) :=
  match evCode P X n f p (codeAt P f p) u k s with
  | .ok (e, _) s' _ _ => .ok (e, s')
  | .err e => .error e
/-- a piece of code, path by path -/
inductive CT where
  | dead
  | leaf (e : Ex) (s : St)
  | node (c : BE) (t f : CT)
def CT.Ok (P : Program) (X : Ctx) (n : Nat) (f : FuncId) (p : List Nat) (u k : Nat) (s : St) : CT → Prop
  | .dead => True
  | .leaf e s' => runC P X n f p u k s = .ok (e, s')
  | .node b t e => t.Ok P { X with pc := (b, true) :: X.pc } n f p u k s ∧ e.Ok P { X with pc := (b, false) :: X.pc } n f p u k s
/-- where a piece comes to -/
def CT.at (ρ : Env) : CT → Option (Ex × St)
  | .dead => none
  | .leaf e s => some (e, s)
  | .node b t f => cond (b.den ρ) (t.at ρ) (f.at ρ)
theorem piece_sound (hmix : P.follows .mixedOrders = true) {n : Nat} {f : FuncId} {p : List Nat} {c : Code} (hcp : codeAt P f p = c) {u k : Nat} {s : St} : ∀ (T : CT) {X : Ctx}, Knows ρ X → KnowsC P ρ E X → T.Ok P X n f p u k s → ∀ {a : Act} {w : World}, RelF ρ E w0 φ0 st0 s a w →
    ∀ {Q : Exit → Act → World → Prop} {e : Ex} {s' : St}, T.at ρ = some (e, s') → (∀ a' w', RelF ρ E w0 φ0 st0 s' a' w' → Q e.to a' w') → c.wp P Q a w
  | .dead, X, hX, hC, h, a, w, hr, Q, e, s', hat, hQ => by cases hat
  | .leaf e0 s0, X, hX, hC, h, a, w, hr, Q, e, s', hat, hQ => by
    cases hat
    simp only [CT.Ok] at h
    unfold runC at h
    split at h
    · rename_i h1
      cases h
      exact (ev_sound hmix hX hC n).1 _ _ _ _ _ _ _ _ _ _ _ hcp (by rw [← hcp]; exact h1) w0 φ0 st0 a w hr Q hQ
    · cases h
  | .node b t e', X, hX, hC, h, a, w, hr, Q, e, s', hat, hQ => by
    simp only [CT.at] at hat
    cases hb : b.den ρ with
    | true => rw [hb] at hat; exact piece_sound hmix hcp t (X := { X with pc := (b, true) :: X.pc }) (hX.more hb) hC.more h.1 hr hat hQ
    | false => rw [hb] at hat; exact piece_sound hmix hcp e' (X := { X with pc := (b, false) :: X.pc }) (hX.more hb) hC.more h.2 hr hat hQ

/-! another environment for the same state -/
def IE.subst (es : List IE) : IE → IE
  | .lit n => .lit n
  | .var i => es.getD i (.lit 0)
  | .ar op k a b => .ar op k (a.subst es) (b.subst es)
  | .wr k a => .wr k (a.subst es)
  | .mn a b => .mn (a.subst es) (b.subst es)
  | .mx a b => .mx (a.subst es) (b.subst es)
  | .pl op a b => .pl op (a.subst es) (b.subst es)
  | .ap f a b c => .ap f (a.subst es) (b.subst es) (c.subst es)
  | .tab l i => .tab l (i.subst es)
def BE.subst (es : List IE) (bs : List BE) : BE → BE
  | .lit b => .lit b
  | .var i => bs.getD i (.lit false)
  | .cmp op a b => .cmp op (a.subst es) (b.subst es)
  | .not a => .not (a.subst es bs)
  | .and a b => .and (a.subst es bs) (b.subst es bs)
  | .eqb a b => .eqb (a.subst es bs) (b.subst es bs)
/-- the blocks' new names -/
def pi (ps : List (Nat × Nat)) (b : Nat) : Nat :=
  match ps with
  | [] => b
  | (c, d) :: ps => if Nat.beq c b then d else pi ps b
mutual
def SV.subst (es : List IE) (bs : List BE) (ps : List (Nat × Nat)) : SV → SV
  | .int k e => .int k (e.subst es)
  | .bool b => .bool (b.subst es bs)
  | .raw v => .raw v
  | .flt k n => .flt k n
  | .str n => .str n
  | .any => .any
  | .ptr b off => .ptr (pi ps b) off
  | .slice b off n c => .slice (pi ps b) off n c
  | .func f a c => .func f (SV.substL es bs ps a) (SV.substL es bs ps c)
  | .iface t v => .iface t (v.subst es bs ps)
  | .agg cs => .agg (SV.substL es bs ps cs)
  | .tuple cs => .tuple (SV.substL es bs ps cs)
  | .xs j => .xs j
  | .xp j e c => .xp j (e.subst es) c
def SV.substL (es : List IE) (bs : List BE) (ps : List (Nat × Nat)) : List SV → List SV
  | [] => []
  | v :: vs => v.subst es bs ps :: SV.substL es bs ps vs
end
/-- the environment behind the substitution -/
def Env.to (ρ : Env) (es : List IE) (bs : List BE) : Env :=
  { ρ with i := fun i => (es.getD i (.lit 0)).den ρ, b := fun i => (bs.getD i (.lit false)).den ρ }
theorem IE.subst_den (es : List IE) (bs : List BE) : ∀ e : IE, (e.subst es).den ρ = e.den (ρ.to es bs)
  | .lit n => rfl
  | .var i => rfl
  | .ar op k a b => by simp only [IE.subst, IE.den, IE.subst_den es bs a, IE.subst_den es bs b]
  | .wr k a => by simp only [IE.subst, IE.den, IE.subst_den es bs a]
  | .mn a b => by simp only [IE.subst, IE.den, IE.subst_den es bs a, IE.subst_den es bs b]
  | .mx a b => by simp only [IE.subst, IE.den, IE.subst_den es bs a, IE.subst_den es bs b]
  | .pl op a b => by simp only [IE.subst, IE.den, IE.subst_den es bs a, IE.subst_den es bs b]
  | .ap f a b c => by simp only [IE.subst, IE.den, IE.subst_den es bs a, IE.subst_den es bs b, IE.subst_den es bs c]; rfl
  | .tab l i => by simp only [IE.subst, IE.den, IE.subst_den es bs i]
theorem BE.subst_den (es : List IE) (bs : List BE) : ∀ e : BE, (e.subst es bs).den ρ = e.den (ρ.to es bs)
  | .lit b => rfl
  | .var i => rfl
  | .cmp op a b => by simp only [BE.subst, BE.den, IE.subst_den es bs a, IE.subst_den es bs b]
  | .not a => by simp only [BE.subst, BE.den, BE.subst_den es bs a]
  | .and a b => by simp only [BE.subst, BE.den, BE.subst_den es bs a, BE.subst_den es bs b]
  | .eqb a b => by simp only [BE.subst, BE.den, BE.subst_den es bs a, BE.subst_den es bs b]
mutual
theorem SV.subst_den (es : List IE) (bs : List BE) (ps : List (Nat × Nat)) (φ : Nat → Nat) : ∀ v : SV, (v.subst es bs ps).den ρ φ = v.den (ρ.to es bs) (fun b => φ (pi ps b))
  | .int k e => by simp only [SV.subst, SV.den, IE.subst_den es bs e]
  | .bool b => by simp only [SV.subst, SV.den, BE.subst_den es bs b]
  | .raw v => rfl
  | .flt k n => rfl
  | .str n => rfl
  | .any => rfl
  | .ptr b off => rfl
  | .slice b off n c => rfl
  | .func f a c => by simp only [SV.subst, SV.den, SV.substL_den es bs ps φ a, SV.substL_den es bs ps φ c]
  | .iface t v => by simp only [SV.subst, SV.den, SV.subst_den es bs ps φ v]
  | .agg cs => by simp only [SV.subst, SV.den, SV.substL_den es bs ps φ cs]
  | .tuple cs => by simp only [SV.subst, SV.den, SV.substL_den es bs ps φ cs]
  | .xs j => rfl
  | .xp j e c => by simp only [SV.subst, SV.den, IE.subst_den es bs e]; rfl
theorem SV.substL_den (es : List IE) (bs : List BE) (ps : List (Nat × Nat)) (φ : Nat → Nat) : ∀ l : List SV, SV.denL ρ φ (SV.substL es bs ps l) = SV.denL (ρ.to es bs) (fun b => φ (pi ps b)) l
  | [] => rfl
  | v :: l => by simp only [SV.substL, SV.denL, SV.subst_den es bs ps φ v, SV.substL_den es bs ps φ l]
end
/-- the temporaries of the head, one by one: nothing is said of it, or it is what the other state has -/
def tmFits (es : List IE) (bs : List BE) (ps : List (Nat × Nat)) : List SV → List SV → Bool
  | [], [] => true
  | v :: vs, u :: us => (isAny u || (u.subst es bs ps).beq v && !isAny v) && tmFits es bs ps vs us
  | _, _ => false
def stFits (es : List IE) (bs : List BE) (ps : List (Nat × Nat)) (st : Store) : Store → Bool
  | [] => true
  | (b, B) :: r =>
    (match Store.get st (pi ps b) with
     | some C => Nat.beq B.ty C.ty && SV.beqL (SV.substL es bs ps B.cells) C.cells
     | none => false) && stFits es bs ps st r
def distinct : List Nat → Bool
  | [] => true
  | a :: l => l.all (fun b => !Nat.beq a b) && distinct l
/-- may the state s be seen as the head's state h? -/
def fitsB (es : List IE) (bs : List BE) (ps : List (Nat × Nat)) (s h : St) : Bool :=
  tmFits es bs ps s.m.all h.m.all && stFits es bs ps s.st h.st && distinct (h.st.map fun p => pi ps p.1) && distinct (h.st.map (·.1))
  && h.m.all.all (fun v => v.ids.all fun c => (Store.get h.st c).isSome) && h.st.all (fun p => (SV.idsL p.2.cells).all fun c => (Store.get h.st c).isSome)
theorem distinct_spec : ∀ {l : List Nat}, distinct l = true → l.Nodup
  | [], _ => List.nodup_nil
  | a :: l, h => by
    simp only [distinct, Bool.and_eq_true, List.all_eq_true, Bool.not_eq_true'] at h
    refine List.nodup_cons.2 ⟨fun hm => ?_, distinct_spec h.2⟩
    have := h.1 a hm
    simp at this
theorem get_mem : ∀ {st : Store} {b : Nat} {B : Blk}, Store.get st b = some B → (b, B) ∈ st
  | [], b, B, h => by simp [Store.get] at h
  | (c, C) :: st, b, B, h => by
    rw [Store.get_cons] at h
    split at h
    · rename_i hc; subst hc; cases h; simp
    · exact List.mem_cons_of_mem _ (get_mem h)
theorem stFits_spec {es : List IE} {bs : List BE} {ps : List (Nat × Nat)} {st : Store} : ∀ {h : Store}, stFits es bs ps st h = true → ∀ p ∈ h, ∃ C, Store.get st (pi ps p.1) = some C ∧ p.2.ty = C.ty ∧ SV.substL es bs ps p.2.cells = C.cells
  | [], _, p, hp => by cases hp
  | (b, B) :: r, hf, p, hp => by
    simp only [stFits, Bool.and_eq_true] at hf
    rcases List.mem_cons.1 hp with rfl | hp
    · cases hg : Store.get st (pi ps b) with
      | none => simp [hg] at hf
      | some C =>
        simp only [hg, Bool.and_eq_true, Nat.beq_eq] at hf
        exact ⟨C, rfl, hf.1.1, SV.beqL_eq hf.1.2⟩
    · exact stFits_spec hf.2 p hp
theorem tmFits_spec {es : List IE} {bs : List BE} {ps : List (Nat × Nat)} : ∀ {vs us : List SV}, tmFits es bs ps vs us = true → vs.length = us.length ∧ ∀ (t : Nat) u, us[t]? = some u → u = .any ∨ ∃ v, vs[t]? = some v ∧ u.subst es bs ps = v ∧ v ≠ .any
  | [], [], _ => ⟨rfl, fun t u h => by simp at h⟩
  | [], _ :: _, h => by simp [tmFits] at h
  | _ :: _, [], h => by simp [tmFits] at h
  | v :: vs, u :: us, h => by
    simp only [tmFits, Bool.and_eq_true, Bool.or_eq_true, Bool.not_eq_true'] at h
    obtain ⟨h1, h2⟩ := tmFits_spec h.2
    refine ⟨by simp [h1], fun t x hx => ?_⟩
    cases t with
    | zero =>
      simp only [List.getElem?_cons_zero, Option.some.injEq] at hx
      subst hx
      rcases h.1 with h3 | h3
      · left; cases u <;> simp_all [isAny]
      · right
        refine ⟨v, by simp, SV.beq_eq h3.1, fun e => ?_⟩
        subst e; simp [isAny] at h3
    | succ t => simpa using h2 t x (by simpa using hx)
theorem RelF.fits {s h : St} {a : Act} (es : List IE) (bs : List BE) (ps : List (Nat × Nat)) (hr : RelF ρ E w0 φ0 st0 s a w) (hf : fitsB es bs ps s h = true) (h0 : st0.all (fun p => (Store.get h.st p.1).isSome && Nat.beq (pi ps p.1) p.1) = true) (hE : ∀ p ∈ ps, ∀ e ∈ E, p.1 ≠ e.1 ∧ p.2 ≠ e.1) : RelF (ρ.to es bs) E w0 φ0 st0 h a w := by
  obtain ⟨φ, hs, ht⟩ := hr
  simp only [fitsB, Tm.all_eq, Bool.and_eq_true] at hf
  obtain ⟨⟨⟨⟨⟨f1, f2⟩, f3⟩, f4⟩, f5⟩, f6⟩ := hf
  obtain ⟨t1, t2⟩ := tmFits_spec f1
  have hst := stFits_spec f2
  have hnd := distinct_spec f3
  have hpi : ∀ b, (∃ e ∈ E, e.1 = pi ps b) → pi ps b = b := by
    intro b hb
    obtain ⟨e, he, heb⟩ := hb
    clear hst f2 f3 hnd f1 t2 h0
    induction ps with
    | nil => rfl
    | cons q ps ih =>
      obtain ⟨c, d⟩ := q
      simp only [pi] at heb ⊢
      split
      · rename_i hc
        rw [if_pos hc] at heb
        exact absurd heb.symm (hE (c, d) (by simp) e he).2
      · rename_i hc
        rw [if_neg hc] at heb
        exact ih (fun p hp => hE p (by simp [hp])) heb
  have h0' : ∀ b, (Store.get st0 b).isSome → (Store.get h.st b).isSome ∧ pi ps b = b := by
    intro b hb
    obtain ⟨B, hB⟩ := Option.isSome_iff_exists.1 hb
    have := List.all_eq_true.1 h0 (b, B) (get_mem hB)
    simpa using this
  refine ⟨fun b => φ (pi ps b), ⟨⟨fun b B hb => ?_, fun b B hb c hc => ?_, fun b c hb hc e => ?_, fun b hb => ?_, hs.rel.os, hs.rel.tape, hs.rel.output, hs.rel.size, hs.rel.fr, hs.rel.xt, fun j B hB b hb => ?_⟩, fun b hb => (by rw [(h0' b hb).2]; exact hs.ext b hb), fun b hb => (h0' b hb).1⟩,
    ⟨by rw [ht.len, t1], ht.df, fun t u hu => ?_, fun t u hu c hc => ?_⟩⟩
  · obtain ⟨C, h1, h2, h3⟩ := hst (b, B) (get_mem hb)
    have := hs.rel.bl _ _ h1
    rw [this, ← h3, SV.substL_den, h2]
  · exact List.all_eq_true.1 (List.all_eq_true.1 f6 (b, B) (get_mem hb)) c hc
  · obtain ⟨B, hB⟩ := Option.isSome_iff_exists.1 hb
    obtain ⟨C, hC⟩ := Option.isSome_iff_exists.1 hc
    obtain ⟨B', h1, _, _⟩ := hst (b, B) (get_mem hB)
    obtain ⟨C', h2, _, _⟩ := hst (c, C) (get_mem hC)
    have hpe := hs.rel.inj _ _ (by rw [h1]; rfl) (by rw [h2]; rfl) e
    have m1 := get_mem hB
    have m2 := get_mem hC
    rw [List.Nodup, List.pairwise_map] at hnd
    by_cases hbc : b = c
    · exact hbc
    · exfalso
      have key : ∀ {l : List (Nat × Blk)}, l.Pairwise (fun x y => pi ps x.1 ≠ pi ps y.1) → (b, B) ∈ l → (c, C) ∈ l → False := by
        intro l
        induction l with
        | nil => intro _ h; cases h
        | cons x l ih =>
          intro hp h1 h2
          rw [List.pairwise_cons] at hp
          rcases List.mem_cons.1 h1 with h1 | h1 <;> rcases List.mem_cons.1 h2 with h2 | h2
          · rw [← h1] at h2; cases h2; exact hbc rfl
          · have := hp.1 _ h2; rw [← h1] at this; exact this hpe
          · have := hp.1 _ h1; rw [← h2] at this; exact this hpe.symm
          · exact ih hp.2 h1 h2
      exact key hnd m1 m2
  · obtain ⟨B, hB⟩ := Option.isSome_iff_exists.1 hb
    obtain ⟨B', h1, _, _⟩ := hst (b, B) (get_mem hB)
    rcases hs.rel.own (pi ps b) (by rw [h1]; rfl) with h2 | h2
    · exact .inl h2
    · right
      have := hpi b ⟨_, h2, rfl⟩
      rw [this] at h2 ⊢
      exact h2
  · obtain ⟨B', hB'⟩ := Option.isSome_iff_exists.1 hb
    obtain ⟨C', h1, _, _⟩ := hst (b, B') (get_mem hB')
    exact hs.rel.xd j B hB (pi ps b) (by rw [h1]; rfl)
  · rcases t2 t u hu with h1 | ⟨v, h1, h2, h3⟩
    · exact .inl h1
    · right
      have := (ht.tm t v h1).resolve_left h3
      rw [this, ← h2, SV.subst_den]
  · exact List.all_eq_true.1 (List.all_eq_true.1 f5 u (List.mem_of_getElem? hu)) c hc
/-- a loop, round by round -/
theorem wp_loop_ind {c : Code} {Q : Exit → Act → World → Prop} (I : Nat → Act → World → Prop) (round : ∀ m a w, I m a w → c.wp P (Exit.then (fun a' w' => ∃ m', m' < m ∧ I m' a' w') Q) a w) {m : Nat} {a : Act} {w : World} (h : I m a w) : (Code.loop c).wp P Q a w := by
  intro b k cs
  have key : ∀ n m a w, m < n → I m a w →
      ∃ e a' w', Q e a' w' ∧ Arrives P (lone (b.at a (.code c :: .inLoop c :: k)) cs w) b k cs e a' w' := by
    intro n
    induction n with
    | zero => intro m a w hm; omega
    | succ n ih =>
      intro m a w hm hI
      obtain ⟨e, a₁, w₁, hq, harr⟩ := round m a w hI b (.inLoop c :: k) cs
      cases e with
      | normal =>
        obtain ⟨m', hlt, hI'⟩ := hq
        obtain ⟨e₂, a₂, w₂, hq₂, harr₂⟩ := ih m' a₁ w₁ (by omega) hI'
        exact ⟨e₂, a₂, w₂, hq₂, .of_steps (Steps.trans harr (.one step_inLoop)) harr₂⟩
      | exit id => exact ⟨_, a₁, w₁, hq, .pass (x := .inLoop c) rfl (fun _ _ => .inl (by simp)) harr⟩
      | goto l => exact ⟨_, a₁, w₁, hq, .pass (x := .inLoop c) rfl (fun _ _ => .inl (by simp)) harr⟩
      | ret => exact ⟨_, a₁, w₁, hq, .pass (x := .inLoop c) rfl (fun _ _ => .inl (by simp)) harr⟩
      | panic ch => exact ⟨_, a₁, w₁, hq, .pass (x := .inLoop c) rfl (fun _ _ => .inl (by simp)) harr⟩
      | outgrown => exact ⟨_, a₁, w₁, hq, .pass (x := .inLoop c) rfl (fun _ _ => .inl (by simp)) harr⟩
  obtain ⟨e, a', w', hq, harr⟩ := key (m + 1) m a w (by omega) h
  exact ⟨e, a', w', hq, .of_steps (.one step_loop) harr⟩
/-- what a loop's sum must be for its proof to look at the loop's own blocks alone -/
def LoopSum.own (L : LoopSum) : Bool :=
  sameIds L.bl L.bl' && distinct (L.bl.map (·.1)) && (L.tm.all fun v => v.ids.all fun c => (Store.get L.bl c).isSome) && (L.bl.all fun p => (SV.idsL p.2.cells).all fun c => (Store.get L.bl c).isSome)
theorem get_of_mem : ∀ {l : List (Nat × Blk)} {b : Nat} {B : Blk}, (l.map (·.1)).Nodup → (b, B) ∈ l → Store.get l b = some B
  | [], b, B, _, h => by cases h
  | (c, C) :: l, b, B, hn, h => by
    rw [List.map_cons, List.nodup_cons] at hn
    rw [Store.get_cons]
    rcases List.mem_cons.1 h with h | h
    · cases h; rw [if_pos rfl]
    · rw [if_neg (fun e => hn.1 (by subst e; exact List.mem_map.2 ⟨_, h, rfl⟩))]
      exact get_of_mem hn.2 h
theorem setAll_here : ∀ {l : List (Nat × Blk)} {st : Store} {b : Nat} {B : Blk}, (l.map (·.1)).Nodup → (∀ p ∈ l, (Store.get st p.1).isSome) → (b, B) ∈ l → (setAll st l).get b = some B
  | [], st, b, B, _, _, h => by cases h
  | (c, C) :: l, st, b, B, hn, h1, h => by
    rw [List.map_cons, List.nodup_cons] at hn
    have hc := h1 (c, C) (by simp)
    have h1' : ∀ p ∈ l, (Store.get (Store.set st c C) p.1).isSome := fun p hp => by
      rw [Store.get_set st c p.1 C hc]; split
      · rfl
      · exact h1 p (by simp [hp])
    simp only [setAll]
    rcases List.mem_cons.1 h with h | h
    · cases h
      rw [setAll_get h1' (fun p hp e => hn.1 (List.mem_map.2 ⟨p, hp, e⟩)), Store.get_set st c c C hc, if_pos rfl]
    · exact setAll_here hn.2 h1' h
theorem sameIds_fst : ∀ {l m : List (Nat × Blk)}, sameIds l m = true → l.map (·.1) = m.map (·.1)
  | [], [], _ => rfl
  | [], _ :: _, h => by simp [sameIds] at h
  | _ :: _, [], h => by simp [sameIds] at h
  | (b, B) :: l, (c, C) :: m, h => by
    simp only [sameIds, Bool.and_eq_true, Nat.beq_eq] at h
    simp [h.1.1, sameIds_fst h.2]
theorem lp_frame {c : Code} {L : LoopSum} (hown : L.own = true)
    (hloop : ∀ (w1 : World) (φ1 : Nat → Nat) (a : Act), RelF ρ (L.bl.map fun p => (p.1, φ1 p.1)) w1 φ1 L.bl ⟨L.tm, L.bl⟩ a w1 → ∀ Q : Exit → Act → World → Prop, (∀ a' w', RelF ρ (L.bl.map fun p => (p.1, φ1 p.1)) w1 φ1 L.bl ⟨L.tm', L.bl'⟩ a' w' → Q L.ex.to a' w') → (Code.loop c).wp P Q a w1)
    {st : Store} (hbl : ∀ q ∈ L.bl, Store.get st q.1 = some q.2) {a : Act} (hr : RelF ρ E w0 φ0 st0 ⟨L.tm, st⟩ a w) {Q : Exit → Act → World → Prop} (hQ : ∀ a' w', RelF ρ E w0 φ0 st0 ⟨L.tm', setAll st L.bl'⟩ a' w' → Q L.ex.to a' w') : (Code.loop c).wp P Q a w := by
  simp only [LoopSum.own, Bool.and_eq_true, List.all_eq_true] at hown
  obtain ⟨⟨⟨o1, o2⟩, o3⟩, o4⟩ := hown
  have hnd : (L.bl.map (·.1)).Nodup := distinct_spec o2
  have hnd' : (L.bl'.map (·.1)).Nodup := by rw [← sameIds_fst o1]; exact hnd
  obtain ⟨φ, hs, ht⟩ := hr
  have hin : ∀ b B, Store.get L.bl b = some B → Store.get st b = some B := fun b B hb => hbl (b, B) (get_mem hb)
  refine hloop w φ a ⟨φ, ⟨⟨fun b B hb => hs.rel.bl b B (hin b B hb), fun b B hb c hc => o4 (b, B) (get_mem hb) c hc, fun b c hb hc e => ?_, fun b hb => .inr ?_, rfl, rfl, rfl, Nat.le_refl _, fun _ _ _ => rfl, hs.rel.xt, fun j B hB b hb => ?_⟩, fun _ _ => rfl, fun _ h => h⟩, ⟨ht.len, ht.df, ht.tm, fun t v hv c hc => o3 v (List.mem_of_getElem? hv) c hc⟩⟩ Q (fun a' w' hr' => hQ a' w' ?_)
  · obtain ⟨B, hB⟩ := Option.isSome_iff_exists.1 hb
    obtain ⟨C, hC⟩ := Option.isSome_iff_exists.1 hc
    exact hs.rel.inj b c (by rw [hin b B hB]; rfl) (by rw [hin c C hC]; rfl) e
  · obtain ⟨B, hB⟩ := Option.isSome_iff_exists.1 hb
    exact List.mem_map.2 ⟨(b, B), get_mem hB, rfl⟩
  · obtain ⟨C, hC⟩ := Option.isSome_iff_exists.1 hb
    exact hs.rel.xd j B hB b (by rw [hin b C hC]; rfl)
  · obtain ⟨φ', hs', ht'⟩ := hr'
    have hids : ∀ b, (Store.get L.bl' b).isSome → (Store.get L.bl b).isSome := fun b hb => by
      obtain ⟨B, hB⟩ := Option.isSome_iff_exists.1 hb
      obtain ⟨q, hq, e⟩ := (sameIds_mem o1 b).1 ⟨(b, B), get_mem hB, rfl⟩
      obtain ⟨q1, q2⟩ := q
      simp only at e
      subst e
      rw [get_of_mem hnd hq]; rfl
    have heq : ∀ b, (Store.get L.bl' b).isSome → φ' b = φ b := fun b hb => hs'.ext b (hids b hb)
    have hall : ∀ p ∈ L.bl', (Store.get st p.1).isSome := fun p hp => by
      obtain ⟨q, hq, e⟩ := (sameIds_mem o1 p.1).1 ⟨p, hp, rfl⟩
      rw [← e, hbl q hq]; rfl
    have hsome : ∀ b, ((setAll st L.bl').get b).isSome = (Store.get st b).isSome := fun b => setAll_some hall
    have hcase : ∀ b B, (setAll st L.bl').get b = some B → (Store.get L.bl' b = some B) ∨ (Store.get st b = some B ∧ ∀ p ∈ L.bl, p.1 ≠ b) := by
      intro b B hb
      by_cases hm : ∃ p ∈ L.bl', p.1 = b
      · obtain ⟨⟨q1, q2⟩, hq, e⟩ := hm
        simp only at e
        subst e
        rw [setAll_here hnd' hall hq] at hb
        cases hb
        exact .inl (get_of_mem hnd' hq)
      · have hno : ∀ p ∈ L.bl', p.1 ≠ b := fun p hp e => hm ⟨p, hp, e⟩
        rw [setAll_get hall hno] at hb
        exact .inr ⟨hb, fun p hp e => hm ((sameIds_mem o1 b).2 ⟨p, hp, e⟩)⟩
    refine ⟨φ, ⟨⟨fun b B hb => ?_, fun b B hb c hc => ?_, fun b c hb hc e => ?_, fun b hb => ?_, hs'.rel.os.trans hs.rel.os, hs'.rel.tape.trans hs.rel.tape, hs'.rel.output.trans hs.rel.output, Nat.le_trans hs.rel.size hs'.rel.size, fun k hk he => ?_, hs'.rel.xt, fun j B hB b hb => (by rw [hsome] at hb; exact hs.rel.xd j B hB b hb)⟩, hs.ext, fun b hb => ?_⟩, ⟨ht'.len, ht'.df, fun t v hv => ?_, fun t v hv c hc => ?_⟩⟩
    · rcases hcase b B hb with h | ⟨h, hno⟩
      · have h1 := hs'.rel.bl b B h
        rw [heq b (by rw [h]; rfl)] at h1
        rw [h1, denL_congr ρ φ φ' B.cells (fun c hc => heq c (hs'.rel.cl b B h c hc))]
      · have h1 := hs.rel.bl b B h
        have hlt : φ b < w.heap.size := (Array.getElem?_eq_some_iff.1 h1).1
        rw [hs'.rel.fr (φ b) hlt (fun e he heq' => ?_)]
        · exact h1
        · obtain ⟨p, hp, rfl⟩ := List.mem_map.1 he
          simp only at heq'
          exact hno p hp (hs.rel.inj p.1 b (by rw [hbl p hp]; rfl) (by rw [h]; rfl) heq')
    · rw [hsome]
      rcases hcase b B hb with h | ⟨h, _⟩
      · have h1 := hids c (hs'.rel.cl b B h c hc)
        obtain ⟨C, hC⟩ := Option.isSome_iff_exists.1 h1
        rw [hin c C hC]; rfl
      · exact hs.rel.cl b B h c hc
    · rw [hsome] at hb hc
      exact hs.rel.inj b c hb hc e
    · rw [hsome] at hb
      exact hs.rel.own b hb
    · rw [hs'.rel.fr k (Nat.lt_of_lt_of_le hk hs.rel.size) (fun e hem heq' => ?_)]
      · exact hs.rel.fr k hk he
      · obtain ⟨p, hp, rfl⟩ := List.mem_map.1 hem
        simp only at heq'
        rcases hs.rel.own p.1 (by rw [hbl p hp]; rfl) with h1 | h1
        · omega
        · exact he _ h1 heq'
    · rw [hsome]; exact hs.dom b hb
    · rcases ht'.tm t v hv with h1 | h1
      · exact .inl h1
      · right
        rw [h1, den_congr ρ φ φ' v (fun c hc => heq c (ht'.cl t v hv c hc))]
    · rw [hsome]
      have h1 := hids c (ht'.cl t v hv c hc)
      obtain ⟨C, hC⟩ := Option.isSome_iff_exists.1 h1
      rw [hin c C hC]; rfl
/-- a function's beginning and end -/
theorem fn_start {f : FuncId} {fn : Func} {c : Code} {args : List SV} {R : Ending → World → Prop} (hf : P.funcs[f]? = some fn) (hb : fn.body = some c) (hids : SV.idsL args = []) (hx : ExtIn ρ w)
    (h : ∀ a, RelF ρ [] w id [] ⟨Tm.ofL (args ++ List.replicate (fn.ntmps - args.length) (SV.raw undef)), []⟩ a w → c.wp P (bodyPost P fn R) a w) : Calls P f (SV.denL ρ id args).toArray w R := by
  refine calls_of_wp hf hb (h _ ⟨id, Step.refl ⟨fun b B hb => (by simp [Store.get] at hb), fun b B hb => (by simp [Store.get] at hb), fun b c hb => (by simp [Store.get] at hb), fun b hb => (by simp [Store.get] at hb), rfl, rfl, rfl, Nat.le_refl _, fun _ _ _ => rfl, hx, fun j B hB b hb => (by simp [Store.get] at hb)⟩,
    ⟨by show _ = (args ++ List.replicate (fn.ntmps - args.length) (SV.raw undef)).length; simp [denL_length], rfl, fun t u hu => .inr ?_, fun t u hu d hd => ?_⟩⟩)
  all_goals replace hu : (args ++ List.replicate (fn.ntmps - args.length) (SV.raw undef))[t]? = some u := hu
  · rw [List.getElem?_append] at hu
    rw [Array.getElem?_append]
    simp only [List.size_toArray, denL_length]
    split at hu
    · rename_i hlt
      rw [if_pos hlt]
      simp [denL_map, hu]
    · rename_i hlt
      rw [if_neg hlt]
      rw [List.getElem?_replicate] at hu
      split at hu
      · rename_i hlt2
        cases hu
        simp [hlt2, SV.den]
      · cases hu
  · rw [List.getElem?_append] at hu
    split at hu
    · have := mem_idsL.2 ⟨u, List.mem_of_getElem? hu, hd⟩
      rw [hids] at this; cases this
    · rw [List.getElem?_replicate] at hu
      split at hu
      · cases hu; simp [SV.ids] at hd
      · cases hu
def resS (P : Program) (fn : Func) (s : St) : Option SV :=
  match evResults P fn.results.toList s with
  | .ok vs _ _ _ => some (oneOf vs)
  | .err _ => none
theorem fn_end {fn : Func} {s : St} {v : SV} {a : Act} {w' : World} {V : Value} {x : Exit} (hx : x = .normal ∨ x = .ret) (hr : RelF ρ [] w φ0 st0 s a w') (hres : resS P fn s = some v) (hids : v.ids = []) (hv : v.den ρ id = V) :
    bodyPost P fn (fun e w' => e = .returned V ∧ Below w.heap.size w w') x a w' := by
  unfold resS at hres
  split at hres
  · rename_i vs s' r wl h
    cases hres
    obtain ⟨φ, hs, ht⟩ := hr
    have hrun := results_run h hs.rel ht
    have hb : a.defers = [] ∧ ∃ y, (results fn a.tmps).run P w' = .ok y w' ∧ (Ending.returned y = .returned V ∧ Below w.heap.size w w') := by
      refine ⟨ht.df, _, hrun, ?_, ⟨hs.rel.os, hs.rel.tape, hs.rel.output, hs.rel.size, fun k hk => hs.rel.fr k hk (by simp)⟩⟩
      rw [den_congr ρ id φ _ (fun b hb => by rw [hids] at hb; cases hb), hv]
    rcases hx with rfl | rfl <;> exact hb
  · cases hres
end Ev
end Go.Proofs.Ytmgfnejiienghaa
