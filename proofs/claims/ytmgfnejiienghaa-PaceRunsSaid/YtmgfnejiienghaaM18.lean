/- A checked evaluator: how its states stand to the model's worlds; what each operation does there. -/
import Derived.Test.YtmgfnejiienghaaM17
import Derived.Laws.IdiomCopy
import Derived.ChangeKeysEq
import Derived.RangeFuncRecord
namespace Go.Proofs.Ytmgfnejiienghaa
open Go Go.RowKit
set_option linter.unusedVariables false
namespace Ev

/-- the caller's slices lie in the world -/
def ExtIn (ρ : Env) (w : World) : Prop := ∀ j B, ρ.y j = some B → w.heap[B.blk]? = some (.cells B.c B.ty B.fr)
theorem ExtIn.none {ρ : Env} {w : World} (h : ∀ j, ρ.x j = none) : ExtIn ρ w := fun j B hB => by unfold Env.y at hB; rw [h j] at hB; cases hB
theorem Env.y_of {ρ : Env} {j : Nat} {B : Ext} (h : ρ.x j = some B) (he : B.em = none) : ρ.y j = some B := by unfold Env.y; rw [h]; simp only [he]
theorem Env.y_congr {ρ ρ' : Env} (h : ρ'.x = ρ.x) : ρ'.y = ρ.y := by unfold Env.y; rw [h]
/-- what a block is: a row of cells, a map, a place of deferred calls, the record of a range over a function -/
inductive BC where
  | row
  | map (l : List SV)
  | dfr (there : Bool)
  | recd (m : Nat) (f : FuncId) (p : List Nat) (d k i : Nat) (l : List SV)
  | bad
def recOf (m : Nat) (f : FuncId) (p : List Nat) (d : Nat) : List SV → BC
  | .mark k i _ _ :: l => .recd m f p d k i l
  | _ => .bad
def bcOf : List SV → BC
  | .mark m f p d :: l =>
    match m with
    | 0 => .map l
    | 5 => .dfr true
    | 6 => .dfr false
    | m => recOf m f p d l
  | _ => .row
def pairsOf : List Value → List (Value × Value)
  | k :: v :: l => (k, v) :: pairsOf l
  | _ => []
/-- what a map holds, in whatever order -/
def mapOk (l : List Value) (es : Array MapEntry) : Prop := (es.toList.map fun e => (e.key, e.val)).Perm (pairsOf l) ∧ (es.toList.map (·.key)).Nodup
/-- a frame's temporaries, as far as something is said of them -/
def tmOk (ρ : Env) (φ : Nat → Nat) (l : List SV) (vs : Array Value) : Prop := vs.size = l.length ∧ ∀ (t : Nat) v, l[t]? = some v → v = .any ∨ vs[t]? = some (v.den ρ φ)
def stOf : Nat → LoopState
  | 1 => .ready
  | 2 => .busy
  | 3 => .done
  | _ => .exhausted
def jumpOf (k i : Nat) : Option Code :=
  match k with
  | 10 => none
  | 11 => some (.exit i)
  | _ => some .ret
def clearOf (fr : Nat × Nat) (n : Nat) : Prop := fr = (0, 0) ∨ n ≤ fr.1
def objOk (P : Program) (ρ : Env) (φ : Nat → Nat) (b : Nat) (B : Blk) (o : Obj) : Prop :=
  match bcOf B.cells with
  | .row => ∃ rest fr, o = .cells (SV.denL ρ φ B.cells ++ rest).toArray B.ty fr ∧ (SV.denL ρ φ B.cells ++ rest).length = φ (capK b) ∧ clearOf fr (φ (capK b))
  | .map l => ∃ es clock, o = .map es clock ∧ mapOk (SV.denL ρ φ l) es
  | .dfr true => o = .deferred (some [])
  | .dfr false => o = .deferred none
  | .recd m f p d k i l => ∃ g ps as body vs f0, codeAt P f p = .rangeFunc g ps as body ∧ tmOk ρ φ l vs ∧ o = .loop { state := stOf m, pending := jumpOf k i, fn := f0, tmps := vs, params := ps, assign := as, body := body, defers := φ d }
  | .bad => False
theorem bcOf_row {cs : List SV} (h : headIs cs = false) : bcOf cs = .row := by
  cases cs with
  | nil => rfl
  | cons v l => cases v <;> first | rfl | (simp [headIs] at h)
/-- what the record names lies among the cells -/
theorem bcOf_map {cs l : List SV} (h : bcOf cs = .map l) : ∃ f p d, cs = .mark 0 f p d :: l := by
  unfold bcOf at h
  split at h
  · split at h <;> first | (cases h; exact ⟨_, _, _, rfl⟩) | (cases h; done) | (unfold recOf at h; split at h <;> cases h)
  · cases h
theorem bcOf_rec {cs l : List SV} {m f d k i : Nat} {p : List Nat} (h : bcOf cs = .recd m f p d k i l) : ∃ q e, cs = .mark m f p d :: .mark k i q e :: l := by
  unfold bcOf at h
  split at h
  · split at h <;> first
      | (cases h; done)
      | (unfold recOf at h
         split at h
         · cases h; exact ⟨_, _, rfl⟩
         · cases h)
  · cases h
theorem tmOk.congr {ρ : Env} {φ φ' : Nat → Nat} {l : List SV} {vs : Array Value} (h : tmOk ρ φ l vs) (hc : ∀ c ∈ SV.idsL l, Agr φ φ' c) : tmOk ρ φ' l vs :=
  ⟨h.1, fun t v hv => (h.2 t v hv).imp id (fun h2 => by rw [den_congr ρ φ φ' v (fun c h3 => hc c (mem_idsL.2 ⟨v, List.mem_of_getElem? hv, h3⟩))]; exact h2)⟩
theorem objOk.congr {P : Program} {ρ : Env} {φ φ' : Nat → Nat} {b : Nat} {B : Blk} {o : Obj} (h : objOk P ρ φ b B o) (hb : Agr φ φ' b) (hc : ∀ c ∈ SV.idsL B.cells, Agr φ φ' c) : objOk P ρ φ' b B o := by
  unfold objOk at h ⊢
  cases hbc : bcOf B.cells with
  | row =>
    rw [hbc] at h
    simp only at h ⊢
    rw [denL_congr ρ φ φ' _ hc, hb.2]; exact h
  | map l =>
    rw [hbc] at h
    simp only at h ⊢
    obtain ⟨f, p, d, e⟩ := bcOf_map hbc
    rw [denL_congr ρ φ φ' l (fun c h1 => hc c (by rw [e]; simp [SV.idsL, h1]))]; exact h
  | dfr x => rw [hbc] at h; cases x <;> exact h
  | bad => rw [hbc] at h; exact h
  | recd m f p d k i l =>
    rw [hbc] at h
    simp only at h ⊢
    obtain ⟨q, e, hcs⟩ := bcOf_rec hbc
    obtain ⟨g, ps, as, body, vs, f0, h1, h2, h3⟩ := h
    refine ⟨g, ps, as, body, vs, f0, h1, h2.congr (fun c hc1 => hc c (by rw [hcs]; simp [SV.idsL, hc1])), ?_⟩
    rw [h3, (hc d (by rw [hcs]; simp [SV.idsL, SV.ids])).1]
/-- the blocks of the state lie in the world; what was there ahead of the call is as it was, but for the blocks E -/
structure RelS (P : Program) (ρ : Env) (E : List (Nat × Nat)) (w0 : World) (φ : Nat → Nat) (st : Store) (w : World) : Prop where
  bl : ∀ b B, st.get b = some B → ∃ o, w.heap[φ b]? = some o ∧ objOk P ρ φ b B o
  cl : ∀ b B, st.get b = some B → ∀ c ∈ SV.idsL B.cells, (st.get c).isSome
  nz : ∀ b, (st.get b).isSome → b % 1048576 ≠ 0
  inj : ∀ b c B C, st.get b = some B → st.get c = some C → B.cells ≠ [] → C.cells ≠ [] → φ b = φ c → b = c
  own : ∀ b, (st.get b).isSome → w0.heap.size ≤ φ b ∨ ∃ e ∈ E, e.2 = φ b
  os : w.os = w0.os
  tape : w.tape = w0.tape
  output : w.output = w0.output
  size : w0.heap.size ≤ w.heap.size
  fr : ∀ k, k < w0.heap.size → (∀ e ∈ E, e.2 ≠ k) → w.heap[k]? = w0.heap[k]?
  xt : ExtIn ρ w
  xd : ∀ j B, ρ.y j = some B → ∀ b, (st.get b).isSome → φ b ≠ B.blk
/-- the deferred calls: D those of ahead -/
def DfOk (ρ : Env) (φ : Nat → Nat) (D : List Deferred) : List DS → List Deferred → Prop
  | [], l => l = D
  | .coll b :: ds, l => ∃ r, l = { target := .collected (φ b), args := #[] } :: r ∧ DfOk ρ φ D ds r
  | .call f vs cs :: ds, l => ∃ r, l = { target := .fn (.func f) (SV.denL ρ φ cs).toArray, args := (SV.denL ρ φ vs).toArray } :: r ∧ DfOk ρ φ D ds r
theorem DfOk.congr {ρ : Env} {φ φ' : Nat → Nat} {D : List Deferred} : ∀ {ds : List DS} {l : List Deferred}, DfOk ρ φ D ds l → (∀ d ∈ ds, ∀ c ∈ d.ids, Agr φ φ' c) → DfOk ρ φ' D ds l
  | [], l, h, _ => h
  | .coll b :: ds, l, ⟨r, h1, h2⟩, hc => ⟨r, by rw [(hc (.coll b) (by simp) b (by simp [DS.ids])).1]; exact h1, h2.congr (fun d hd => hc d (by simp [hd]))⟩
  | .call f vs cs :: ds, l, ⟨r, h1, h2⟩, hc =>
    ⟨r, by rw [denL_congr ρ φ φ' vs (fun c h => hc (.call f vs cs) (by simp) c (by simp [DS.ids, h])), denL_congr ρ φ φ' cs (fun c h => hc (.call f vs cs) (by simp) c (by simp [DS.ids, h]))]; exact h1, h2.congr (fun d hd => hc d (by simp [hd]))⟩
theorem DfOk.under {ρ : Env} {φ : Nat → Nat} {D : List Deferred} : ∀ {ds : List DS} {l : List Deferred}, DfOk ρ φ D ds l → ∃ ls, l = ls ++ D ∧ ∀ D', DfOk ρ φ D' ds (ls ++ D')
  | [], l, h => ⟨[], h, fun _ => rfl⟩
  | .coll b :: ds, l, ⟨r, h1, h2⟩ => by
    obtain ⟨ls, h3, h4⟩ := h2.under
    exact ⟨_ :: ls, by rw [h1, h3]; rfl, fun D' => ⟨_, rfl, h4 D'⟩⟩
  | .call f vs cs :: ds, l, ⟨r, h1, h2⟩ => by
    obtain ⟨ls, h3, h4⟩ := h2.under
    exact ⟨_ :: ls, by rw [h1, h3]; rfl, fun D' => ⟨_, rfl, h4 D'⟩⟩
structure RelT (ρ : Env) (D : List Deferred) (φ : Nat → Nat) (s : St) (a : Act) : Prop where
  len : a.tmps.size = s.tm.length
  df : DfOk ρ φ D s.m.df a.defers
  tm : ∀ (t : Nat) (v : SV), s.tm[t]? = some v → v = .any ∨ a.tmps[t]? = some (v.den ρ φ)
  cl : ∀ (t : Nat) (v : SV), s.tm[t]? = some v → ∀ c ∈ v.ids, (s.st.get c).isSome
  dcl : ∀ d ∈ s.m.df, ∀ c ∈ d.ids, (s.st.get c).isSome
structure Step (P : Program) (ρ : Env) (E : List (Nat × Nat)) (w0 : World) (φ : Nat → Nat) (st : Store) (φ' : Nat → Nat) (st' : Store) (w' : World) : Prop where
  rel : RelS P ρ E w0 φ' st' w'
  ext : ∀ b, (st.get b).isSome → Agr φ φ' b
  dom : ∀ b, (st.get b).isSome → (st'.get b).isSome
variable {P : Program} {ρ : Env} {E : List (Nat × Nat)} {w0 : World} {φ : Nat → Nat} {st : Store} {w : World}
theorem Agr.refl (φ : Nat → Nat) (b : Nat) : Agr φ φ b := ⟨rfl, rfl⟩
theorem Agr.trans {φ φ' φ'' : Nat → Nat} {b : Nat} (h : Agr φ φ' b) (k : Agr φ' φ'' b) : Agr φ φ'' b := ⟨k.1.trans h.1, k.2.trans h.2⟩
theorem Step.refl (h : RelS P ρ E w0 φ st w) : Step P ρ E w0 φ st φ st w := ⟨h, fun _ _ => Agr.refl _ _, fun _ h => h⟩
theorem Step.trans {φ1 φ2 : Nat → Nat} {st1 st2 : Store} {w1 w2 : World} (h : Step P ρ E w0 φ st φ1 st1 w1) (k : Step P ρ E w0 φ1 st1 φ2 st2 w2) : Step P ρ E w0 φ st φ2 st2 w2 :=
  ⟨k.rel, fun b hb => (h.ext b hb).trans (k.ext b (h.dom b hb)), fun b hb => k.dom b (h.dom b hb)⟩
theorem RelS.lt (h : RelS P ρ E w0 φ st w) {b : Nat} (hb : (st.get b).isSome) : φ b < w.heap.size := by
  obtain ⟨B, hB⟩ := Option.isSome_iff_exists.1 hb
  obtain ⟨o, ho, _⟩ := h.bl b B hB
  exact (Array.getElem?_eq_some_iff.1 ho).1
/-- worlds with the same memory -/
theorem RelS.heap {w' : World} (h : RelS P ρ E w0 φ st w) (hh : w'.heap = w.heap) (h1 : w'.os = w.os) (h2 : w'.tape = w.tape) (h3 : w'.output = w.output) : RelS P ρ E w0 φ st w' :=
  ⟨fun b B hb => by rw [hh]; exact h.bl b B hb, h.cl, h.nz, h.inj, h.own, h1.trans h.os, h2.trans h.tape, h3.trans h.output, by rw [hh]; exact h.size, fun k hk he => by rw [hh]; exact h.fr k hk he, fun j B hB => by rw [hh]; exact h.xt j B hB, h.xd⟩
/-- what lies above is laid by a call that leaves memory as it was -/
theorem RelS.below {w' : World} (h : RelS P ρ E w0 φ st w) (hb : Below w.heap.size w w') : RelS P ρ E w0 φ st w' :=
  ⟨fun b B hB => by rw [hb.block _ (h.lt (by rw [hB]; rfl))]; exact h.bl b B hB, h.cl, h.nz, h.inj, h.own, hb.os.trans h.os, hb.tape.trans h.tape, hb.output.trans h.output,
   Nat.le_trans h.size hb.size, fun k hk he => by rw [hb.block k (Nat.lt_of_lt_of_le hk h.size)]; exact h.fr k hk he,
   fun j B hB => by have h1 := h.xt j B hB; rw [hb.block _ (Array.getElem?_eq_some_iff.1 h1).1]; exact h1, h.xd⟩
/-- a block more: an object that is laid anew (at the end of the heap), or one that nobody else names -/
theorem capK_ne {id c : Nat} (hc : c % 1048576 ≠ 0) : c ≠ capK id := fun e => hc (by rw [e]; unfold capK; exact Nat.mul_mod_left _ _)
theorem capK_inj {a b : Nat} (h : capK a = capK b) : a = b := by unfold capK at h; omega
def named (φ : Nat → Nat) (id g cap : Nat) : Nat → Nat := fun b => if b = id then g else if b = capK id then cap else φ b
theorem named_agr {id g cap c : Nat} (hz : id % 1048576 ≠ 0) (hc : c % 1048576 ≠ 0) (hne : c ≠ id) : Agr φ (named φ id g cap) c := by
  have h1 : c ≠ capK id := capK_ne hc
  have h2 : capK c ≠ id := fun e => capK_ne (id := c) hz e.symm
  have h3 : capK c ≠ capK id := fun e => hne (capK_inj e)
  unfold Agr named
  rw [if_neg hne, if_neg h1, if_neg h2, if_neg h3]
  exact ⟨rfl, rfl⟩
theorem named_id {id g cap : Nat} : named φ id g cap id = g := by unfold named; rw [if_pos rfl]
theorem named_cap {id g cap : Nat} (hz : id % 1048576 ≠ 0) : named φ id g cap (capK id) = cap := by
  unfold named
  rw [if_neg (fun e => capK_ne (id := id) hz e.symm), if_pos rfl]
theorem RelS.more {w' : World} (h : RelS P ρ E w0 φ st w') (id g cap : Nat) (B : Blk) (o : Obj) (hid : st.get id = none) (hz : id % 1048576 ≠ 0) (hcl : ∀ c ∈ SV.idsL B.cells, (st.get c).isSome ∨ c = id)
    (ho : w'.heap[g]? = some o) (hok : objOk P ρ (named φ id g cap) id B o) (hown : w0.heap.size ≤ g ∨ ∃ e ∈ E, e.2 = g) (hfree : ∀ c C, st.get c = some C → C.cells ≠ [] → φ c ≠ g) (hx : ∀ j D, ρ.y j = some D → g ≠ D.blk) :
    Step P ρ E w0 φ st (named φ id g cap) ((id, B) :: st) w' := by
  have hne : ∀ c, (st.get c).isSome → c ≠ id := fun c hc e => by subst e; rw [hid] at hc; cases hc
  have hext : ∀ c, (st.get c).isSome → Agr φ (named φ id g cap) c := fun c hc => named_agr hz (h.nz c hc) (hne c hc)
  have hid' : named φ id g cap id = g := named_id
  refine ⟨⟨fun b C hb => ?_, fun b C hb c hc => ?_, fun b hb => ?_, fun b c B1 C1 hb hc n1 n2 e => ?_, fun b hb => ?_, h.os, h.tape, h.output, h.size, h.fr, h.xt, fun j D hD b hb => ?_⟩, hext, fun b hb => ?_⟩
  · rw [Store.get_cons] at hb
    split at hb
    · rename_i e; subst e; cases hb
      exact ⟨o, by rw [hid']; exact ho, hok⟩
    · have hs : (st.get b).isSome := by rw [hb]; rfl
      obtain ⟨o', h1, h2⟩ := h.bl b C hb
      exact ⟨o', by rw [(hext b hs).1]; exact h1, h2.congr (hext b hs) (fun c hc => hext c (h.cl b C hb c hc))⟩
  · rw [Store.get_cons] at hb ⊢
    split
    · rfl
    · rename_i hn
      split at hb
      · cases hb
        exact (hcl c hc).resolve_right (fun e => hn e.symm)
      · exact h.cl b C hb c hc
  · rw [Store.get_cons] at hb
    split at hb
    · rename_i e; subst e; exact hz
    · exact h.nz b hb
  · rw [Store.get_cons] at hb hc
    by_cases h1 : id = b <;> by_cases h2 : id = c
    · omega
    · subst h1
      rw [if_neg h2] at hc
      rw [hid', (hext c (by rw [hc]; rfl)).1] at e
      exact absurd e.symm (hfree c C1 hc n2)
    · subst h2
      rw [if_neg h1] at hb
      rw [hid', (hext b (by rw [hb]; rfl)).1] at e
      exact absurd e (hfree b B1 hb n1)
    · rw [if_neg h1] at hb
      rw [if_neg h2] at hc
      rw [(hext b (by rw [hb]; rfl)).1, (hext c (by rw [hc]; rfl)).1] at e
      exact h.inj b c B1 C1 hb hc n1 n2 e
  · rw [Store.get_cons] at hb
    by_cases h1 : id = b
    · subst h1; rw [hid']; exact hown
    · rw [if_neg h1] at hb
      rw [(hext b hb).1]; exact h.own b hb
  · rw [Store.get_cons] at hb
    by_cases h1 : id = b
    · subst h1; rw [hid']; exact hx j D hD
    · rw [if_neg h1] at hb
      rw [(hext b hb).1]; exact h.xd j D hD b hb
  · rw [Store.get_cons]; split
    · rfl
    · exact hb
theorem heap_push_new (w : World) (o : Obj) : (w.alloc o).heap[w.heap.size]? = some o := heap_alloc_new w o
/-- something is laid that the state does not name -/
theorem RelS.alloc (h : RelS P ρ E w0 φ st w) (o : Obj) : RelS P ρ E w0 φ st (w.alloc o) :=
  ⟨fun b B hb => (by
    obtain ⟨o', h1, h2⟩ := h.bl b B hb
    exact ⟨o', by rw [heap_alloc_old _ _ (Array.getElem?_eq_some_iff.1 h1).1]; exact h1, h2⟩), h.cl, h.nz, h.inj, h.own, h.os, h.tape, h.output, (by have := h.size; simp; omega),
    fun k hk he => (by rw [heap_alloc_old _ _ (Nat.lt_of_lt_of_le hk h.size)]; exact h.fr k hk he),
    fun j B hB => (by have h1 := h.xt j B hB; rw [heap_alloc_old _ _ (Array.getElem?_eq_some_iff.1 h1).1]; exact h1), h.xd⟩
/-- a block anew -/
theorem RelS.newO (h : RelS P ρ E w0 φ st w) (id cap : Nat) (B : Blk) (o : Obj) (hid : st.get id = none) (hz : id % 1048576 ≠ 0) (hcl : ∀ c ∈ SV.idsL B.cells, (st.get c).isSome ∨ c = id)
    (hok : objOk P ρ (named φ id w.heap.size cap) id B o) : Step P ρ E w0 φ st (named φ id w.heap.size cap) ((id, B) :: st) (w.alloc o) := by
  refine (h.alloc o).more id w.heap.size cap B o hid hz hcl (heap_alloc_new _ _) hok (.inl h.size) (fun c C hc _ e => ?_) (fun j D hD e => ?_)
  · have := h.lt (b := c) (by rw [hc]; rfl); omega
  · have := (Array.getElem?_eq_some_iff.1 (h.xt j D hD)).1; omega
theorem named_denL {id g cap : Nat} (hz : id % 1048576 ≠ 0) (hid : st.get id = none) (hnz : ∀ b, (st.get b).isSome → b % 1048576 ≠ 0) {l : List SV} (hl : ∀ c ∈ SV.idsL l, (st.get c).isSome) : SV.denL ρ (named φ id g cap) l = SV.denL ρ φ l :=
  denL_congr ρ φ _ l (fun c hc => named_agr hz (hnz c (hl c hc)) (fun e => by subst e; have := hl c hc; rw [hid] at this; cases this))
/-- a row anew, and what is behind its cells -/
theorem RelS.newR (h : RelS P ρ E w0 φ st w) (id : Nat) (B : Blk) (rest : List Value) (fr : Nat × Nat) (hid : st.get id = none) (hz : id % 1048576 ≠ 0) (hcl : ∀ c ∈ SV.idsL B.cells, (st.get c).isSome) (hrow : headIs B.cells = false)
    (hfr : clearOf fr (B.cells.length + rest.length)) :
    ∃ φ', Step P ρ E w0 φ st φ' ((id, B) :: st) (w.alloc (.cells (SV.denL ρ φ B.cells ++ rest).toArray B.ty fr)) ∧ φ' id = w.heap.size ∧ φ' (capK id) = B.cells.length + rest.length := by
  have hd := named_denL (ρ := ρ) (φ := φ) (g := w.heap.size) (cap := B.cells.length + rest.length) hz hid h.nz hcl
  refine ⟨_, h.newO id (B.cells.length + rest.length) B _ hid hz (fun c hc => .inl (hcl c hc)) ?_, named_id, named_cap hz⟩
  unfold objOk
  rw [bcOf_row hrow]
  simp only
  exact ⟨rest, fr, by rw [hd], by rw [named_cap hz, hd, denL_map]; simp, by rw [named_cap hz]; exact hfr⟩
/-- a block anew -/
theorem RelS.new (h : RelS P ρ E w0 φ st w) (id : Nat) (B : Blk) (hid : st.get id = none) (hz : id % 1048576 ≠ 0) (hcl : ∀ c ∈ SV.idsL B.cells, (st.get c).isSome) (hrow : headIs B.cells = false) :
    ∃ φ', Step P ρ E w0 φ st φ' ((id, B) :: st) (w.alloc (.cells (SV.denL ρ φ B.cells).toArray B.ty)) ∧ φ' id = w.heap.size ∧ φ' (capK id) = B.cells.length := by
  have := h.newR id B [] (0, 0) hid hz hcl hrow (.inl rfl)
  simpa using this
/-- a block's object is another one -/
theorem RelS.upd {w' : World} (h : RelS P ρ E w0 φ st w) (b : Nat) (B B' : Blk) (o' : Obj) (hb : st.get b = some B) (hne : B.cells ≠ []) (hh : w'.heap[φ b]? = some o') (hk : ∀ k, k ≠ φ b → w'.heap[k]? = w.heap[k]?)
    (hsz : w'.heap.size = w.heap.size) (h1 : w'.os = w.os) (h2 : w'.tape = w.tape) (h3 : w'.output = w.output) (hcl : ∀ c ∈ SV.idsL B'.cells, (st.get c).isSome) (hok : objOk P ρ φ b B' o')
    (hdead : ∀ c C, st.get c = some C → C.cells = [] → φ c = φ b → objOk P ρ φ c C o') : Step P ρ E w0 φ st φ (st.set b B') w' := by
  have hs : (st.get b).isSome := by rw [hb]; rfl
  have hg := fun c => Store.get_set st b c B' hs
  have hd : ∀ c, (st.get c).isSome = ((st.set b B').get c).isSome := fun c => by
    rw [hg]; split
    · rename_i e; subst e; rw [hb]; rfl
    · rfl
  refine ⟨⟨fun c C hc => ?_, fun c C hc d hdm => ?_, fun c hc => ?_, fun c d C D hc hdd n1 n2 e => ?_, fun c hc => ?_, h1.trans h.os, h2.trans h.tape, h3.trans h.output, by rw [hsz]; exact h.size, fun k hkk he => ?_, fun j D hD => ?_, fun j D hD c hc => ?_⟩, fun _ _ => Agr.refl _ _, fun c hc => by rw [← hd]; exact hc⟩
  · rw [hg] at hc
    split at hc
    · rename_i e; subst e; cases hc
      exact ⟨o', hh, hok⟩
    · rename_i hn
      obtain ⟨o, h4, h5⟩ := h.bl c C hc
      by_cases e : φ c = φ b
      · have hC : C.cells = [] := Classical.byContradiction fun hC => hn (h.inj c b C B hc hb hC hne e).symm
        exact ⟨o', by rw [e]; exact hh, hdead c C hc hC e⟩
      · exact ⟨o, by rw [hk (φ c) e]; exact h4, h5⟩
  · rw [← hd]
    rw [hg] at hc
    split at hc
    · cases hc; exact hcl d hdm
    · exact h.cl c C hc d hdm
  · rw [← hd] at hc; exact h.nz c hc
  · rw [hg] at hc hdd
    split at hc <;> split at hdd
    · omega
    · rename_i e1 _; subst e1
      exact h.inj _ _ B D hb hdd hne n2 e
    · rename_i _ e1; subst e1
      exact h.inj _ _ C B hc hb n1 hne e
    · exact h.inj _ _ C D hc hdd n1 n2 e
  · rw [← hd] at hc
    exact h.own c hc
  · rw [hk k ?_]
    · exact h.fr k hkk he
    · intro e
      rcases h.own b hs with h4 | ⟨e', h4, h5⟩
      · omega
      · exact he e' h4 (by rw [h5, e])
  · rw [hk _ (fun e => h.xd j D hD b hs e.symm)]
    exact h.xt j D hD
  · rw [← hd] at hc
    exact h.xd j D hD c hc

/-- what the model has of a row -/
theorem RelS.row (h : RelS P ρ E w0 φ st w) {b : Nat} {B : Blk} (hb : st.get b = some B) (hr : headIs B.cells = false) :
    ∃ rest fr, w.heap[φ b]? = some (.cells (SV.denL ρ φ B.cells ++ rest).toArray B.ty fr) ∧ (SV.denL ρ φ B.cells ++ rest).length = φ (capK b) ∧ clearOf fr (φ (capK b)) := by
  obtain ⟨o, h1, h2⟩ := h.bl b B hb
  unfold objOk at h2
  rw [bcOf_row hr] at h2
  obtain ⟨rest, fr, rfl, h3, h4⟩ := h2
  exact ⟨rest, fr, h1, h3, h4⟩
/-- a row is written, or nothing more is said of it -/
theorem RelS.putR (h : RelS P ρ E w0 φ st w) (b : Nat) (B : Blk) (cs : List SV) (rest' : List Value) (hb : st.get b = some B) (hne : B.cells ≠ []) (hr : headIs B.cells = false) (hr' : headIs cs = false) (hcl : ∀ c ∈ SV.idsL cs, (st.get c).isSome)
    (hlen : (SV.denL ρ φ cs ++ rest').length = φ (capK b)) :
    Step P ρ E w0 φ st φ (st.set b { B with cells := cs }) (w.setRow (φ b) (SV.denL ρ φ cs ++ rest').toArray) := by
  obtain ⟨rest, fr, h1, h2, h3⟩ := h.row hb hr
  refine h.upd b B _ (.cells (SV.denL ρ φ cs ++ rest').toArray B.ty fr) hb hne (setRow_heap _ _ _ _ _ _ h1) (fun k hk => setRow_other _ _ _ _ hk) (by simp) rfl rfl rfl hcl ?_ (fun c C hc hC e => ?_)
  · unfold objOk
    rw [bcOf_row hr']
    exact ⟨rest', fr, rfl, hlen, h3⟩
  · obtain ⟨rest2, fr2, k1, k2, k3⟩ := h.row hc (by rw [hC]; rfl)
    rw [e, h1] at k1
    simp only [Option.some.injEq, Obj.cells.injEq] at k1
    obtain ⟨e1, e2, e3⟩ := k1
    have e1 : SV.denL ρ φ B.cells ++ rest = SV.denL ρ φ C.cells ++ rest2 := by simpa using congrArg Array.toList e1
    unfold objOk
    rw [hC, show bcOf [] = .row from rfl]
    simp only
    have hl : φ (capK c) = φ (capK b) := by rw [← k2, ← e1, h2]
    exact ⟨SV.denL ρ φ cs ++ rest', fr, by rw [← e2]; rfl, by rw [hl]; simpa [SV.denL] using hlen, by rw [hl]; exact h3⟩
/-- an object that is no row is another one -/
theorem RelS.putO (h : RelS P ρ E w0 φ st w) (b : Nat) (B B' : Blk) (o o' : Obj) (hb : st.get b = some B) (hne : B.cells ≠ []) (ho : w.heap[φ b]? = some o) (hno : ∀ c t fr, o ≠ .cells c t fr) (hcl : ∀ c ∈ SV.idsL B'.cells, (st.get c).isSome) (hok : objOk P ρ φ b B' o') :
    Step P ρ E w0 φ st φ (st.set b B') (w.putObj (φ b) o') := by
  have hlt := (Array.getElem?_eq_some_iff.1 ho).1
  refine h.upd b B B' o' hb hne (World.putObj_heap_same hlt) (fun k hk => World.putObj_heap_other hk) (by simp) rfl rfl rfl hcl hok (fun c C hc hC e => ?_)
  obtain ⟨rest2, fr2, k1, _⟩ := h.row hc (by rw [hC]; rfl)
  rw [e, ho] at k1
  exact absurd (Option.some.inj k1) (hno _ _ _)

/-! what expressions denote -/
theorem ofCell_den (v : Value) : (ofCell v).den ρ φ = v := by unfold ofCell; split <;> rfl
theorem ofValue_den (v : Value) : (ofValue v).den ρ φ = v := by
  unfold ofValue
  split
  · rename_i cs
    simp only [SV.den, denL_map, List.map_map]
    congr
    have : (SV.den ρ φ ∘ ofCell) = id := by funext x; exact ofCell_den x
    rw [this]; simp
  · exact ofCell_den _
theorem ofValue_ids (v : Value) : (ofValue v).ids = [] := by
  have h : ∀ v, (ofCell v).ids = [] := fun v => by unfold ofCell; split <;> simp [SV.ids]
  unfold ofValue
  split
  · rename_i cs
    simp only [SV.ids]
    have : ∀ l : List Value, SV.idsL (l.map ofCell) = [] := fun l => by
      induction l with
      | nil => simp [SV.idsL]
      | cons a l ih => simp [SV.idsL, h, ih]
    exact this _
  · exact h _
theorem one_den {v : SV} (h : v.one = true) : (v.den ρ φ).oneCell' = true := by
  cases v <;> simp_all [SV.one, SV.den, Value.oneCell']
  · rename_i j
    cases ρ.x j with
    | none => rfl
    | some B =>
      have h : ∀ e, B.em = e → (xsV (some B)).oneCell' = true := fun e he => by
        cases e <;> simp only [xsV, he] <;> rfl
      exact h _ rfl
  · rename_i j _ _; cases ρ.x j <;> rfl
theorem one_cells {v : Value} (h : v.oneCell' = true) : v.cells = #[v] := by
  cases v <;> simp_all [Value.cells, Value.oneCell']
theorem parts_den {v : SV} {cs : List SV} (h : v.parts = some cs) : (v.den ρ φ).cells = (SV.denL ρ φ cs).toArray ∧ (∀ x ∈ SV.denL ρ φ cs, x.oneCell' = true) := by
  unfold SV.parts at h
  split at h
  · rename_i l
    split at h
    · rename_i ha
      cases h
      refine ⟨by simp [SV.den, Value.cells], fun x hx => ?_⟩
      rw [denL_map] at hx
      obtain ⟨y, hy, rfl⟩ := List.mem_map.1 hx
      exact one_den (List.all_eq_true.1 ha y hy)
    · cases h
  · rename_i hn
    split at h
    · rename_i ho
      cases h
      have := one_den (ρ := ρ) (φ := φ) ho
      exact ⟨by rw [one_cells this]; simp [SV.denL], fun x hx => by simp only [SV.denL, List.mem_cons, List.not_mem_nil, or_false] at hx; rw [hx]; exact this⟩
    · cases h
theorem mkAr_den (op : BinOp) (k : IntKind) (a b : IE) : (mkAr op k a b).den ρ = arI op k (a.den ρ) (b.den ρ) := by unfold mkAr; split <;> rfl
theorem mkWr_den (k : IntKind) (a : IE) : (mkWr k a).den ρ = k.wrap (a.den ρ) := by unfold mkWr; split <;> rfl
theorem mkMn_den (a b : IE) : (mkMn a b).den ρ = mnI (a.den ρ) (b.den ρ) := by unfold mkMn; split <;> rfl
theorem mkMx_den (a b : IE) : (mkMx a b).den ρ = mxI (a.den ρ) (b.den ρ) := by unfold mkMx; split <;> rfl
theorem mkCmp_den (op : BinOp) (a b : IE) : (mkCmp op a b).den ρ = cmpI op (a.den ρ) (b.den ρ) := by unfold mkCmp; split <;> rfl
theorem mkNot_den (a : BE) : (mkNot a).den ρ = !(a.den ρ) := by unfold mkNot; split <;> rfl
theorem mkAnd_den (a b : BE) : (mkAnd a b).den ρ = (a.den ρ && b.den ρ) := by unfold mkAnd; split <;> simp [BE.den]
theorem mkEqb_den (a b : BE) : (mkEqb a b).den ρ = (a.den ρ == b.den ρ) := by unfold mkEqb; split <;> rfl

/-- what is known of a caller's slice -/
def cellV (ρ : Env) (f i : Nat) : EK → Value
  | .int k => .int k (ρ.a f i 0 0)
  | .bool => .bool (ρ.a f i 0 0 == 1)
def XOk (ρ : Env) (d : XD) : Option Ext → Prop
  | none => ρ.i d.n = 0
  | some B => ρ.i d.n = B.len ∧ B.sz = d.ks.length ∧ (B.em = none ∨ B.len = 0) ∧ ∀ i c k, i < B.len → d.ks[c]? = some k → B.c[B.off + (i * B.sz + c)]? = some (cellV ρ (d.f + c) i k)
/-- what is known of a string of the law's -/
def SOk (ρ : Env) (d : SD) (s : ByteArray) : Prop := ρ.i d.n = s.size ∧ ∀ (i : Nat) (x : Int), 0 ≤ x → x ≤ 255 → ρ.a d.f i x 0 = if i < s.size then ((s.data.toList.map fun b => (b.toNat : Int)).getD i 0) else x
/-- the conditions that are known hold, and the bounds -/
structure Knows (ρ : Env) (X : Ctx) : Prop where
  pc : ∀ c ∈ X.pc, c.1.den ρ = c.2
  rg : ∀ (i : Nat) v, X.rg[i]? = some v → v.1 ≤ ρ.i i ∧ ρ.i i ≤ v.2
  ar : ∀ (f : Nat) v, X.ar[f]? = some v → ∀ a b c, v.1 ≤ ρ.a f a b c ∧ ρ.a f a b c ≤ v.2
  xs : ∀ (j : Nat) d, X.xs[j]? = some d → XOk ρ d (ρ.x j)
  nm : ∀ p ∈ X.nm, p.1.den ρ = p.2.den ρ
  ss : ∀ (j : Nat) d, X.ss[j]? = some d → SOk ρ d (ρ.s j)
  nb : ∀ p ∈ X.nb, p.1.den ρ = ρ.b p.2
theorem look_ok : ∀ {l : List (BE × Bool)} {b : BE} {t : Bool}, look l b = some t → (∀ c ∈ l, c.1.den ρ = c.2) → b.den ρ = t
  | [], b, t, h, _ => by simp [look] at h
  | (c, u) :: l, b, t, h, hl => by
    simp only [look] at h
    split at h
    · rename_i hb
      cases h
      rw [← BE.beq_eq hb]
      exact hl (c, u) (by simp)
    · exact look_ok h (fun d hd => hl d (by simp [hd]))
def inIv (x : Int) (v : Int × Int) : Prop := v.1 ≤ x ∧ x ≤ v.2
theorem loI_le (a b : Int) : loI a b ≤ a ∧ loI a b ≤ b := by unfold loI; split <;> simp_all <;> omega
theorem hiI_le (a b : Int) : a ≤ hiI a b ∧ b ≤ hiI a b := by unfold hiI; split <;> simp_all <;> omega
theorem loI_or (a b : Int) : loI a b = a ∨ loI a b = b := by unfold loI; split <;> simp
theorem hiI_or (a b : Int) : hiI a b = a ∨ hiI a b = b := by unfold hiI; split <;> simp
theorem wrap_bounds (k : IntKind) (n : Int) : k.min ≤ k.wrap n ∧ k.wrap n ≤ k.max := by
  cases k <;> simp [IntKind.wrap, IntKind.min, IntKind.max, IntKind.signed, IntKind.bits] <;> (try split) <;> omega
theorem wrap_within {k : IntKind} {n : Int} (h : k.min ≤ n ∧ n ≤ k.max) : k.wrap n = n := by
  cases k <;> simp [IntKind.wrap, IntKind.min, IntKind.max, IntKind.signed, IntKind.bits] at h ⊢ <;> (try split) <;> omega
theorem refine1_ok {e : IE} {c : BE} {t : Bool} {v : Int × Int} (hc : c.den ρ = t) (h : inIv (e.den ρ) v) : inIv (e.den ρ) (refine1 e c t v) := by
  obtain ⟨v1, v2⟩ := v
  obtain ⟨h1, h2⟩ := h
  simp only at h1 h2
  have key : ∀ n x : Int, (x < n → x ≤ loI v2 (n - 1) ∨ v2 < x) ∧ (¬ x < n → hiI v1 n ≤ x ∨ x < v1) ∧ (n < x → hiI v1 (n + 1) ≤ x ∨ x < v1) ∧ (¬ n < x → x ≤ loI v2 n ∨ v2 < x) := by
    intro n x
    have a1 := loI_or v2 (n - 1)
    have a2 := hiI_or v1 n
    have a3 := hiI_or v1 (n + 1)
    have a4 := loI_or v2 n
    omega
  have go : ∀ {x : IE} {a b : Int}, (x = e → a ≤ e.den ρ ∧ e.den ρ ≤ b) → inIv (e.den ρ) (if x.beq e = true then (a, b) else (v1, v2)) := by
    intro x a b hab
    split
    · rename_i hb; exact hab (IE.beq_eq hb)
    · exact ⟨h1, h2⟩
  unfold refine1
  split
  · rename_i x n
    refine go (fun he => ?_)
    subst he
    dsimp only
    have hc : x.den ρ < n := of_decide_eq_true hc
    have := (key n (x.den ρ)).1 hc
    omega
  · rename_i x n
    refine go (fun he => ?_)
    subst he
    dsimp only
    have hc : ¬ x.den ρ < n := of_decide_eq_false hc
    have := (key n (x.den ρ)).2.1 hc
    omega
  · rename_i n x _
    refine go (fun he => ?_)
    subst he
    dsimp only
    have hc : n < x.den ρ := of_decide_eq_true hc
    have := (key n (x.den ρ)).2.2.1 hc
    omega
  · rename_i n x _
    refine go (fun he => ?_)
    subst he
    dsimp only
    have hc : ¬ n < x.den ρ := of_decide_eq_false hc
    have := (key n (x.den ρ)).2.2.2 hc
    omega
  · rename_i x n
    refine go (fun he => ?_)
    subst he
    have hc : (x.den ρ == n) = true := hc
    have : x.den ρ = n := by simpa using hc
    omega
  · exact ⟨h1, h2⟩
theorem refine_ok {e : IE} : ∀ {l : List (BE × Bool)} {v : Int × Int}, (∀ c ∈ l, c.1.den ρ = c.2) → inIv (e.den ρ) v → inIv (e.den ρ) (refine e l v)
  | [], v, _, h => h
  | (c, t) :: l, v, hl, h => by
    simp only [refine]
    exact refine_ok (fun d hd => hl d (by simp [hd])) (refine1_ok (hl (c, t) (by simp)) h)
theorem fitIv_ok {k : IntKind} {n a b : Int} (h : a ≤ n ∧ n ≤ b) : ∀ v, fitIv k a b = some v → inIv (k.wrap n) v := by
  intro v hv
  unfold fitIv at hv
  split at hv
  · rename_i hw
    simp only [within, Bool.and_eq_true, decide_eq_true_eq] at hw
    cases hv
    rw [wrap_within (by omega)]; exact h
  · cases hv; exact wrap_bounds k n
theorem kindIv_ok {k : IntKind} {n : Int} : ∀ v, kindIv k = some v → inIv (k.wrap n) v := by
  intro v hv; cases hv; exact wrap_bounds k n
theorem ivOp_ok {op : BinOp} {x y : Iv} {m n : Int} (hx : ∀ v, x = some v → inIv m v) (hy : ∀ v, y = some v → inIv n v) : ∀ v, ivOp op x y = some v → inIv (plI op m n) v := by
  intro v hv
  unfold ivOp at hv
  split at hv
  · rename_i a b c d
    have h1 := hx _ rfl
    have h2 := hy _ rfl
    unfold inIv at h1 h2
    simp only at h1 h2
    split at hv
    · cases hv; exact ⟨by show a + c ≤ m + n; omega, by show m + n ≤ b + d; omega⟩
    · cases hv; exact ⟨by show a - d ≤ m - n; omega, by show m - n ≤ b - c; omega⟩
    · split at hv
      · rename_i h0
        simp only [Bool.and_eq_true, decide_eq_true_eq] at h0
        cases hv
        exact ⟨Int.mul_le_mul h1.1 h2.1 h0.2 (by omega), Int.mul_le_mul h1.2 h2.2 (by omega) (by omega)⟩
      · cases hv
    · cases hv
  · cases hv
theorem ivAr_ok {op : BinOp} {k : IntKind} {x y : Iv} {m n : Int} (hx : ∀ v, x = some v → inIv m v) (hy : ∀ v, y = some v → inIv n v) : ∀ v, ivAr op k x y = some v → inIv (arI op k m n) v := by
  intro v hv
  cases op <;> simp only [ivAr] at hv
  case add =>
    split at hv
    · have h1 := hx _ rfl
      have h2 := hy _ rfl
      unfold inIv at h1 h2
      simp only at h1 h2
      exact fitIv_ok (by omega) v hv
    · exact kindIv_ok v hv
  case sub =>
    split at hv
    · have h1 := hx _ rfl
      have h2 := hy _ rfl
      unfold inIv at h1 h2
      simp only at h1 h2
      exact fitIv_ok (by omega) v hv
    · exact kindIv_ok v hv
  case mul =>
    split at hv
    · have h1 := hx _ rfl
      have h2 := hy _ rfl
      unfold inIv at h1 h2
      simp only at h1 h2
      split at hv
      · rename_i h0
        simp only [Bool.and_eq_true, decide_eq_true_eq] at h0
        exact fitIv_ok ⟨Int.mul_le_mul h1.1 h2.1 h0.2 (by omega), Int.mul_le_mul h1.2 h2.2 (by omega) (by omega)⟩ v hv
      · exact kindIv_ok v hv
    · exact kindIv_ok v hv
  case rem =>
    split at hv
    · rename_i a b c d
      have h1 := hx _ rfl
      have h2 := hy _ rfl
      unfold inIv at h1 h2
      simp only at h1 h2
      split at hv
      · rename_i h0
        simp only [Bool.and_eq_true, decide_eq_true_eq] at h0
        cases hv
        have e : m.tmod n = m % n := Int.tmod_eq_emod_of_nonneg (by omega)
        show 0 ≤ m.tmod n ∧ m.tmod n ≤ loI b (d - 1)
        rw [e]
        have := Int.emod_nonneg m (show n ≠ 0 by omega)
        have := Int.emod_lt_of_pos m (show 0 < n by omega)
        have h5 := Int.mul_ediv_add_emod m n
        have h6 := Int.mul_nonneg (show 0 ≤ n by omega) (Int.ediv_nonneg (show 0 ≤ m by omega) (show 0 ≤ n by omega))
        rcases loI_or b (d - 1) with h | h <;> omega
      · split at hv
        · rename_i h0
          simp only [decide_eq_true_eq] at h0
          cases hv
          show -(d - 1) ≤ m.tmod n ∧ m.tmod n ≤ d - 1
          have h3 := Int.tmod_lt_of_pos m (show 0 < n by omega)
          have h4 := Int.tmod_lt_of_pos (-m) (show 0 < n by omega)
          rw [Int.neg_tmod] at h4
          omega
        · cases hv
    · cases hv
  case shr =>
    have old : ∀ {a b : Int}, inIv m (a, b) → inIv (arI .shr k m n) (loI a 0, hiI b 0) := by
      intro a b h1
      unfold inIv at h1
      simp only at h1
      show loI a 0 ≤ m.fdiv (2 ^ (min n.toNat k.bits)) ∧ m.fdiv (2 ^ (min n.toNat k.bits)) ≤ hiI b 0
      have hp : (0 : Int) < 2 ^ (min n.toNat k.bits) := Int.pow_pos (by decide)
      generalize (2 : Int) ^ (min n.toNat k.bits) = q at hp
      rw [Int.fdiv_eq_ediv_of_nonneg _ (by omega)]
      have ha := (loI_le a 0)
      have hb := (hiI_le b 0)
      by_cases hm : 0 ≤ m
      · have h3 := Int.ediv_nonneg hm (show 0 ≤ q by omega)
        have h4 := Int.ediv_le_self q hm
        omega
      · have h3 : m / q < 0 := Int.ediv_neg_of_neg_of_pos (by omega) hp
        have h4 : m ≤ m / q := by
          rw [Int.le_ediv_iff_mul_le hp]
          have : m * q ≤ m * 1 := Int.mul_le_mul_of_nonpos_left (by omega) (by omega)
          omega
        omega
    split at hv
    · rename_i a b c d
      have h1 := hx _ rfl
      have h2 := hy _ rfl
      split at hv
      · rename_i h0
        simp only [Bool.and_eq_true, decide_eq_true_eq] at h0
        obtain ⟨⟨⟨h3, h4⟩, h5⟩, h6⟩ := h0
        unfold inIv at h1 h2
        simp only at h1 h2
        obtain rfl : n = c := by omega
        cases hv
        have e : min n.toNat k.bits = n.toNat := by omega
        show a / _ ≤ m.fdiv (2 ^ (min n.toNat k.bits)) ∧ m.fdiv (2 ^ (min n.toNat k.bits)) ≤ b / _
        have hp : (0 : Int) < 2 ^ n.toNat := Int.pow_pos (by decide)
        rw [e, Int.fdiv_eq_ediv_of_nonneg _ (by omega)]
        exact ⟨Int.ediv_le_ediv hp h1.1, Int.ediv_le_ediv hp h1.2⟩
      · cases hv; exact old h1
    · cases hv; exact old (hx _ rfl)
    · cases hv
  case quo =>
    split at hv
    · have h1 := hx _ rfl
      have h2 := hy _ rfl
      unfold inIv at h1 h2
      simp only at h1 h2
      split at hv
      · rename_i h0
        simp only [Bool.and_eq_true, decide_eq_true_eq] at h0
        have e : m.tdiv n = m / n := Int.tdiv_eq_ediv_of_nonneg (by omega)
        have h3 := Int.ediv_nonneg (show 0 ≤ m by omega) (show 0 ≤ n by omega)
        have h4 := Int.ediv_le_self n (show 0 ≤ m by omega)
        exact fitIv_ok (n := m.tdiv n) (by rw [e]; omega) v hv
      · exact kindIv_ok v hv
    · exact kindIv_ok v hv
  case shl =>
    split at hv
    · rename_i a b c d
      have h1 := hx _ rfl
      have h2 := hy _ rfl
      split at hv
      · rename_i h0
        simp only [Bool.and_eq_true, decide_eq_true_eq] at h0
        obtain ⟨⟨h3, h5⟩, h6⟩ := h0
        unfold inIv at h1 h2
        simp only at h1 h2
        have hp : (0 : Int) < 2 ^ n.toNat := Int.pow_pos (by decide)
        have e : min n.toNat k.bits = n.toNat := by omega
        refine fitIv_ok (n := m * 2 ^ (min n.toNat k.bits)) ?_ v hv
        rw [e]
        obtain rfl : c = n := by omega
        exact ⟨Int.mul_le_mul_of_nonneg_right h1.1 (by omega), Int.mul_le_mul_of_nonneg_right h1.2 (by omega)⟩
      · exact kindIv_ok v hv
    · exact kindIv_ok v hv
  case and =>
    split at hv
    · rename_i a b c d
      have h1 := hx _ rfl
      have h2 := hy _ rfl
      unfold inIv at h1 h2
      simp only at h1 h2
      split at hv
      · rename_i h0
        simp only [Bool.and_eq_true, decide_eq_true_eq] at h0
        refine fitIv_ok (n := ((BitVec.ofInt k.bits m &&& BitVec.ofInt k.bits n).toNat : Int)) ?_ v hv
        have e1 : ∀ z : Int, 0 ≤ z → ((BitVec.ofInt k.bits z).toNat : Int) ≤ z := by
          intro z hz
          rw [BitVec.toNat_ofInt]
          have := Int.emod_nonneg z (show ((2 ^ k.bits : Nat) : Int) ≠ 0 by have := Nat.two_pow_pos k.bits; omega)
          have h5 := Int.mul_ediv_add_emod z ((2 ^ k.bits : Nat) : Int)
          have h6 := Int.mul_nonneg (show (0 : Int) ≤ ((2 ^ k.bits : Nat) : Int) by exact Int.natCast_nonneg _) (Int.ediv_nonneg hz (show (0 : Int) ≤ ((2 ^ k.bits : Nat) : Int) by exact Int.natCast_nonneg _))
          omega
        have a1 := e1 m (by omega)
        have a2 := e1 n (by omega)
        have a3 : (BitVec.ofInt k.bits m &&& BitVec.ofInt k.bits n).toNat ≤ (BitVec.ofInt k.bits m).toNat := by rw [BitVec.toNat_and]; exact Nat.and_le_left
        have a4 : (BitVec.ofInt k.bits m &&& BitVec.ofInt k.bits n).toNat ≤ (BitVec.ofInt k.bits n).toNat := by rw [BitVec.toNat_and]; exact Nat.and_le_right
        rcases loI_or b d with h | h <;> omega
      · exact kindIv_ok v hv
    · exact kindIv_ok v hv
  case or => exact kindIv_ok v hv
  case xor => exact kindIv_ok v hv
  case andNot => exact kindIv_ok v hv
  all_goals
    cases hv
    show k.min ≤ 0 ∧ 0 ≤ k.max
    cases k <;> decide
theorem ivl_ok {X : Ctx} (hX : Knows ρ X) : ∀ {e : IE} {v : Int × Int}, ivl X e = some v → inIv (e.den ρ) v
  | .lit n, v, h => by
    simp only [ivl, Option.some.injEq] at h
    subst h
    exact ⟨Int.le_refl _, Int.le_refl _⟩
  | .var i, v, h => by
    simp only [ivl, Option.map_eq_some_iff] at h
    obtain ⟨u, hu, rfl⟩ := h
    exact refine_ok hX.pc (hX.rg i u hu)
  | .ar op k a b, v, h => by
    simp only [ivl, Option.map_eq_some_iff] at h
    obtain ⟨u, hu, rfl⟩ := h
    exact refine_ok hX.pc (ivAr_ok (fun v hv => ivl_ok hX hv) (fun v hv => ivl_ok hX hv) u hu)
  | .wr k a, v, h => by
    simp only [ivl, Option.map_eq_some_iff] at h
    obtain ⟨u, hu, rfl⟩ := h
    refine refine_ok hX.pc ?_
    split at hu
    · rename_i hv
      exact fitIv_ok (ivl_ok hX hv) u hu
    · exact kindIv_ok u hu
  | .mn a b, v, h => by
    simp only [ivl, Option.map_eq_some_iff] at h
    obtain ⟨u, hu, rfl⟩ := h
    refine refine_ok hX.pc ?_
    split at hu
    · rename_i x y z t h1 h2
      cases hu
      have k1 := ivl_ok hX h1
      have k2 := ivl_ok hX h2
      unfold inIv at *
      have e : (IE.mn a b).den ρ = a.den ρ ∨ (IE.mn a b).den ρ = b.den ρ := by simp only [IE.den, mnI]; split <;> simp
      have e2 : (IE.mn a b).den ρ ≤ a.den ρ ∧ (IE.mn a b).den ρ ≤ b.den ρ := by simp only [IE.den, mnI]; split <;> omega
      have l1 := loI_le x z
      have l2 := loI_or y t
      simp only at *
      omega
    · cases hu
  | .mx a b, v, h => by
    simp only [ivl, Option.map_eq_some_iff] at h
    obtain ⟨u, hu, rfl⟩ := h
    refine refine_ok hX.pc ?_
    split at hu
    · rename_i x y z t h1 h2
      cases hu
      have k1 := ivl_ok hX h1
      have k2 := ivl_ok hX h2
      unfold inIv at *
      have e : (IE.mx a b).den ρ = a.den ρ ∨ (IE.mx a b).den ρ = b.den ρ := by simp only [IE.den, mxI]; split <;> simp
      have e2 : a.den ρ ≤ (IE.mx a b).den ρ ∧ b.den ρ ≤ (IE.mx a b).den ρ := by simp only [IE.den, mxI]; split <;> omega
      have l1 := hiI_le y t
      have l2 := hiI_or x z
      simp only at *
      omega
    · cases hu
  | .pl op a b, v, h => by
    simp only [ivl, Option.map_eq_some_iff] at h
    obtain ⟨u, hu, rfl⟩ := h
    exact refine_ok hX.pc (ivOp_ok (fun v hv => ivl_ok hX hv) (fun v hv => ivl_ok hX hv) u hu)
  | .ap f a b c, v, h => by
    simp only [ivl, Option.map_eq_some_iff] at h
    obtain ⟨u, hu, rfl⟩ := h
    exact refine_ok hX.pc (hX.ar f u hu _ _ _)
  | .tab l i, v, h => by
    simp only [ivl] at h
    split at h
    · rename_i ha
      cases h
      rw [List.all_eq_true] at ha
      refine ⟨Int.natCast_nonneg _, ?_⟩
      show ((l.getD (i.den ρ).toNat 0 : Nat) : Int) ≤ 255
      rw [List.getD_eq_getElem?_getD]
      cases hg : l[(i.den ρ).toNat]? with
      | none => simp
      | some n =>
        have := Nat.le_of_ble_eq_true (ha n (List.mem_of_getElem? hg))
        simp only [Option.getD_some]; omega
    · cases h
theorem fits_ok {X : Ctx} (hX : Knows ρ X) {k : IntKind} {e : IE} (h : fits X k e = true) : k.min ≤ e.den ρ ∧ e.den ρ ≤ k.max := by
  unfold fits at h
  split at h
  · rename_i a b hv
    have := ivl_ok hX hv
    simp only [within, Bool.and_eq_true, decide_eq_true_eq] at h
    unfold inIv at this
    simp only at this
    omega
  · cases h
theorem byIv0_ok {X : Ctx} (hX : Knows ρ X) {op : BinOp} {a b : IE} {t : Bool} (h : byIv0 X op a b = some t) : cmpI op (a.den ρ) (b.den ρ) = t := by
  unfold byIv0 at h
  split at h
  · rename_i x y z u h1 h2
    have k1 := ivl_ok hX h1
    have k2 := ivl_ok hX h2
    unfold inIv at k1 k2
    simp only at k1 k2
    split at h
    · simp only [decide_eq_true_eq] at h
      split at h
      · cases h; exact decide_eq_true (by omega)
      · split at h
        · cases h; exact decide_eq_false (by omega)
        · cases h
    · simp only [decide_eq_true_eq, Bool.or_eq_true, Bool.and_eq_true] at h
      split at h
      · cases h
        show (a.den ρ == b.den ρ) = false
        simp; omega
      · split at h
        · cases h
          show (a.den ρ == b.den ρ) = true
          simp; omega
        · cases h
    · cases h
  · cases h
theorem byIv_ok {X : Ctx} (hX : Knows ρ X) {op : BinOp} {a b : IE} {t : Bool} (h : byIv X op a b = some t) : cmpI op (a.den ρ) (b.den ρ) = t := by
  unfold byIv at h
  split at h
  · split at h
    · rename_i he
      cases h
      rw [IE.beq_eq he]
      show (b.den ρ == b.den ρ) = true
      simp
    · exact byIv0_ok hX h
  · split at h
    · rename_i he
      cases h
      rw [IE.beq_eq he]
      show decide (b.den ρ < b.den ρ) = false
      exact decide_eq_false (by omega)
    · exact byIv0_ok hX h
  · exact byIv0_ok hX h
theorem mkArY_den {X : Ctx} (hX : Knows ρ X) (op : BinOp) (k : IntKind) (a b : IE) : (mkArY X op k a b).den ρ = arI op k (a.den ρ) (b.den ρ) := by
  have h0 := mkAr_den (ρ := ρ) op k a b
  have key : ∀ v, ivOp op (ivl X a) (ivl X b) = some v → within k v.1 v.2 = true → k.wrap (plI op (a.den ρ) (b.den ρ)) = plI op (a.den ρ) (b.den ρ) := by
    intro v hv hw
    have := ivOp_ok (fun v hv => ivl_ok hX hv) (fun v hv => ivl_ok hX hv) v hv
    simp only [within, Bool.and_eq_true, decide_eq_true_eq] at hw
    unfold inIv at this
    exact wrap_within (by omega)
  unfold mkArY
  split
  · rename_i n hn; rw [hn] at h0; exact h0
  · rename_i e hn
    split
    all_goals first
      | exact h0
      | (split
         · rename_i x y hv
           split
           · rename_i hw; exact (key _ hv hw).symm
           · exact h0
         · exact h0)
theorem mnI_comm (x y : Int) : mnI x y = mnI y x := by unfold mnI; split <;> split <;> omega
theorem mxI_comm (x y : Int) : mxI x y = mxI y x := by unfold mxI; split <;> split <;> omega
theorem litSecond_mn (a b : IE) : (litSecond .mn a b).den ρ = mnI (a.den ρ) (b.den ρ) := by
  unfold litSecond
  split
  · exact mnI_comm _ _
  · rfl
theorem litSecond_mx (a b : IE) : (litSecond .mx a b).den ρ = mxI (a.den ρ) (b.den ρ) := by
  unfold litSecond
  split
  · exact mxI_comm _ _
  · rfl
theorem mkMnX_den {X : Ctx} (hX : Knows ρ X) (a b : IE) : (mkMnX X a b).den ρ = mnI (a.den ρ) (b.den ρ) := by
  have h0 := mkMn_den (ρ := ρ) a b
  unfold mkMnX
  split
  · split
    · rename_i n hn; rw [hn] at h0; exact h0
    · split
      · rename_i h
        have := byIv_ok hX h
        have : b.den ρ < a.den ρ := of_decide_eq_true this
        unfold mnI; rw [if_pos this]
      · rename_i h
        have := byIv_ok hX h
        have : ¬ b.den ρ < a.den ρ := of_decide_eq_false this
        unfold mnI; rw [if_neg this]
      · exact litSecond_mn a b
  · exact h0
theorem mkMxX_den {X : Ctx} (hX : Knows ρ X) (a b : IE) : (mkMxX X a b).den ρ = mxI (a.den ρ) (b.den ρ) := by
  have h0 := mkMx_den (ρ := ρ) a b
  unfold mkMxX
  split
  · split
    · rename_i n hn; rw [hn] at h0; exact h0
    · split
      · rename_i h
        have := byIv_ok hX h
        have : a.den ρ < b.den ρ := of_decide_eq_true this
        unfold mxI; rw [if_pos this]
      · rename_i h
        have := byIv_ok hX h
        have : ¬ a.den ρ < b.den ρ := of_decide_eq_false this
        unfold mxI; rw [if_neg (by omega)]
      · exact litSecond_mx a b
  · exact h0
theorem pinV_den {v : Nat} : ∀ {pc : List (BE × Bool)} (hpc : ∀ c ∈ pc, c.1.den ρ = c.2), (pinV v pc).den ρ = ρ.i v
  | [], _ => rfl
  | c :: pc, hpc => by
    have ih := pinV_den (v := v) (pc := pc) (fun c hc => hpc c (by simp [hc]))
    unfold pinV
    split
    · rename_i h; cases h
    · rename_i u n l h
      cases h
      split
      · rename_i hu
        have hu : u = v := by simpa using hu
        subst hu
        have := hpc (.cmp .eql (.var u) (.lit n), true) (by simp)
        simp only [BE.den, cmpI, IE.den, beq_iff_eq] at this
        simp only [IE.den, this]
      · exact ih
    · rename_i h
      cases h
      exact ih
theorem pinE_den {pc : List (BE × Bool)} (hpc : ∀ c ∈ pc, c.1.den ρ = c.2) (e : IE) : (pinE pc e).den ρ = e.den ρ := by
  unfold pinE
  split
  · exact pinV_den hpc
  · rfl
theorem nameI_den {pc : List (BE × Bool)} (hpc : ∀ c ∈ pc, c.1.den ρ = c.2) : ∀ {l : List (IE × IE)} (h : ∀ p ∈ l, p.1.den ρ = p.2.den ρ) (e : IE), (nameI pc l e).den ρ = e.den ρ
  | [], _, e => rfl
  | (d, v) :: l, h, e => by
    simp only [nameI]
    split
    · rename_i hd
      rw [← IE.beq_eq hd, pinE_den hpc]
      exact (h (d, v) (by simp)).symm
    · exact nameI_den hpc (fun p hp => h p (by simp [hp])) e
theorem nameB_den : ∀ {l : List (BE × Nat)} (h : ∀ p ∈ l, p.1.den ρ = ρ.b p.2) (e : BE), (nameB l e).den ρ = e.den ρ
  | [], _, e => rfl
  | (d, v) :: l, h, e => by
    simp only [nameB]
    split
    · rename_i hd
      rw [← BE.beq_eq hd]
      exact (h (d, v) (by simp)).symm
    · exact nameB_den (fun p hp => h p (by simp [hp])) e
theorem mkArX_den {X : Ctx} (hX : Knows ρ X) (op : BinOp) (k : IntKind) (a b : IE) : (mkArX X op k a b).den ρ = arI op k (a.den ρ) (b.den ρ) := by
  unfold mkArX
  rw [nameI_den hX.pc hX.nm, mkArY_den hX]
theorem mkWrX_den {X : Ctx} (hX : Knows ρ X) (k : IntKind) (a : IE) : (mkWrX X k a).den ρ = k.wrap (a.den ρ) := by
  have h0 := mkWr_den (ρ := ρ) k a
  unfold mkWrX
  rw [nameI_den hX.pc hX.nm]
  unfold mkWrY
  split
  · rename_i n hn; rw [hn] at h0; exact h0
  · split
    · rename_i hf; exact (wrap_within (fits_ok hX hf)).symm
    · exact h0
section
variable {S : Type} {X : Ctx} (hX : Knows ρ X)
include hX
theorem atom_ok {b : BE} {s s' : S} {t : Bool} {r w : List Loc} (h : atom X b s = .ok t s' r w) : b.den ρ = t ∧ s' = s := by
  unfold atom at h
  cases hu : look X.pc b with
  | some u =>
    simp only [hu] at h
    obtain ⟨rfl, rfl, _, _⟩ := M.pure_ok h
    exact ⟨look_ok hu hX.pc, rfl⟩
  | none => simp only [hu] at h; cases h
theorem atomC_ok {op : BinOp} {a b : IE} {s s' : S} {t : Bool} {r w : List Loc} (h : atomC X op a b s = .ok t s' r w) : cmpI op (a.den ρ) (b.den ρ) = t ∧ s' = s := by
  unfold atomC at h
  cases hb : byIv X op a b with
  | some u =>
    simp only [hb] at h
    obtain ⟨rfl, rfl, _, _⟩ := M.pure_ok h
    exact ⟨byIv_ok hX hb, rfl⟩
  | none =>
    simp only [hb] at h
    exact atom_ok hX h
theorem decCmp_ok {op : BinOp} {a b : IE} {s s' : S} {t : Bool} {r w : List Loc} (h : decCmp X op a b s = .ok t s' r w) : cmpI op (a.den ρ) (b.den ρ) = t ∧ s' = s := by
  unfold decCmp at h
  split at h
  · obtain ⟨u, s1, _, _, _, _, h1, h2, _, _⟩ := M.bind_ok h
    obtain ⟨e, rfl⟩ := atomC_ok hX h1
    obtain ⟨rfl, rfl, _, _⟩ := M.pure_ok h2
    refine ⟨?_, rfl⟩
    rw [← e]; rfl
  · obtain ⟨u, s1, _, _, _, _, h1, h2, _, _⟩ := M.bind_ok h
    obtain ⟨e, rfl⟩ := atomC_ok hX h1
    obtain ⟨rfl, rfl, _, _⟩ := M.pure_ok h2
    refine ⟨?_, rfl⟩
    rw [← e]
    show decide (a.den ρ ≤ b.den ρ) = !decide (b.den ρ < a.den ρ)
    by_cases h : b.den ρ < a.den ρ
    · rw [decide_eq_true h, decide_eq_false (by omega)]; rfl
    · rw [decide_eq_false h, decide_eq_true (by omega)]; rfl
  · obtain ⟨e1, e2⟩ := atomC_ok hX h; exact ⟨e1, e2⟩
  · obtain ⟨u, s1, _, _, _, _, h1, h2, _, _⟩ := M.bind_ok h
    obtain ⟨e, rfl⟩ := atomC_ok hX h1
    obtain ⟨rfl, rfl, _, _⟩ := M.pure_ok h2
    refine ⟨?_, rfl⟩
    rw [← e]
    show decide (a.den ρ ≥ b.den ρ) = !decide (a.den ρ < b.den ρ)
    by_cases h : a.den ρ < b.den ρ
    · rw [decide_eq_true h, decide_eq_false (by omega)]; rfl
    · rw [decide_eq_false h, decide_eq_true (by omega)]; rfl
  · obtain ⟨e1, e2⟩ := atomC_ok hX h; exact ⟨e1, e2⟩
theorem dec_ok : ∀ {b : BE} {s s' : S} {t : Bool} {r w : List Loc}, dec X b s = .ok t s' r w → b.den ρ = t ∧ s' = s
  | .lit b, s, s', t, r, w, h => by
    unfold dec at h
    obtain ⟨rfl, rfl, _, _⟩ := M.pure_ok h
    exact ⟨rfl, rfl⟩
  | .var i, s, s', t, r, w, h => by unfold dec at h; exact atom_ok hX h
  | .not a, s, s', t, r, w, h => by
    unfold dec at h
    obtain ⟨u, s1, _, _, _, _, h1, h2, _, _⟩ := M.bind_ok h
    obtain ⟨e, rfl⟩ := dec_ok h1
    obtain ⟨rfl, rfl, _, _⟩ := M.pure_ok h2
    exact ⟨by simp [BE.den, e], rfl⟩
  | .and a b, s, s', t, r, w, h => by
    unfold dec at h
    obtain ⟨u, s1, _, _, _, _, h1, h2, _, _⟩ := M.bind_ok h
    obtain ⟨e, rfl⟩ := dec_ok h1
    split at h2
    · rename_i hu
      obtain ⟨e2, rfl⟩ := dec_ok h2
      exact ⟨by simp [BE.den, e, e2, hu], rfl⟩
    · rename_i hu
      obtain ⟨rfl, rfl, _, _⟩ := M.pure_ok h2
      exact ⟨by simp [BE.den, e]; intro hh; exact absurd hh hu, rfl⟩
  | .eqb a b, s, s', t, r, w, h => by
    unfold dec at h
    obtain ⟨u, s1, _, _, _, _, h1, h2, _, _⟩ := M.bind_ok h
    obtain ⟨e, rfl⟩ := dec_ok h1
    obtain ⟨v, s2, _, _, _, _, h3, h4, _, _⟩ := M.bind_ok h2
    obtain ⟨e2, rfl⟩ := dec_ok h3
    obtain ⟨rfl, rfl, _, _⟩ := M.pure_ok h4
    exact ⟨by simp [BE.den, e, e2], rfl⟩
  | .cmp op a b, s, s', t, r, w, h => by unfold dec at h; exact decCmp_ok hX h
theorem decI_ok {op : BinOp} {a b : IE} {s s' : S} {t : Bool} {r w : List Loc} (h : decI X op a b s = .ok t s' r w) : cmpI op (a.den ρ) (b.den ρ) = t ∧ s' = s := by
  obtain ⟨e, h2⟩ := dec_ok hX h
  exact ⟨by rw [← mkCmp_den]; exact e, h2⟩
theorem which_ok {e : IE} : ∀ {n j i : Nat} {s s' : S} {r w : List Loc}, which X e n j s = .ok i s' r w → e.den ρ = i ∧ i < j + n ∧ s' = s
  | 0, j, i, s, s', r, w, h => by unfold which at h; cases h
  | n + 1, j, i, s, s', r, w, h => by
    unfold which at h
    obtain ⟨u, s1, _, _, _, _, h1, h2, _, _⟩ := M.bind_ok h
    obtain ⟨e1, rfl⟩ := decI_ok hX h1
    split at h2
    · rename_i hu
      obtain ⟨rfl, rfl, _, _⟩ := M.pure_ok h2
      refine ⟨?_, by omega, rfl⟩
      rw [hu] at e1
      simpa [cmpI, IE.den] using e1
    · obtain ⟨e2, h3, rfl⟩ := which_ok h2
      exact ⟨e2, by omega, rfl⟩
theorem place_ok {e : IE} {n i : Nat} {s s' : S} {r w : List Loc} (h : place X e n s = .ok i s' r w) : e.den ρ = i ∧ i < n ∧ s' = s := by
  unfold place at h
  split at h
  · split at h
    · rename_i j hj
      obtain ⟨rfl, rfl, _, _⟩ := M.pure_ok h
      exact ⟨rfl, by simpa [Nat.blt_eq] using hj, rfl⟩
    · cases h
  · cases h
  · obtain ⟨e1, h1, h2⟩ := which_ok hX h
    exact ⟨e1, by omega, h2⟩
theorem inX_ok {d : XD} {j : Nat} {e : IE} (hd : X.xs[j]? = some d) {s s' : S} {u : Unit} {r w : List Loc} (h : inX X d e s = .ok u s' r w) :
    s' = s ∧ ∃ B, ρ.x j = some B ∧ ρ.i d.n = B.len ∧ B.sz = d.ks.length ∧ 0 ≤ e.den ρ ∧ (e.den ρ).toNat < B.len ∧ (∀ c k, d.ks[c]? = some k → B.c[B.off + ((e.den ρ).toNat * B.sz + c)]? = some ((cellX (d.f + c) e k).den ρ id)) ∧ B.em = none := by
  unfold inX at h
  obtain ⟨neg, s1, _, _, _, _, h1, h2, _, _⟩ := M.bind_ok h
  obtain ⟨e1, rfl⟩ := decI_ok hX h1
  obtain ⟨low, s2, _, _, _, _, h3, h4, _, _⟩ := M.bind_ok h2
  obtain ⟨e2, rfl⟩ := decI_ok hX h3
  split at h4
  · rename_i hc
    simp only [Bool.and_eq_true, Bool.not_eq_true'] at hc
    obtain ⟨rfl, rfl⟩ := hc
    obtain ⟨_, rfl, _, _⟩ := M.pure_ok h4
    have l0 : ¬ e.den ρ < 0 := of_decide_eq_false e1
    have l1 : e.den ρ < ρ.i d.n := of_decide_eq_true e2
    have hx := hX.xs j d hd
    cases hB : ρ.x j with
    | none =>
      rw [hB] at hx
      have hx : ρ.i d.n = 0 := hx
      omega
    | some B =>
      rw [hB] at hx
      obtain ⟨x1, x2, x4, x3⟩ := hx
      have hlt : (e.den ρ).toNat < B.len := by omega
      refine ⟨rfl, B, rfl, x1, x2, by omega, hlt, fun c k hk => ?_, x4.resolve_right (by omega)⟩
      rw [x3 _ c k hlt hk]
      have hi : ((e.den ρ).toNat : Int) = e.den ρ := Int.toNat_of_nonneg (by omega)
      cases k <;> simp only [cellV, cellX, SV.den, IE.den, BE.den, cmpI, hi]
  · cases h4
end
end Ev
end Go.Proofs.Ytmgfnejiienghaa
