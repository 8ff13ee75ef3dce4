/- A checked evaluator: codes and calls. -/
import Derived.Test.YtmgfnejiienghaaEvJ
import Derived.LoopN
import Derived.Scope
namespace Go.Proofs.Ytmgfnejiienghaa
open Go Go.RowKit
set_option linter.unusedVariables false
namespace Ev

/-- the state stands for this frame and this world; since (φ0, st0) blocks were laid or written alone -/
def RelF (ρ : Env) (E : List (Nat × Nat)) (w0 : World) (φ0 : Nat → Nat) (st0 : Store) (s : St) (a : Act) (w : World) : Prop :=
  ∃ φ, Step ρ E w0 φ0 st0 φ s.st w ∧ RelT ρ φ s a
variable {P : Program} {ρ : Env} {E : List (Nat × Nat)} {w0 : World} {φ φ0 : Nat → Nat} {st st0 : Store} {w : World}

theorem rdOp_ok {x : Operand} {s s' : St} {v : SV} {r wl : List Loc} (h : rdOp x s = .ok v s' r wl) : s' = s ∧ ∀ φ a, RelT ρ φ s a → a.eval x = v.den ρ φ ∧ ∀ c ∈ v.ids, (s.st.get c).isSome := by
  cases x with
  | tmp t =>
    change (do let v ← rdT t; match v with | .any => M.fail (.call t []) | v => pure v : M St SV) s = _ at h
    obtain ⟨u, s1, _, _, _, _, h1, h2, _, _⟩ := M.bind_ok h
    rw [rdT_eq] at h1
    cases ht : s.tm[t]? with
    | none => simp only [ht] at h1; cases h1
    | some u' =>
      simp only [ht] at h1
      cases h1
      have key : u ≠ .any ∧ v = u ∧ s' = s := by
        cases u <;> first | (cases h2; done) | (obtain ⟨rfl, rfl, _, _⟩ := M.pure_ok h2; exact ⟨by simp, rfl, rfl⟩)
      obtain ⟨hne, rfl, rfl⟩ := key
      refine ⟨rfl, fun φ a hr => ⟨?_, hr.cl t v ht⟩⟩
      have := (hr.tm t v ht).resolve_left hne
      simp [Act.eval, this]
  | const c =>
    obtain ⟨rfl, rfl, _, _⟩ := M.pure_ok h
    exact ⟨rfl, fun φ a hr => ⟨(ofValue_den c).symm, by rw [ofValue_ids]; simp⟩⟩
  | func f =>
    obtain ⟨rfl, rfl, _, _⟩ := M.pure_ok h
    exact ⟨rfl, fun φ a hr => ⟨rfl, by simp [SV.ids, SV.idsL]⟩⟩
  | global g => cases h
theorem rdAll_ok : ∀ {l : List Operand} {s s' : St} {vs : List SV} {r wl : List Loc}, rdAll l s = .ok vs s' r wl → s' = s ∧ ∀ φ a, RelT ρ φ s a → l.map a.eval = SV.denL ρ φ vs
  | [], s, s', vs, r, wl, h => by
    obtain ⟨rfl, rfl, _, _⟩ := M.pure_ok h
    exact ⟨rfl, fun φ a hr => rfl⟩
  | x :: l, s, s', vs, r, wl, h => by
    obtain ⟨v, s1, _, _, _, _, h1, h2, _, _⟩ := M.bind_ok h
    obtain ⟨rfl, e1⟩ := rdOp_ok (ρ := ρ) h1
    obtain ⟨us, s2, _, _, _, _, h3, h4, _, _⟩ := M.bind_ok h2
    obtain ⟨rfl, e2⟩ := rdAll_ok h3
    obtain ⟨rfl, rfl, _, _⟩ := M.pure_ok h4
    exact ⟨rfl, fun φ a hr => by simp only [List.map_cons, SV.denL, (e1 φ a hr).1, e2 φ a hr]⟩
theorem putS_ok {dst : Option Tmp} {v : SV} {s s' : St} {r wl : List Loc} {u : Unit} (h : putS dst v s = .ok u s' r wl) :
    s'.st = s.st ∧ ∀ φ a, RelT ρ φ s a → (∀ c ∈ v.ids, (s.st.get c).isSome) → RelT ρ φ s' (a.put dst (v.den ρ φ)) := by
  cases dst with
  | none =>
    obtain ⟨_, rfl, _, _⟩ := M.pure_ok h
    exact ⟨rfl, fun φ a hr _ => hr⟩
  | some t =>
    change wrT t v s = _ at h
    rw [wrT_eq] at h
    cases ht : s.tm[t]? with
    | none => simp only [ht] at h; cases h
    | some u' =>
      simp only [ht] at h
      cases h
      have hlt : t < s.tm.length := (List.getElem?_eq_some_iff.1 ht).1
      refine ⟨St.setT_st s t v, fun φ a hr hcl => ⟨by rw [St.setT_tm]; simp [Act.put, hr.len], hr.df, fun i x hx => ?_, fun i x hx c hc => ?_⟩⟩
      · rw [St.setT_tm, List.getElem?_set] at hx
        split at hx
        · rename_i hti
          subst hti
          cases hx
          right
          have : t < a.tmps.size := by rw [hr.len]; exact hlt
          simp [Act.put, this]
        · rename_i hti
          rcases hr.tm i x hx with h1 | h1
          · exact .inl h1
          · right
            simp only [Act.put]
            rw [Array.getElem?_setIfInBounds_ne hti]; exact h1
      · rw [St.setT_tm, List.getElem?_set] at hx
        rw [St.setT_st]
        split at hx
        · cases hx
          exact hcl c hc
        · exact hr.cl i x hx c hc
theorem wants_ok {X : Ctx} (hX : Knows ρ X) {ops : Array Oper} {o : Oper} {s s' : St} {b : Bool} {r wl : List Loc} (h : wants X ops o s = .ok b s' r wl) :
    s' = s ∧ ∀ φ a, RelT ρ φ s a → Region.wanted o (yielded ops a.tmps) = b := by
  unfold wants at h
  cases hg : o.guard with
  | none =>
    simp only [hg] at h
    obtain ⟨rfl, rfl, _, _⟩ := M.pure_ok h
    exact ⟨rfl, fun φ a _ => by simp [Region.wanted, hg]⟩
  | some q =>
    obtain ⟨j, want⟩ := q
    simp only [hg] at h
    cases hd : (ops[j]?).bind (·.dst) with
    | none =>
      simp only [hd] at h
      obtain ⟨rfl, rfl, _, _⟩ := M.pure_ok h
      exact ⟨rfl, fun φ a _ => by simp [Region.wanted, hg, yielded, hd]⟩
    | some t =>
      simp only [hd] at h
      obtain ⟨v, s1, _, _, _, _, h1, h2, _, _⟩ := M.bind_ok h
      rw [rdT_eq] at h1
      cases ht : s.tm[t]? with
      | none => simp only [ht] at h1; cases h1
      | some u' =>
        simp only [ht] at h1
        cases h1
        have hy : ∀ φ a, RelT ρ φ s a → v ≠ .any → a.tmps[t]? = some (v.den ρ φ) := fun φ a hr hne => (hr.tm t v ht).resolve_left hne
        match v, h2, hy with
        | .bool e, h2, hy =>
          obtain ⟨x, s1, _, _, _, _, h3, h4, _, _⟩ := M.bind_ok h2
          obtain ⟨e1, rfl⟩ := dec_ok hX h3
          obtain ⟨rfl, rfl, _, _⟩ := M.pure_ok h4
          refine ⟨rfl, fun φ a hr => ?_⟩
          have := hy φ a hr (by simp)
          cases x <;> cases want <;> simp [Region.wanted, hg, yielded, hd, this, SV.den, e1]
        | .raw (.tuple c), h2, hy =>
          obtain ⟨rfl, rfl, _, _⟩ := M.pure_ok h2
          refine ⟨rfl, fun φ a hr => ?_⟩
          have := hy φ a hr (by simp)
          simp [Region.wanted, hg, yielded, hd, this, SV.den]
theorem lift_ok {α : Type} {m : M Store α} {s s' : St} {x : α} {r wl : List Loc} (h : lift m s = .ok x s' r wl) : ∃ st' r' wl', m s.st = .ok x st' r' wl' ∧ s' = { s with st := st' } := by
  unfold lift at h
  split at h
  · rename_i h1
    cases h
    exact ⟨_, _, _, h1, rfl⟩
  · cases h
theorem RelT.step {s : St} {a : Act} {φ' : Nat → Nat} {st' : Store} {w' : World} (hr : RelT ρ φ s a) (hs : Step ρ E w0 φ s.st φ' st' w') : RelT ρ φ' { s with st := st' } a :=
  ⟨hr.len, hr.df, fun t v hv => (hr.tm t v hv).imp id (fun h => by rw [den_congr ρ φ φ' v (fun b hb => hs.ext b (hr.cl t v hv b hb))]; exact h), fun t v hv c hc => hs.dom c (hr.cl t v hv c hc)⟩

theorem evOper_ok {X : Ctx} (hX : Knows ρ X) {call : FuncId → List SV → Nat → M Store SV} (hc : CallOk P ρ E call) {id : Nat} {ops : Array Oper} {o : Oper} {s s' : St} {u : Unit} {r wl : List Loc}
    (h : evOper P X call id ops o s = .ok u s' r wl) {a : Act} (hr : RelF ρ E w0 φ0 st0 s a w) {K : Act → World → Prop} {Q : Exit → Act → World → Prop} (hK : ∀ a' w', RelF ρ E w0 φ0 st0 s' a' w' → K a' w') :
    if Region.wanted o (yielded ops a.tmps) = true then o.wp P a w K Q else K (a.put o.dst undef) w := by
  obtain ⟨φ, hs, ht⟩ := hr
  unfold evOper at h
  obtain ⟨b, s1, _, _, _, _, h1, h2, _, _⟩ := M.bind_ok h
  obtain ⟨rfl, hw⟩ := wants_ok hX h1
  rw [hw φ a ht]
  cases b with
  | true =>
    simp only [if_true] at h2 ⊢
    obtain ⟨vs, s2, _, _, _, _, h3, h4, _, _⟩ := M.bind_ok h2
    obtain ⟨rfl, hargs⟩ := rdAll_ok (ρ := ρ) h3
    obtain ⟨v, s3, _, _, _, _, h5, h6, _, _⟩ := M.bind_ok h4
    obtain ⟨st', _, _, h7, rfl⟩ := lift_ok h5
    obtain ⟨v', st2, _, _, _, _, h8, h9, _, _⟩ := M.bind_ok h7
    obtain ⟨_, st3, _, _, _, _, h10, h11, _, _⟩ := M.bind_ok h9
    obtain ⟨rfl, hcl⟩ := chk_ok h10
    obtain ⟨rfl, rfl, _, _⟩ := M.pure_ok h11
    obtain ⟨hst, hput⟩ := putS_ok (ρ := ρ) h6
    refine evOp_sound hX hc (hargs φ a ht) h8 hs.rel (fun φ' w' hs' => hK _ _ ⟨φ', ?_, hput φ' a (ht.step hs') hcl⟩)
    rw [hst]
    exact hs.trans hs'
  | false =>
    simp only [Bool.false_eq_true, if_false] at h2 ⊢
    obtain ⟨hst, hput⟩ := putS_ok (ρ := ρ) h2
    exact hK _ _ ⟨φ, by rw [hst]; exact hs, hput φ a ht (by simp [SV.ids])⟩

theorem touched_ok {m : M St Unit} {s s' : St} {f : FP} {r wl : List Loc} (h : touched m s = .ok f s' r wl) : m s = .ok () s' f.1 f.2 := by
  unfold touched at h
  split at h
  · rename_i h1
    cases h
    exact h1
  · cases h
theorem evOps_list {X : Ctx} (hX : Knows ρ X) {call : FuncId → List SV → Nat → M Store SV} (hc : CallOk P ρ E call) {u : Nat} {ops : Array Oper} {Q : Exit → Act → World → Prop} :
    ∀ {l : List Oper} {k : Nat} {s s' : St} {fps : List FP} {r wl : List Loc}, evOps P X call u ops l k s = .ok fps s' r wl → ∀ {a : Act} {w : World}, RelF ρ E w0 φ0 st0 s a w →
      (∀ a' w', RelF ρ E w0 φ0 st0 s' a' w' → Q .normal a' w') → wpList P ops Q l a w
  | [], k, s, s', fps, r, wl, h, a, w, hr, hQ => by
    obtain ⟨_, rfl, _, _⟩ := M.pure_ok h
    exact hQ _ _ hr
  | o :: l, k, s, s', fps, r, wl, h, a, w, hr, hQ => by
    obtain ⟨f, s1, _, _, _, _, h1, h2, _, _⟩ := M.bind_ok h
    have h1 := touched_ok h1
    obtain ⟨fs, s2, _, _, _, _, h3, h4, _, _⟩ := M.bind_ok h2
    obtain ⟨_, rfl, _, _⟩ := M.pure_ok h4
    exact wpList_step fun K hK => evOper_ok hX hc h1 hr (fun a' w' hr' => hK _ _ (evOps_list hX hc h3 hr' hQ))
theorem evOps_run {X : Ctx} {call : FuncId → List SV → Nat → M Store SV} {u k : Nat} {ops : Array Oper} {m : Nat → M St Unit} (hm : ∀ (i : Nat) o, ops[i]? = some o → m i = evOper P X call (stepId u (k + i)) ops o) :
    ∀ {l : List Oper} {j : Nat} {s s' : St} {fps : List FP} {r wl : List Loc}, (∀ i, l[i]? = ops[j + i]?) → evOps P X call u ops l (k + j) s = .ok fps s' r wl → Run m s (numbered j fps) s' ∧ fps.length = l.length
  | [], j, s, s', fps, r, wl, hl, h => by
    obtain ⟨rfl, rfl, _, _⟩ := M.pure_ok h
    exact ⟨.nil _, rfl⟩
  | o :: l, j, s, s', fps, r, wl, hl, h => by
    obtain ⟨f, s1, _, _, _, _, h1, h2, _, _⟩ := M.bind_ok h
    have h1 := touched_ok h1
    obtain ⟨fs, s2, _, _, _, _, h3, h4, _, _⟩ := M.bind_ok h2
    obtain ⟨rfl, rfl, _, _⟩ := M.pure_ok h4
    have h0 : ops[j]? = some o := by simpa using (hl 0).symm
    obtain ⟨h5, h6⟩ := evOps_run hm (j := j + 1) (fun i => by have := hl (i + 1); simpa [Nat.add_assoc, Nat.add_comm 1 i] using this) (by simpa [Nat.add_assoc] using h3)
    refine ⟨?_, by simp [h6]⟩
    obtain ⟨f1, f2⟩ := f
    exact .cons (by rw [hm j o h0]; exact h1) h5
theorem numbered_fst : ∀ {l : List FP} {j : Nat}, (numbered j l).map (·.1) = List.range' j l.length
  | [], j => by simp [numbered]
  | f :: l, j => by simp [numbered, numbered_fst (l := l), List.range'_succ]
theorem RelF.same {s t : St} {a : Act} (h : Same s t) (hr : RelF ρ E w0 φ0 st0 s a w) : RelF ρ E w0 φ0 st0 t a w := by
  obtain ⟨φ, hs, ht⟩ := hr
  have hg : ∀ b, t.st.get b = s.st.get b := fun b => (h (.blk b)).symm
  have htm : t.tm = s.tm := List.ext_getElem? fun i => (h (.tmp i)).symm
  refine ⟨φ, ⟨⟨fun b B hb => ?_, fun b B hb c hc => ?_, fun b c hb hc e => ?_, fun b hb => ?_, hs.rel.os, hs.rel.tape, hs.rel.output, hs.rel.size, hs.rel.fr, hs.rel.xt, fun j B hB b hb => (by rw [hg] at hb; exact hs.rel.xd j B hB b hb)⟩, hs.ext, fun b hb => ?_⟩, ⟨by rw [htm]; exact ht.len, ht.df, fun i v hv => ?_, fun i v hv c hc => ?_⟩⟩
  · rw [hg] at hb; exact hs.rel.bl b B hb
  · rw [hg] at hb ⊢; exact hs.rel.cl b B hb c hc
  · rw [hg] at hb hc; exact hs.rel.inj b c hb hc e
  · rw [hg] at hb; exact hs.rel.own b hb
  · rw [hg]; exact hs.dom b hb
  · rw [htm] at hv; exact ht.tm i v hv
  · rw [htm] at hv; rw [hg]; exact ht.cl i v hv c hc
theorem RelF.drew {s : St} {a : Act} (hr : RelF ρ E w0 φ0 st0 s a w) : RelF ρ E w0 φ0 st0 s a { w with drawn := w.drawn + 1 } := by
  obtain ⟨φ, hs, ht⟩ := hr
  exact ⟨φ, ⟨hs.rel.heap rfl rfl rfl rfl, hs.ext, hs.dom⟩, ht⟩
theorem evRegion_ok (hmix : P.follows .mixedOrders = true) {X : Ctx} (hX : Knows ρ X) {call : FuncId → List SV → Nat → M Store SV} (hc : CallOk P ρ E call) (hcl : ∀ f vs i, Local agrS (call f vs i)) {ops : Array Oper} {draw : Bool} {id u k : Nat}
    {s s' : St} {x : Unit} {r wl : List Loc} (h : evRegion P X call ops draw u k s = .ok x s' r wl) {a : Act} (hr : RelF ρ E w0 φ0 st0 s a w) {Q : Exit → Act → World → Prop} (hQ : ∀ a' w', RelF ρ E w0 φ0 st0 s' a' w' → Q .normal a' w') :
    (Code.region id ops draw).wp P Q a w := by
  unfold evRegion at h
  obtain ⟨fps, s1, _, _, _, _, h1, h2, _, _⟩ := M.bind_ok h
  cases draw with
  | false =>
    simp only [Bool.false_eq_true, if_false] at h2
    obtain ⟨_, rfl, _, _⟩ := M.pure_ok h2
    exact wp_region_list (evOps_list hX hc h1 hr hQ)
  | true =>
    simp only [if_true] at h2
    split at h2
    · rename_i hok
      obtain ⟨_, rfl, _, _⟩ := M.pure_ok h2
      simp only [orderOk, Bool.and_eq_true] at hok
      obtain ⟨⟨hb, hf⟩, hp⟩ := hok
      let m : Nat → M St Unit := fun i => match ops[i]? with | some o => evOper P X call (stepId u (k + i)) ops o | none => bad "none"
      have hm : ∀ (i : Nat) o, ops[i]? = some o → m i = evOper P X call (stepId u (k + i)) ops o := fun i o ho => by simp only [m, ho]
      obtain ⟨hrun, hlen⟩ := evOps_run hm (j := 0) (l := ops.toList) (fun i => by simp) h1
      have hlen : fps.length = ops.size := by simpa using hlen
      have hloc : ∀ i, Local agrT (m i) := fun i => by
        simp only [m]
        split
        · exact evOper_local P X hcl _ _ _
        · exact bad_local _
      refine wp_region_any hmix ?_
      refine any_of_run hloc (Rl := RelF ρ E w0 φ0 st0) (fun s t a w hst hr => hr.same hst) (fun i s s' r wl a w K hi hr hK => ?_) hb hf _ _ _ _ _ _ _ ?_ hrun hp ?_ hr.drew hQ
      · unfold wpOp
        cases ho : ops[i]? with
        | none => simp only [m, ho] at hi; cases hi
        | some o =>
          rw [hm i o ho] at hi
          have := evOper_ok (Q := Q) hX hc hi hr hK
          simp only
          split
          · rename_i hw; rw [if_pos hw] at this; exact .inl this
          · rename_i hw; rw [if_neg hw] at this; exact this
      · have := congrArg List.length (numbered_fst (l := fps) (j := 0))
        simpa [hlen] using this
      · refine ⟨by simp, fun j hj => ?_, fun j o ho hj => ?_, ?_, fun j hj => ?_⟩
        · rw [numbered_fst, hlen]
          simp [hj, List.mem_range']
        · rw [getD_replicate_false] at hj; cases hj
        · rw [numbered_fst]; exact List.pairwise_lt_range'
        · rw [numbered_fst, hlen] at hj
          simp [List.mem_range'] at hj
          omega
    · cases h2
end Ev
end Go.Proofs.Ytmgfnejiienghaa
