/- Several texts in one. -/
import Derived.Test.YtmgfnejiienghaaM25
import Derived.LoopNIn
import Derived.Scope
import Derived.RangeFuncLeaves
/- A checked evaluator: regions. -/
namespace Go.Proofs.Ytmgfnejiienghaa
open Go Go.RowKit
set_option linter.unusedVariables false
namespace Ev

/-- the state stands for this frame and this world; since (φ0, st0) blocks were laid or written alone -/
def RelF (P : Program) (ρ : Env) (E : List (Nat × Nat)) (D : List Deferred) (w0 : World) (φ0 : Nat → Nat) (st0 : Store) (s : St) (a : Act) (w : World) : Prop :=
  ∃ φ, Step P ρ E w0 φ0 st0 φ s.st w ∧ RelT ρ D φ s a
/-- the way out that the evaluator tells is the model's -/
def exOk (ρ : Env) (φ : Nat → Nat) (st : Store) : Ex → Exit → Prop
  | .normal, x => x = .normal
  | .exit i, x => x = .exit i
  | .ret, x => x = .ret
  | .pan v, x => x = .panic [{ v := v.den ρ φ, recovered := false }] ∧ ∀ c ∈ v.ids, (st.get c).isSome
def RelX (P : Program) (ρ : Env) (E : List (Nat × Nat)) (D : List Deferred) (w0 : World) (φ0 : Nat → Nat) (st0 : Store) (s : St) (e : Ex) (a : Act) (w : World) (x : Exit) : Prop :=
  ∃ φ, Step P ρ E w0 φ0 st0 φ s.st w ∧ RelT ρ D φ s a ∧ exOk ρ φ s.st e x
/-- the round that the frame is of -/
def RdOk (rd : Option Nat) (φ0 : Nat → Nat) (st0 : Store) (rf : Option Nat) : Prop :=
  match rd with
  | none => rf = none
  | some b => rf = some (φ0 b) ∧ (st0.get b).isSome
variable {P : Program} {ρ : Env} {E : List (Nat × Nat)} {D : List Deferred} {w0 : World} {φ φ0 : Nat → Nat} {st st0 : Store} {w : World}
theorem RelF.normal {s : St} {a : Act} (h : RelF P ρ E D w0 φ0 st0 s a w) : RelX P ρ E D w0 φ0 st0 s .normal a w .normal := by
  obtain ⟨φ, h1, h2⟩ := h
  exact ⟨φ, h1, h2, rfl⟩
theorem RelX.relF {s : St} {a : Act} {e : Ex} {x : Exit} (h : RelX P ρ E D w0 φ0 st0 s e a w x) : RelF P ρ E D w0 φ0 st0 s a w := by
  obtain ⟨φ, h1, h2, _⟩ := h
  exact ⟨φ, h1, h2⟩

theorem rdOp_ok {x : Operand} {s s' : St} {v : SV} {r wl : List Loc} (h : rdOp x s = .ok v s' r wl) : s' = s ∧ ∀ D φ a, RelT ρ D φ s a → a.eval x = v.den ρ φ ∧ ∀ c ∈ v.ids, (s.st.get c).isSome := by
  cases x with
  | tmp t =>
    change (do let v ← rdT t; match v with | .any => M.fail (.call t []) | .panv _ => bad "panv" | v => pure v : M St SV) s = _ at h
    obtain ⟨u, s1, _, _, _, _, h1, h2, _, _⟩ := M.bind_ok h
    rw [rdT_eq] at h1
    cases ht : s.tm[t]? with
    | none => simp only [ht] at h1; cases h1
    | some u' =>
      simp only [ht] at h1
      cases h1
      have key : u ≠ .any ∧ v = u ∧ s' = s := by
        cases u <;> first | (cases h2; done) | (obtain ⟨rfl, rfl, _, _⟩ := M.pure_ok h2; exact ⟨by simp, rfl, rfl⟩)
      obtain ⟨hne, rfl, rfl⟩ := key
      refine ⟨rfl, fun D φ a hr => ⟨?_, hr.cl t v ht⟩⟩
      have := (hr.tm t v ht).resolve_left hne
      simp [Act.eval, this]
  | const c =>
    obtain ⟨rfl, rfl, _, _⟩ := M.pure_ok h
    exact ⟨rfl, fun D φ a hr => ⟨(ofValue_den c).symm, by rw [ofValue_ids]; simp⟩⟩
  | func f =>
    obtain ⟨rfl, rfl, _, _⟩ := M.pure_ok h
    exact ⟨rfl, fun D φ a hr => ⟨rfl, by simp [SV.ids, SV.idsL]⟩⟩
  | global g => cases h
theorem rdAll_ok : ∀ {l : List Operand} {s s' : St} {vs : List SV} {r wl : List Loc}, rdAll l s = .ok vs s' r wl → s' = s ∧ ∀ D φ a, RelT ρ D φ s a → l.map a.eval = SV.denL ρ φ vs ∧ ∀ c ∈ SV.idsL vs, (s.st.get c).isSome
  | [], s, s', vs, r, wl, h => by
    obtain ⟨rfl, rfl, _, _⟩ := M.pure_ok h
    exact ⟨rfl, fun D φ a hr => ⟨rfl, by simp [SV.idsL]⟩⟩
  | x :: l, s, s', vs, r, wl, h => by
    obtain ⟨v, s1, _, _, _, _, h1, h2, _, _⟩ := M.bind_ok h
    obtain ⟨rfl, e1⟩ := rdOp_ok (ρ := ρ) h1
    obtain ⟨us, s2, _, _, _, _, h3, h4, _, _⟩ := M.bind_ok h2
    obtain ⟨rfl, e2⟩ := rdAll_ok h3
    obtain ⟨rfl, rfl, _, _⟩ := M.pure_ok h4
    refine ⟨rfl, fun D φ a hr => ⟨by simp only [List.map_cons, SV.denL, (e1 D φ a hr).1, (e2 D φ a hr).1], fun c hc => ?_⟩⟩
    simp only [SV.idsL, List.mem_append] at hc
    rcases hc with hc | hc
    · exact (e1 D φ a hr).2 c hc
    · exact (e2 D φ a hr).2 c hc
theorem putS_ok {dst : Option Tmp} {v : SV} {s s' : St} {r wl : List Loc} {u : Unit} (h : putS dst v s = .ok u s' r wl) :
    s'.st = s.st ∧ ∀ D φ a, RelT ρ D φ s a → (∀ c ∈ v.ids, (s.st.get c).isSome) → RelT ρ D φ s' (a.put dst (v.den ρ φ)) := by
  cases dst with
  | none =>
    obtain ⟨_, rfl, _, _⟩ := M.pure_ok h
    exact ⟨rfl, fun D φ a hr _ => hr⟩
  | some t =>
    change wrT t v s = _ at h
    rw [wrT_eq] at h
    cases ht : s.tm[t]? with
    | none => simp only [ht] at h; cases h
    | some u' =>
      simp only [ht] at h
      cases h
      have hlt : t < s.tm.length := (List.getElem?_eq_some_iff.1 ht).1
      refine ⟨St.setT_st s t v, fun D φ a hr hcl => ⟨by rw [St.setT_tm]; simp [Act.put, hr.len], by rw [St.setT_df]; exact hr.df, fun i x hx => ?_, fun i x hx c hc => ?_, fun d hd c hc => ?_⟩⟩
      · rw [St.setT_tm, List.getElem?_set] at hx
        split at hx
        · rename_i hti
          subst hti
          cases hx
          right
          have : t < a.tmps.size := by rw [hr.len]; exact hlt
          simp [Act.put, this]
        · rename_i hti
          rcases hr.tm i x hx with h1 | h1
          · exact .inl h1
          · right
            simp only [Act.put]
            rw [Array.getElem?_setIfInBounds_ne hti]; exact h1
      · rw [St.setT_tm, List.getElem?_set] at hx
        rw [St.setT_st]
        split at hx
        · cases hx
          exact hcl c hc
        · exact hr.cl i x hx c hc
      · rw [St.setT_df] at hd
        rw [St.setT_st]
        exact hr.dcl d hd c hc
theorem wants_ok {X : Ctx} (hX : Knows ρ X) {ops : Array Oper} {o : Oper} {s s' : St} {b : Bool} {r wl : List Loc} (h : wants X ops o s = .ok b s' r wl) :
    s' = s ∧ ∀ D φ a, RelT ρ D φ s a → Region.wanted o (yielded ops a.tmps) = b := by
  unfold wants at h
  cases hg : o.guard with
  | none =>
    simp only [hg] at h
    obtain ⟨rfl, rfl, _, _⟩ := M.pure_ok h
    exact ⟨rfl, fun D φ a _ => by simp [Region.wanted, hg]⟩
  | some q =>
    obtain ⟨j, want⟩ := q
    simp only [hg] at h
    cases hd : (ops[j]?).bind (·.dst) with
    | none =>
      simp only [hd] at h
      obtain ⟨rfl, rfl, _, _⟩ := M.pure_ok h
      exact ⟨rfl, fun D φ a _ => by simp [Region.wanted, hg, yielded, hd]⟩
    | some t =>
      simp only [hd] at h
      obtain ⟨v, s1, _, _, _, _, h1, h2, _, _⟩ := M.bind_ok h
      rw [rdT_eq] at h1
      cases ht : s.tm[t]? with
      | none => simp only [ht] at h1; cases h1
      | some u' =>
        simp only [ht] at h1
        cases h1
        have hy : ∀ D φ a, RelT ρ D φ s a → v ≠ .any → a.tmps[t]? = some (v.den ρ φ) := fun D φ a hr hne => (hr.tm t v ht).resolve_left hne
        match v, h2, hy with
        | .bool e, h2, hy =>
          obtain ⟨x, s1, _, _, _, _, h3, h4, _, _⟩ := M.bind_ok h2
          obtain ⟨e1, rfl⟩ := dec_ok hX h3
          obtain ⟨rfl, rfl, _, _⟩ := M.pure_ok h4
          refine ⟨rfl, fun D φ a hr => ?_⟩
          have := hy D φ a hr (by simp)
          cases x <;> cases want <;> simp [Region.wanted, hg, yielded, hd, this, SV.den, e1]
        | .raw (.tuple c), h2, hy =>
          obtain ⟨rfl, rfl, _, _⟩ := M.pure_ok h2
          refine ⟨rfl, fun D φ a hr => ?_⟩
          have := hy D φ a hr (by simp)
          simp [Region.wanted, hg, yielded, hd, this, SV.den]
theorem lift_ok {α : Type} {m : M Store α} {s s' : St} {x : α} {r wl : List Loc} (h : lift m s = .ok x s' r wl) : ∃ st' r' wl', m s.st = .ok x st' r' wl' ∧ s' = { s with st := st' } := by
  unfold lift at h
  split at h
  · rename_i h1
    cases h
    exact ⟨_, _, _, h1, rfl⟩
  · cases h
theorem RelT.step {s : St} {a : Act} {φ' : Nat → Nat} {st' : Store} {w' : World} (hr : RelT ρ D φ s a) (hs : Step P ρ E w0 φ s.st φ' st' w') : RelT ρ D φ' { s with st := st' } a :=
  ⟨hr.len, hr.df.congr (fun d hd c hc => hs.ext c (hr.dcl d hd c hc)), fun t v hv => (hr.tm t v hv).imp id (fun h => by rw [den_congr ρ φ φ' v (fun b hb => hs.ext b (hr.cl t v hv b hb))]; exact h), fun t v hv c hc => hs.dom c (hr.cl t v hv c hc), fun d hd c hc => hs.dom c (hr.dcl d hd c hc)⟩

theorem evOper_ok {X : Ctx} (hX : Knows ρ X) {call rnd : Nat → List SV → Nat → M Store SV} (hc : CallOk P ρ E call) (hrn : RoundOk P ρ E rnd) {id : Nat} {ops : Array Oper} {o : Oper} {s s' : St} {res : Option SV} {r wl : List Loc}
    (h : evOper P X call rnd id ops o s = .ok res s' r wl) {a : Act} (hr : RelF P ρ E D w0 φ0 st0 s a w) {rf : Option Nat} {K : Act → World → Prop} {Q : Exit → Act → World → Prop}
    (hK : ∀ a' w', res = none → RelF P ρ E D w0 φ0 st0 s' a' w' → K a' w') (hQ : ∀ u a' w' x, res = some u → RelX P ρ E D w0 φ0 st0 s' (.pan u) a' w' x → Q x a' w') :
    if Region.wanted o (yielded ops a.tmps) = true then o.wpIn (FW rf) 0 P a w K Q else (∀ f, o.about P w a.eval = some f → (FW rf).fn f) ∧ K (a.put o.dst undef) w := by
  obtain ⟨φ, hs, ht⟩ := hr
  unfold evOper at h
  obtain ⟨b, s1, _, _, _, _, h1, h2, _, _⟩ := M.bind_ok h
  obtain ⟨rfl, hw⟩ := wants_ok hX h1
  rw [hw D φ a ht]
  cases b with
  | true =>
    simp only [if_true] at h2 ⊢
    obtain ⟨vs, s2, _, _, _, _, h3, h4, _, _⟩ := M.bind_ok h2
    obtain ⟨rfl, hargs⟩ := rdAll_ok (ρ := ρ) h3
    obtain ⟨v, s3, r5, w5, r6, w6, h5, h6, _, _⟩ := M.bind_ok h4
    obtain ⟨st', _, _, h7, rfl⟩ := lift_ok h5
    obtain ⟨v', st2, _, _, _, _, h8, h9, _, _⟩ := M.bind_ok h7
    obtain ⟨_, st3, _, _, _, _, h10, h11, _, _⟩ := M.bind_ok h9
    obtain ⟨rfl, hcl⟩ := chk_ok h10
    obtain ⟨rfl, rfl, _, _⟩ := M.pure_ok h11
    by_cases hp : notPan v = true
    · have h6' : (do putS o.dst v; pure none : M St (Option SV)) { s2 with st := st' } = .ok res s' r6 w6 := by
        cases v <;> first | exact h6 | (simp [notPan] at hp)
      obtain ⟨_, s4, _, _, _, _, h12, h13, _, _⟩ := M.bind_ok h6'
      obtain ⟨rfl, rfl, _, _⟩ := M.pure_ok h13
      obtain ⟨hst, hput⟩ := putS_ok (ρ := ρ) h12
      refine evOp_sound hX hc hrn (hargs D φ a ht).1 h8 (.inr hp) hs.rel (fun φ' w' hs' => (outc_put hp).2 (hK _ _ rfl ⟨φ', ?_, hput D φ' a (ht.step hs') hcl⟩))
      rw [hst]
      exact hs.trans hs'
    · obtain ⟨u, rfl⟩ : ∃ u, v = .panv u := by cases v <;> first | (simp [notPan] at hp; done) | exact ⟨_, rfl⟩
      have h6' : (if mayPan o.op then pure (some u) else bad "panv" : M St (Option SV)) { s2 with st := st' } = .ok res s' r6 w6 := h6
      split at h6'
      · rename_i hm
        obtain ⟨rfl, rfl, _, _⟩ := M.pure_ok h6'
        exact evOp_sound hX hc hrn (hargs D φ a ht).1 h8 (.inl hm) hs.rel (fun φ' w' hs' => hQ u _ _ _ rfl ⟨φ', hs.trans hs', ht.step hs', rfl, hcl⟩)
      · cases h6'
  | false =>
    simp only [Bool.false_eq_true, if_false] at h2 ⊢
    obtain ⟨_, s4, _, _, _, _, h12, h13, _, _⟩ := M.bind_ok h2
    obtain ⟨rfl, rfl, _, _⟩ := M.pure_ok h13
    obtain ⟨hst, hput⟩ := putS_ok (ρ := ρ) h12
    exact ⟨fun _ _ => trivial, hK _ _ rfl ⟨φ, by rw [hst]; exact hs, hput D φ a ht (by simp [SV.ids])⟩⟩
theorem evDefer_ok {X : Ctx} (hX : Knows ρ X) {ops : Array Oper} {o : Oper} {s s' : St} {u : Unit} {r wl : List Loc} (h : evDefer X ops o s = .ok u s' r wl) {a : Act} (hr : RelF P ρ E D w0 φ0 st0 s a w) {K : Act → World → Prop} {Q : Exit → Act → World → Prop}
    (hK : ∀ a' w', RelF P ρ E D w0 φ0 st0 s' a' w' → K a' w') :
    if Region.wanted o (yielded ops a.tmps) = true then o.wpIn (FW none) 0 P a w K Q else (∀ f, o.about P w a.eval = some f → (FW none).fn f) ∧ K (a.put o.dst undef) w := by
  obtain ⟨φ, hs, ht⟩ := hr
  unfold evDefer at h
  obtain ⟨b, s1, _, _, _, _, h1, h2, _, _⟩ := M.bind_ok h
  obtain ⟨rfl, hw⟩ := wants_ok hX h1
  rw [hw D φ a ht]
  cases b with
  | true =>
    simp only [if_true] at h2 ⊢
    obtain ⟨dst, op, type, pos, after, guard⟩ := o
    cases op <;> try (cases h2; done)
    rename_i c
    obtain ⟨callee, as, ts⟩ := c
    cases callee <;> try (cases h2; done)
    rename_i fx
    obtain ⟨v, s2, _, _, _, _, h3, h4, _, _⟩ := M.bind_ok h2
    obtain ⟨rfl, e1⟩ := rdOp_ok (ρ := ρ) h3
    obtain ⟨vs, s3, _, _, _, _, h5, h6, _, _⟩ := M.bind_ok h4
    obtain ⟨rfl, e2⟩ := rdAll_ok (ρ := ρ) h5
    cases v <;> try (cases h6; done)
    rename_i fn fs cs
    cases fn <;> try (cases h6; done)
    rename_i f
    obtain ⟨_, s4, _, _, _, _, h7, h8, _, _⟩ := M.bind_ok h6
    cases h7
    obtain ⟨hst, hput⟩ := putS_ok (ρ := ρ) h8
    obtain ⟨e3, e4⟩ := e1 D φ a ht
    obtain ⟨e5, e6⟩ := e2 D φ a ht
    refine ⟨fun _ _ => trivial, ?_⟩
    have hargs : as.map a.eval = (SV.denL ρ φ vs).toArray := Array.ext' (by simpa using e5)
    have hrun : (Oper.semAt (FW none).round a.eval ⟨dst, .defer ⟨.value fx, as, ts⟩, type, pos, after, guard⟩).run P w = .ok (.defer { target := .fn (.func f) (SV.denL ρ φ cs).toArray, args := (SV.denL ρ φ (fs ++ vs)).toArray }) w := by
      show (execOp a.eval ⟨dst, .defer ⟨.value fx, as, ts⟩, type, pos, after, guard⟩).run P w = _
      simp only [SV.den] at e3
      simp only [execOp, resolve, e3, hargs, Deferred.ofValue, Sem.run_bind, Sem.run_pure, Result.andThen_ok, denL_append, List.append_toArray]
    rw [hrun]
    refine hK _ _ ⟨φ, by rw [hst]; exact hs, hput D φ _ ⟨ht.len, ⟨_, rfl, ht.df⟩, ht.tm, ht.cl, fun d hd c hc => ?_⟩ (by simp [SV.ids])⟩
    rcases List.mem_cons.1 hd with rfl | hd
    · simp only [DS.ids, List.mem_append] at hc
      have e4' : ∀ c ∈ SV.idsL fs ++ SV.idsL cs, (s3.st.get c).isSome := fun c hc => e4 c (by simpa [SV.ids] using hc)
      rcases hc with hc | hc
      · obtain ⟨y, hy, hcy⟩ := mem_idsL.1 hc
        rcases List.mem_append.1 hy with hy | hy
        · exact e4' c (List.mem_append_left _ (mem_idsL.2 ⟨y, hy, hcy⟩))
        · exact e6 c (mem_idsL.2 ⟨y, hy, hcy⟩)
      · exact e4' c (List.mem_append_right _ hc)
    · exact ht.dcl d hd c hc
  | false =>
    simp only [Bool.false_eq_true, if_false] at h2 ⊢
    obtain ⟨hst, hput⟩ := putS_ok (ρ := ρ) h2
    exact ⟨fun _ _ => trivial, hK _ _ ⟨φ, by rw [hst]; exact hs, hput D φ a ht (by simp [SV.ids])⟩⟩

theorem touched_ok {m : M St Unit} {s s' : St} {f : FP} {r wl : List Loc} (h : touched m s = .ok f s' r wl) : m s = .ok () s' f.1 f.2 := by
  unfold touched at h
  split at h
  · rename_i h1
    cases h
    exact h1
  · cases h
theorem evOperD_ok {X : Ctx} (hX : Knows ρ X) {call rnd : Nat → List SV → Nat → M Store SV} (hc : CallOk P ρ E call) (hrn : RoundOk P ρ E rnd) {id : Nat} {ops : Array Oper} {o : Oper} {s s' : St} {u : Unit} {r wl : List Loc}
    (h : evOperD P X call rnd id ops o s = .ok u s' r wl) {a : Act} (hr : RelF P ρ E D w0 φ0 st0 s a w) {rf : Option Nat} {K : Act → World → Prop} {Q : Exit → Act → World → Prop} (hK : ∀ a' w', RelF P ρ E D w0 φ0 st0 s' a' w' → K a' w') :
    if Region.wanted o (yielded ops a.tmps) = true then o.wpIn (FW rf) 0 P a w K Q else (∀ f, o.about P w a.eval = some f → (FW rf).fn f) ∧ K (a.put o.dst undef) w := by
  unfold evOperD at h
  obtain ⟨res, s1, _, _, _, _, h1, h2, _, _⟩ := M.bind_ok h
  cases res with
  | none =>
    obtain ⟨_, rfl, _, _⟩ := M.pure_ok h2
    exact evOper_ok hX hc hrn h1 hr (fun a' w' _ hr' => hK a' w' hr') (fun u a' w' x hu _ => by cases hu)
  | some v => cases h2
theorem evSeq_ok {X : Ctx} (hX : Knows ρ X) {call rnd : Nat → List SV → Nat → M Store SV} (hc : CallOk P ρ E call) (hrn : RoundOk P ρ E rnd) {rd : Option Nat} {rf : Option Nat} (hrd : RdOk rd φ0 st0 rf) {u : Nat} {ops : Array Oper} {Q : Exit → Act → World → Prop} :
    ∀ {l : List Oper} {k : Nat} {s s' : St} {res : Option SV} {r wl : List Loc}, evSeq P X call rnd rd u ops l k s = .ok res s' r wl → ∀ {a : Act} {w : World}, RelF P ρ E D w0 φ0 st0 s a w →
      (∀ a' w' x, RelX P ρ E D w0 φ0 st0 s' (exOf res) a' w' x → Q x a' w') → wpListIn (FW rf) 0 P ops Q l a w
  | [], k, s, s', res, r, wl, h, a, w, hr, hQ => by
    unfold evSeq at h
    obtain ⟨rfl, rfl, _, _⟩ := M.pure_ok h
    exact hQ _ _ _ hr.normal
  | o :: l, k, s, s', res, r, wl, h, a, w, hr, hQ => by
    unfold evSeq at h
    split at h
    · split at h
      · rename_i hn
        obtain ⟨_, s1, _, _, _, _, h1, h2, _, _⟩ := M.bind_ok h
        have hrf : rf = none := by
          cases rd with
          | none => exact hrd
          | some b => cases hn
        subst hrf
        exact wpListIn_step fun K hK => evDefer_ok hX h1 hr (fun a' w' hr' => hK _ _ (evSeq_ok hX hc hrn hrd h2 hr' hQ))
      · cases h
    · obtain ⟨res1, s1, _, _, _, _, h1, h2, _, _⟩ := M.bind_ok h
      cases res1 with
      | none => exact wpListIn_step fun K hK => evOper_ok hX hc hrn h1 hr (fun a' w' _ hr' => hK _ _ (evSeq_ok hX hc hrn hrd h2 hr' hQ)) (fun u a' w' x hu _ => by cases hu)
      | some v =>
        obtain ⟨rfl, rfl, _, _⟩ := M.pure_ok h2
        exact wpListIn_step fun K hK => evOper_ok hX hc hrn h1 hr (fun a' w' he _ => by cases he) (fun u a' w' x hu hx => by cases hu; exact hQ _ _ _ hx)
theorem evOps_run {X : Ctx} {call rnd : Nat → List SV → Nat → M Store SV} {u k : Nat} {ops : Array Oper} {m : Nat → M St Unit} (hm : ∀ (i : Nat) o, ops[i]? = some o → m i = evOperD P X call rnd (stepId u (k + i)) ops o) :
    ∀ {l : List Oper} {j : Nat} {s s' : St} {fps : List FP} {r wl : List Loc}, (∀ i, l[i]? = ops[j + i]?) → evOps P X call rnd u ops l (k + j) s = .ok fps s' r wl → Run m s (numbered j fps) s' ∧ fps.length = l.length
  | [], j, s, s', fps, r, wl, hl, h => by
    obtain ⟨rfl, rfl, _, _⟩ := M.pure_ok h
    exact ⟨.nil _, rfl⟩
  | o :: l, j, s, s', fps, r, wl, hl, h => by
    obtain ⟨f, s1, _, _, _, _, h1, h2, _, _⟩ := M.bind_ok h
    have h1 := touched_ok h1
    obtain ⟨fs, s2, _, _, _, _, h3, h4, _, _⟩ := M.bind_ok h2
    obtain ⟨rfl, rfl, _, _⟩ := M.pure_ok h4
    have h0 : ops[j]? = some o := by simpa using (hl 0).symm
    obtain ⟨h5, h6⟩ := evOps_run hm (j := j + 1) (fun i => by have := hl (i + 1); simpa [Nat.add_assoc, Nat.add_comm 1 i] using this) (by simpa [Nat.add_assoc] using h3)
    refine ⟨?_, by simp [h6]⟩
    obtain ⟨f1, f2⟩ := f
    exact .cons (by rw [hm j o h0]; exact h1) h5
theorem numbered_fst : ∀ {l : List FP} {j : Nat}, (numbered j l).map (·.1) = List.range' j l.length
  | [], j => by simp [numbered]
  | f :: l, j => by simp [numbered, numbered_fst (l := l), List.range'_succ]
theorem RelF.same {s t : St} {a : Act} (h : Same s t) (hr : RelF P ρ E D w0 φ0 st0 s a w) : RelF P ρ E D w0 φ0 st0 t a w := by
  obtain ⟨φ, hs, ht⟩ := hr
  have hg : ∀ b, t.st.get b = s.st.get b := fun b => (h (.blk b)).symm
  have htm : t.tm = s.tm := List.ext_getElem? fun i => (h (.tmp i)).symm
  have hdf : t.m.df = s.m.df := (h .dfr).symm
  refine ⟨φ, ⟨⟨fun b B hb => ?_, fun b B hb c hc => ?_, fun b hb => ?_, fun b c B C hb hc n1 n2 e => ?_, fun b hb => ?_, hs.rel.os, hs.rel.tape, hs.rel.output, hs.rel.size, hs.rel.fr, hs.rel.xt, fun j B hB b hb => (by rw [hg] at hb; exact hs.rel.xd j B hB b hb)⟩, hs.ext, fun b hb => ?_⟩, ⟨by rw [htm]; exact ht.len, by rw [hdf]; exact ht.df, fun i v hv => ?_, fun i v hv c hc => ?_, fun d hd c hc => ?_⟩⟩
  · rw [hg] at hb; exact hs.rel.bl b B hb
  · rw [hg] at hb ⊢; exact hs.rel.cl b B hb c hc
  · rw [hg] at hb; exact hs.rel.nz b hb
  · rw [hg] at hb hc; exact hs.rel.inj b c B C hb hc n1 n2 e
  · rw [hg] at hb; exact hs.rel.own b hb
  · rw [hg]; exact hs.dom b hb
  · rw [htm] at hv; exact ht.tm i v hv
  · rw [htm] at hv; rw [hg]; exact ht.cl i v hv c hc
  · rw [hdf] at hd; rw [hg]; exact ht.dcl d hd c hc
theorem RelF.drew {s : St} {a : Act} (hr : RelF P ρ E D w0 φ0 st0 s a w) : RelF P ρ E D w0 φ0 st0 s a { w with drawn := w.drawn + 1 } := by
  obtain ⟨φ, hs, ht⟩ := hr
  exact ⟨φ, ⟨hs.rel.heap rfl rfl rfl rfl, hs.ext, hs.dom⟩, ht⟩
/-! what is laid into a map under other keys changes places -/
theorem insLit_comm {n m : Int} {k v k' v' : SV} (hk : litKey k = some n) (hk' : litKey k' = some m) (hnm : n < m) : ∀ l : List SV, insLit m k' v' (insLit n k v l) = insLit n k v (insLit m k' v' l)
  | [] => by
    have h1 : ltKey m k = true := by simp [ltKey, hk, hnm]
    have h2 : ltKey n k' = false := by simp [ltKey, hk']; omega
    simp [insLit, h1, h2]
  | [a] => by
    have h1 : ltKey m k = true := by simp [ltKey, hk, hnm]
    have h2 : ltKey n k' = false := by simp [ltKey, hk']; omega
    simp [insLit, h1, h2]
  | e :: w :: l => by
    have h1 : ltKey m k = true := by simp [ltKey, hk, hnm]
    have h2 : ltKey n k' = false := by simp [ltKey, hk']; omega
    cases hn : ltKey n e with
    | true =>
      have hm : ltKey m e = true := by
        unfold ltKey at hn ⊢
        cases he : litKey e with
        | none => rw [he] at hn; cases hn
        | some q => rw [he] at hn; simp at hn ⊢; omega
      simp [insLit, hn, hm, insLit_comm hk hk' hnm l]
    | false =>
      cases hm : ltKey m e with
      | true => simp [insLit, hn, hm, h1]
      | false => simp [insLit, hn, hm, h1, h2]
theorem allKeys_ins {X : Ctx} {d : TypeDesc} {n : Int} {k k' v' : SV} : ∀ l : List SV, allKeys X d k (insLit n k' v' l) = ((keyEq X d k k').isSome && allKeys X d k l)
  | [] => by simp [insLit, allKeys]
  | [a] => by simp [insLit, allKeys]
  | e :: w :: l => by
    unfold insLit
    split
    · simp only [allKeys, allKeys_ins l]
      cases (keyEq X d k e).isSome <;> cases (keyEq X d k k').isSome <;> rfl
    · simp [allKeys]
theorem litFresh_ins {n m : Int} {k' v' : SV} : ∀ l : List SV, litFresh m (insLit n k' v' l) = (neKey m k' && litFresh m l)
  | [] => by simp [insLit, litFresh]
  | [a] => by simp [insLit, litFresh]
  | e :: w :: l => by
    unfold insLit
    split
    · simp only [litFresh, litFresh_ins l]
      cases neKey m e <;> cases neKey m k' <;> rfl
    · simp [litFresh]
theorem insLit_len {n : Int} {k v : SV} : ∀ l : List SV, (insLit n k v l).length = l.length + 2
  | [] => rfl
  | [a] => rfl
  | e :: w :: l => by
    unfold insLit
    split
    · simp [insLit_len l]
    · simp
theorem atom_quiet {S : Type} {X : Ctx} {b : BE} {s s' : S} {t : Bool} {r w : List Loc} (h : atom X b s = .ok t s' r w) : r = [] ∧ w = [] := by
  unfold atom at h
  cases hb : look X.pc b with
  | some t => simp only [hb] at h; obtain ⟨_, _, h1, h2⟩ := M.pure_ok h; exact ⟨h1, h2⟩
  | none => simp only [hb] at h; cases h
theorem atomC_quiet {S : Type} {X : Ctx} {op : BinOp} {a b : IE} {s s' : S} {t : Bool} {r w : List Loc} (h : atomC X op a b s = .ok t s' r w) : r = [] ∧ w = [] := by
  unfold atomC at h
  cases hb : byIv X op a b with
  | some t => simp only [hb] at h; obtain ⟨_, _, h1, h2⟩ := M.pure_ok h; exact ⟨h1, h2⟩
  | none => simp only [hb] at h; exact atom_quiet h
theorem not_quiet {S : Type} {m : M S Bool} (hm : ∀ s t s' r w, m s = .ok t s' r w → r = [] ∧ w = []) {s s' : S} {t : Bool} {r w : List Loc} (h : (do let t ← m; pure (!t) : M S Bool) s = .ok t s' r w) : r = [] ∧ w = [] := by
  obtain ⟨_, _, _, _, _, _, h1, h2, rfl, rfl⟩ := M.bind_ok h
  obtain ⟨rfl, rfl⟩ := hm _ _ _ _ _ h1
  obtain ⟨_, _, rfl, rfl⟩ := M.pure_ok h2
  exact ⟨rfl, rfl⟩
theorem dec_quiet {S : Type} {X : Ctx} : ∀ {b : BE} {s s' : S} {t : Bool} {r w : List Loc}, dec X b s = .ok t s' r w → r = [] ∧ w = []
  | .lit b, s, s', t, r, w, h => by unfold dec at h; obtain ⟨_, _, h1, h2⟩ := M.pure_ok h; exact ⟨h1, h2⟩
  | .var i, s, s', t, r, w, h => by
    unfold dec at h
    exact atom_quiet h
  | .not a, s, s', t, r, w, h => by unfold dec at h; exact not_quiet (fun _ _ _ _ _ k => dec_quiet k) h
  | .and a b, s, s', t, r, w, h => by
    unfold dec at h
    obtain ⟨u, _, _, _, _, _, h1, h2, rfl, rfl⟩ := M.bind_ok h
    obtain ⟨rfl, rfl⟩ := dec_quiet h1
    cases u with
    | true => obtain ⟨rfl, rfl⟩ := dec_quiet (show dec X b _ = _ from h2); exact ⟨rfl, rfl⟩
    | false => obtain ⟨_, _, rfl, rfl⟩ := M.pure_ok h2; exact ⟨rfl, rfl⟩
  | .eqb a b, s, s', t, r, w, h => by
    unfold dec at h
    obtain ⟨u, _, _, _, _, _, h1, h2, rfl, rfl⟩ := M.bind_ok h
    obtain ⟨rfl, rfl⟩ := dec_quiet h1
    obtain ⟨u', _, _, _, _, _, h3, h4, rfl, rfl⟩ := M.bind_ok h2
    obtain ⟨rfl, rfl⟩ := dec_quiet h3
    obtain ⟨_, _, rfl, rfl⟩ := M.pure_ok h4
    exact ⟨rfl, rfl⟩
  | .cmp op a b, s, s', t, r, w, h => by
    unfold dec decCmp at h
    cases op <;> first
      | exact not_quiet (fun _ _ _ _ _ k => atomC_quiet k) h
      | exact atomC_quiet h
theorem findS_quiet {S : Type} {X : Ctx} {d : TypeDesc} {k : SV} : ∀ {l : List SV} {res : Option (Nat × SV)} {st st' : S} {r w : List Loc}, findS X d k l st = .ok res st' r w → r = [] ∧ w = []
  | [], res, st, st', r, w, h => by unfold findS at h; obtain ⟨_, _, h1, h2⟩ := M.pure_ok h; exact ⟨h1, h2⟩
  | [a], res, st, st', r, w, h => by unfold findS at h; obtain ⟨_, _, h1, h2⟩ := M.pure_ok h; exact ⟨h1, h2⟩
  | a :: v :: l, res, st, st', r, w, h => by
    unfold findS at h
    cases hk : keyEq X d k a with
    | none => simp only [hk] at h; cases h
    | some c =>
      simp only [hk] at h
      obtain ⟨t, _, _, _, _, _, h1, h2, rfl, rfl⟩ := M.bind_ok h
      obtain ⟨rfl, rfl⟩ := dec_quiet h1
      cases t with
      | true =>
        simp only [if_true] at h2
        obtain ⟨_, _, rfl, rfl⟩ := M.pure_ok h2; exact ⟨rfl, rfl⟩
      | false =>
        simp only [Bool.false_eq_true, if_false] at h2
        obtain ⟨_, _, _, _, _, _, h3, h4, rfl, rfl⟩ := M.bind_ok h2
        obtain ⟨rfl, rfl⟩ := findS_quiet h3
        obtain ⟨_, _, rfl, rfl⟩ := M.pure_ok h4
        exact ⟨rfl, rfl⟩
/-- laid under a new key that is told by its number -/
structure Fresh (P : Program) (X : Ctx) (t : TypeId) (b : Nat) (k v : SV) (n : Int) (d : TypeDesc) (B : Blk) (l : List SV) (st : Store) : Prop where
  mp : ∃ e, mapKey P t = some (d, e)
  kk : keyKind d k = true
  blk : st.get b = some B
  cs : mapCells B.cells = some l
  ev : (Nat.beq (l.length % 2) 0 && allKeys X d k l) = true
  fr : freshLit k l = some n
  ids : (SV.idsL [k, v]).all (fun b => (st.get b).isSome) = true
def freshR (b : Nat) (k v : SV) (n : Int) : List Loc := [.blk b] ++ ([.key n] ++ ((SV.idsL [k, v]).map .dom ++ [.dom b]))
theorem keyOf_dom : ∀ (l : List Nat) (r : List Loc), keyOf (l.map .dom ++ r) = keyOf r
  | [], r => rfl
  | a :: l, r => by simp only [List.map_cons, List.cons_append, keyOf]; exact keyOf_dom l r
theorem Fresh.run {X : Ctx} {t : TypeId} {b : Nat} {k v : SV} {n : Int} {d : TypeDesc} {B : Blk} {l : List SV} {st : Store} (h : Fresh P X t b k v n d B l st) :
    insertS P X t b k v st = .ok (.raw undef) (st.set b { B with cells := B.cells.take 1 ++ insLit n k v l }) (freshR b k v n) [.blk b] := by
  obtain ⟨e, he⟩ := h.mp
  unfold insertS
  simp only [he, h.kk, if_true]
  have h1 : rdB b st = .ok B st [.blk b] [] := by unfold rdB; rw [h.blk]
  have h2 : wrB b { B with cells := B.cells.take 1 ++ insLit n k v l } st = .ok () (st.set b { B with cells := B.cells.take 1 ++ insLit n k v l }) [.dom b] [.blk b] := by unfold wrB; rw [h.blk]
  have h3 : chk (SV.idsL [k, v]) st = .ok () st ((SV.idsL [k, v]).map .dom) [] := by unfold chk; rw [if_pos h.ids]
  have h4 : insFresh b B n k v l st = .ok (.raw undef) (st.set b { B with cells := B.cells.take 1 ++ insLit n k v l }) ([.key n] ++ ((SV.idsL [k, v]).map .dom ++ ([.dom b] ++ []))) ([] ++ ([] ++ ([.blk b] ++ []))) := by
    unfold insFresh
    exact M.bind_of rfl (M.bind_of h3 (M.bind_of h2 rfl))
  refine Eq.trans (b := R.ok (.raw undef) (st.set b { B with cells := B.cells.take 1 ++ insLit n k v l }) ([.blk b] ++ ([.key n] ++ ((SV.idsL [k, v]).map .dom ++ ([.dom b] ++ [])))) ([] ++ ([] ++ ([] ++ ([.blk b] ++ []))))) (M.bind_of h1 ?_) (by simp [freshR])
  simp only [h.cs]
  rw [if_pos h.ev]
  simp only [h.fr]
  exact h4
theorem fresh_of {X : Ctx} {t : TypeId} {b : Nat} {k v x : SV} {n : Int} {st st' : Store} {r w : List Loc} (h : insertS P X t b k v st = .ok x st' r w) (hn : keyOf r = some n) : ∃ d B l, Fresh P X t b k v n d B l st := by
  unfold insertS at h
  cases hm : mapKey P t with
  | none => simp only [hm] at h; cases h
  | some q =>
    obtain ⟨d, e⟩ := q
    simp only [hm] at h
    split at h
    · rename_i hkk
      obtain ⟨B, s1, _, _, _, _, h1, h2, rfl, rfl⟩ := M.bind_ok h
      have hfr : ∀ {r1 w1}, rdB b st = .ok B s1 r1 w1 → r1 = [.blk b] := fun h => by unfold rdB at h; split at h <;> cases h; rfl
      obtain rfl := hfr h1
      obtain ⟨hB, rfl⟩ := rdB_ok h1
      cases hl : mapCells B.cells with
      | none => simp only [hl] at h2; cases h2
      | some l =>
        simp only [hl] at h2
        split at h2
        · rename_i hev
          have chkr : ∀ {l : List Nat} {s s' : Store} {r1 w1}, chk l s = .ok () s' r1 w1 → r1 = l.map .dom ∧ s' = s ∧ l.all (fun b => (s.get b).isSome) = true := fun h => by
            unfold chk at h
            split at h <;> cases h
            rename_i hh
            exact ⟨rfl, rfl, hh⟩
          cases hfr : freshLit k l with
          | some n' =>
            simp only [hfr] at h2
            unfold insFresh at h2
            obtain ⟨_, s2, _, _, _, _, h3, h4, rfl, rfl⟩ := M.bind_ok h2
            cases h3
            obtain ⟨_, s3, _, _, _, _, h7, h8, rfl, rfl⟩ := M.bind_ok h4
            obtain ⟨rfl, rfl, hids⟩ := chkr h7
            simp only [keyOf, List.cons_append, List.nil_append] at hn
            cases hn
            exact ⟨d, B, l, ⟨⟨e, hm⟩, hkk, hB, hl, hev, hfr, hids⟩⟩
          | none =>
            exfalso
            simp only [hfr] at h2
            unfold insAny at h2
            obtain ⟨res, s2, _, _, _, _, h3, h4, rfl, rfl⟩ := M.bind_ok h2
            obtain ⟨rfl, rfl⟩ := findS_quiet h3
            obtain ⟨_, s3, _, _, _, _, h7, h8, rfl, rfl⟩ := M.bind_ok h4
            obtain ⟨rfl, rfl, hids⟩ := chkr h7
            have wr : ∀ {B : Blk} {s s' : Store} {y : SV} {r1 w1}, (do wrB b B; pure (.raw undef) : M Store SV) s = .ok y s' r1 w1 → r1 = [.dom b] := fun h => by
              obtain ⟨_, _, _, _, _, _, g1, g2, rfl, rfl⟩ := M.bind_ok h
              obtain ⟨_, _, rfl, rfl⟩ := M.pure_ok g2
              unfold wrB at g1
              split at g1 <;> cases g1
              rfl
            have : ∃ rr, rr = [Loc.dom b] ∧ keyOf ((SV.idsL [k, v]).map .dom ++ rr) = some n := by
              cases res <;> exact ⟨_, wr h8, by simpa [keyOf] using hn⟩
            obtain ⟨rr, rfl, h9⟩ := this
            rw [keyOf_dom] at h9
            cases h9
        · cases h2
    · cases h
theorem insertS_undef {X : Ctx} {t : TypeId} {b : Nat} {k v x : SV} {st st' : Store} {r w : List Loc} (h : insertS P X t b k v st = .ok x st' r w) : x = .raw undef := by
  have last : ∀ {B : Blk} {s s' : Store} {r1 w1}, (do wrB b B; pure (.raw undef) : M Store SV) s = .ok x s' r1 w1 → x = .raw undef := fun h => by
    obtain ⟨_, _, _, _, _, _, _, h2, _, _⟩ := M.bind_ok h
    exact (M.pure_ok h2).1
  unfold insertS at h
  cases hm : mapKey P t with
  | none => simp only [hm] at h; cases h
  | some q =>
    obtain ⟨d, e⟩ := q
    simp only [hm] at h
    split at h
    · obtain ⟨B, s1, _, _, _, _, h1, h2, _, _⟩ := M.bind_ok h
      cases hl : mapCells B.cells with
      | none => simp only [hl] at h2; cases h2
      | some l =>
        simp only [hl] at h2
        split at h2
        · cases hfr : freshLit k l with
          | some n' =>
            simp only [hfr] at h2
            unfold insFresh at h2
            obtain ⟨_, s2, _, _, _, _, _, h4, _, _⟩ := M.bind_ok h2
            obtain ⟨_, s3, _, _, _, _, _, h8, _, _⟩ := M.bind_ok h4
            exact last h8
          | none =>
            simp only [hfr] at h2
            unfold insAny at h2
            obtain ⟨res, s2, _, _, _, _, _, h4, _, _⟩ := M.bind_ok h2
            obtain ⟨_, s3, _, _, _, _, _, h8, _, _⟩ := M.bind_ok h4
            cases res <;> exact last h8
        · cases h2
    · cases h
theorem Fresh.swap {X : Ctx} {t1 t2 : TypeId} {b : Nat} {k1 v1 k2 v2 : SV} {n m : Int} {d1 d2 : TypeDesc} {B1 B2 : Blk} {l1 l2 : List SV} {st : Store} (hnm : n ≠ m)
    (h1 : Fresh P X t1 b k1 v1 n d1 B1 l1 st) (h2 : Fresh P X t2 b k2 v2 m d2 B2 l2 (st.set b { B1 with cells := B1.cells.take 1 ++ insLit n k1 v1 l1 })) :
    ∃ B3 l3, Fresh P X t2 b k2 v2 m d2 B1 l1 st ∧ Fresh P X t1 b k1 v1 n d1 B3 l3 (st.set b { B1 with cells := B1.cells.take 1 ++ insLit m k2 v2 l1 }) ∧
      ({ B2 with cells := B2.cells.take 1 ++ insLit m k2 v2 l2 } : Blk) = { B3 with cells := B3.cells.take 1 ++ insLit n k1 v1 l3 } := by
  have hb : (st.get b).isSome := by rw [h1.blk]; rfl
  have hdom : ∀ (B : Blk) (c : Nat), ((st.set b B).get c).isSome = (st.get c).isSome := fun B c => by
    rw [Store.get_set st b c B hb]
    split
    · rename_i e; subst e; rw [h1.blk]; rfl
    · rfl
  have hbb : B2 = { B1 with cells := B1.cells.take 1 ++ insLit n k1 v1 l1 } := by
    have := h2.blk
    rw [Store.get_set st b b _ hb, if_pos rfl] at this
    exact (Option.some.inj this).symm
  obtain ⟨f, p, d, hcs⟩ := mapCells_ok h1.cs
  have hl2 : l2 = insLit n k1 v1 l1 := by
    have := h2.cs
    rw [hbb, hcs] at this
    simpa [mapCells] using this.symm
  subst hl2
  have lk : ∀ {k : SV} {l : List SV} {n : Int}, freshLit k l = some n → litKey k = some n ∧ litFresh n l = true := fun {k l n} h => by
    unfold freshLit at h
    cases hk : litKey k with
    | none => rw [hk] at h; cases h
    | some m =>
      rw [hk] at h
      simp only at h
      split at h <;> cases h
      rename_i hh
      exact ⟨rfl, hh⟩
  have lkb : ∀ {k : SV} {l : List SV} {n : Int}, litKey k = some n → litFresh n l = true → freshLit k l = some n := fun {k l n} h1 h2 => by
    unfold freshLit; rw [h1]; simp [h2]
  obtain ⟨f1, f2⟩ := lk h1.fr
  obtain ⟨f3, f4⟩ := lk h2.fr
  rw [litFresh_ins, Bool.and_eq_true] at f4
  have e1 := h1.ev
  have e2 := h2.ev
  simp only [Bool.and_eq_true, Nat.beq_eq] at e1 e2
  rw [allKeys_ins, Bool.and_eq_true, insLit_len] at e2
  have hsym : (keyEq X d1 k1 k2).isSome = true := by
    have g := e2.2.1
    have kk1 := h1.kk
    have kk2 := h2.kk
    unfold litKey at f1 f3
    split at f1 <;> cases f1
    split at f3 <;> cases f3
    unfold keyKind at kk1 kk2
    split at kk1
    · split at kk2
      · simp only [keyEq] at g ⊢
        split at g
        · rename_i hh
          rw [if_pos hh.symm]; rfl
        · cases g
      · simp [strB] at kk2
      · cases kk2
    · simp [strB] at kk1
    · cases kk1
  refine ⟨{ B1 with cells := B1.cells.take 1 ++ insLit m k2 v2 l1 }, insLit m k2 v2 l1, ⟨h2.mp, h2.kk, h1.blk, h1.cs, ?_, lkb f3 f4.2, ?_⟩, ⟨h1.mp, h1.kk, ?_, ?_, ?_, lkb f1 ?_, ?_⟩, ?_⟩
  · simp only [Bool.and_eq_true, Nat.beq_eq]
    exact ⟨e1.1, e2.2.2⟩
  · have := h2.ids
    simpa only [hdom] using this
  · rw [Store.get_set st b b _ hb, if_pos rfl]
  · rw [hcs]; simp [mapCells]
  · simp only [Bool.and_eq_true, Nat.beq_eq]
    rw [allKeys_ins, insLit_len, hsym]
    exact ⟨by omega, by simpa using e1.2⟩
  · rw [litFresh_ins, f2]
    simp only [neKey, f3, Bool.and_true, Bool.not_eq_true', decide_eq_false_iff_not]
    exact fun e => hnm e.symm
  · have := h1.ids
    simpa only [hdom] using this
  · rw [hbb, hcs]
    simp only [List.take_succ_cons, List.take_zero, List.cons_append, List.nil_append]
    congr 2
    rcases Int.lt_or_gt_of_ne hnm with h | h
    · exact insLit_comm f1 f3 h l1
    · exact (insLit_comm f3 f1 h l1).symm
theorem rdOp_at {x : Operand} {s s' : St} {v : SV} {r w : List Loc} (h : rdOp x s = .ok v s' r w) : s' = s ∧ w = [] ∧ (∀ l ∈ r, l.isTmp = true) ∧ ∀ u : St, u.m = s.m → rdOp x u = .ok v u r [] := by
  cases x with
  | tmp t =>
    obtain ⟨u, s1, _, _, _, _, h1, h2, rfl, rfl⟩ := M.bind_ok h
    unfold rdT at h1
    cases hg : s.m.get t with
    | none => rw [hg] at h1; cases h1
    | some u' =>
      rw [hg] at h1
      cases h1
      have key : ∀ {q w'}, (match u with | .any => M.fail (.call t []) | .panv _ => bad "panv" | v => (pure v : M St SV)) s = .ok v s' q w' → s' = s ∧ q = [] ∧ w' = [] ∧ ∀ z : St, (match u with | .any => M.fail (.call t []) | .panv _ => bad "panv" | v => (pure v : M St SV)) z = .ok v z [] [] := by
        intro q w' hq
        cases u <;> first
          | (cases hq; done)
          | (obtain ⟨rfl, rfl, rfl, rfl⟩ := M.pure_ok hq; exact ⟨rfl, rfl, rfl, fun z => rfl⟩)
      obtain ⟨rfl, rfl, rfl, k4⟩ := key h2
      refine ⟨rfl, rfl, fun l hl => ?_, fun z hz => ?_⟩
      · simp only [List.append_nil, List.mem_cons, List.not_mem_nil, or_false] at hl
        subst hl; rfl
      · exact M.bind_of (show rdT t z = .ok u z [.tmp t] [] by unfold rdT; rw [hz, hg]) (k4 z)
  | const c =>
    obtain ⟨rfl, rfl, rfl, rfl⟩ := M.pure_ok h
    exact ⟨rfl, rfl, fun l hl => (by cases hl), fun u _ => rfl⟩
  | func f =>
    obtain ⟨rfl, rfl, rfl, rfl⟩ := M.pure_ok h
    exact ⟨rfl, rfl, fun l hl => (by cases hl), fun u _ => rfl⟩
  | global g => cases h
theorem rdAll_at : ∀ {l : List Operand} {s s' : St} {vs : List SV} {r w : List Loc}, rdAll l s = .ok vs s' r w → s' = s ∧ w = [] ∧ (∀ l ∈ r, l.isTmp = true) ∧ ∀ u : St, u.m = s.m → rdAll l u = .ok vs u r []
  | [], s, s', vs, r, w, h => by
    obtain ⟨rfl, rfl, rfl, rfl⟩ := M.pure_ok h
    exact ⟨rfl, rfl, fun l hl => (by cases hl), fun u _ => rfl⟩
  | x :: l, s, s', vs, r, w, h => by
    obtain ⟨v, s1, _, _, _, _, h1, h2, rfl, rfl⟩ := M.bind_ok h
    obtain ⟨rfl, rfl, a1, b1⟩ := rdOp_at h1
    obtain ⟨us, s2, _, _, _, _, h3, h4, rfl, rfl⟩ := M.bind_ok h2
    obtain ⟨rfl, rfl, a2, b2⟩ := rdAll_at h3
    obtain ⟨rfl, rfl, rfl, rfl⟩ := M.pure_ok h4
    refine ⟨rfl, rfl, fun l hl => ?_, fun u hu => M.bind_of (b1 u hu) (M.bind_of (b2 u hu) rfl)⟩
    simp only [List.append_nil, List.mem_append] at hl
    rcases hl with hl | hl
    · exact a1 l hl
    · exact a2 l hl
theorem keyOf_tmps : ∀ {l : List Loc} (r : List Loc), (∀ x ∈ l, x.isTmp = true) → keyOf (l ++ r) = keyOf r
  | [], r, _ => rfl
  | x :: l, r, h => by
    have hx := h x (by simp)
    rw [List.cons_append]
    cases x <;> first | (simp only [keyOf]; exact keyOf_tmps r (fun y hy => h y (by simp [hy]))) | (simp [Loc.isTmp] at hx)
theorem keyOf_filter : ∀ (l : List Loc), keyOf (l.filter fun l => !l.isTmp) = keyOf l
  | [] => rfl
  | x :: l => by cases x <;> first | exact keyOf_filter l | rfl
theorem lay_out {X : Ctx} {call rnd : Nat → List SV → Nat → M Store SV} {id : Nat} {ops : Array Oper} {o : Oper} {s s' : St} {r w : List Loc} {n : Int} (ho : layOp o = true) (h : evOperD P X call rnd id ops o s = .ok () s' r w) (hn : keyOf r = some n) :
    ∃ t b k v rr, (∀ l ∈ rr, l.isTmp = true) ∧ (∃ st1 r1 w1 x, insertS P X t b k v s.st = .ok x st1 r1 w1 ∧ keyOf r1 = some n ∧ s' = { s with st := st1 } ∧ r = rr ++ (r1.filter fun l => !l.isTmp) ∧ w = w1.filter fun l => !l.isTmp) ∧
      (∀ (u : St) st1 r1 w1, u.m = s.m → insertS P X t b k v u.st = .ok (.raw undef) st1 r1 w1 → evOperD P X call rnd id ops o u = .ok () { u with st := st1 } (rr ++ (r1.filter fun l => !l.isTmp)) (w1.filter fun l => !l.isTmp)) := by
  obtain ⟨dst, op, ty, pos, after, guard⟩ := o
  unfold layOp at ho
  cases op with
  | insert t m k x =>
    simp only [Bool.and_eq_true, Option.isNone_iff_eq_none] at ho
    obtain ⟨rfl, rfl⟩ := ho
    obtain ⟨res, s1, _, _, _, _, h1, h2, rfl, rfl⟩ := M.bind_ok h
    obtain ⟨wt, s2, _, _, _, _, h3, h4, rfl, rfl⟩ := M.bind_ok h1
    obtain ⟨rfl, rfl, rfl, rfl⟩ := M.pure_ok h3
    simp only [if_true] at h4
    obtain ⟨vs, s3, rr, _, _, _, h5, h6, rfl, rfl⟩ := M.bind_ok h4
    obtain ⟨rfl, rfl, ht, hat⟩ := rdAll_at h5
    obtain ⟨v, s4, _, _, _, _, h7, h8, rfl, rfl⟩ := M.bind_ok h6
    unfold lift at h7
    split at h7 <;> cases h7
    rename_i st1 r1 w1 h7
    obtain ⟨v', s5, q1, z1, q2, z2, h9, h10, rfl, rfl⟩ := M.bind_ok h7
    obtain ⟨_, s6, _, _, _, _, h11, h12, rfl, rfl⟩ := M.bind_ok h10
    obtain ⟨rfl, rfl, rfl, rfl⟩ := M.pure_ok h12
    match vs, h9, hat with
    | [.mp b, kv, vv], h9, hat =>
      have h9 : insertS P X t b kv vv s3.st = .ok v s5 q1 z1 := h9
      have hv : v = .raw undef ∧ ∀ x : SV, x = v → True := ⟨insertS_undef h9, fun _ _ => trivial⟩
      obtain rfl := hv.1
      have hc : ∀ st : Store, chk (SV.ids (.raw undef)) st = .ok () st [] [] := fun st => rfl
      rw [hc] at h11
      cases h11
      simp only at h8
      obtain ⟨_, s7, _, _, _, _, h13, h14, rfl, rfl⟩ := M.bind_ok h8
      obtain ⟨_, rfl, rfl, rfl⟩ := M.pure_ok (show (Pure.pure () : M St Unit) _ = _ from h13)
      obtain ⟨rfl, rfl, rfl, rfl⟩ := M.pure_ok h14
      simp only at h2
      obtain ⟨_, rfl, rfl, rfl⟩ := M.pure_ok h2
      refine ⟨t, b, kv, vv, rr, ht, ⟨_, q1, z1, _, h9, ?_, rfl, by simp, by simp⟩, fun u st1 r1 w1 hu hins => ?_⟩
      · have := hn
        simp only [List.append_nil, List.nil_append] at this
        rwa [keyOf_tmps _ ht, keyOf_filter] at this
      · have e1 : evOp P X call rnd id (.insert t m k x) [.mp b, kv, vv] u.st = .ok (.raw undef) st1 r1 w1 := hins
        have e2 : (do
            let v ← evOp P X call rnd id (.insert t m k x) [.mp b, kv, vv]
            chk v.ids
            pure v : M Store SV) u.st = .ok (.raw undef) st1 (r1 ++ ([] ++ [])) (w1 ++ ([] ++ [])) := M.bind_of e1 (M.bind_of (hc st1) rfl)
        have e3 : lift (do
            let v ← evOp P X call rnd id (.insert t m k x) [.mp b, kv, vv]
            chk v.ids
            pure v : M Store SV) u = .ok (.raw undef) { u with st := st1 } (r1.filter fun l => !l.isTmp) (w1.filter fun l => !l.isTmp) := by
          unfold lift
          rw [e2]
          simp
        have e4 : evOper P X call rnd id ops ⟨none, .insert t m k x, ty, pos, after, none⟩ u = .ok none { u with st := st1 } ([] ++ (rr ++ ((r1.filter fun l => !l.isTmp) ++ ([] ++ [])))) ([] ++ ([] ++ ((w1.filter fun l => !l.isTmp) ++ ([] ++ [])))) := by
          unfold evOper
          refine M.bind_of (show wants X ops _ u = .ok true u [] [] from rfl) ?_
          rw [if_pos rfl]
          exact M.bind_of (hat u hu) (M.bind_of e3 (M.bind_of rfl rfl))
        exact Eq.trans (M.bind_of e4 (show (match (none : Option SV) with | none => (pure () : M St Unit) | some _ => bad "a panic in whatever order") _ = .ok () { u with st := st1 } [] [] from rfl)) (by simp)
  | _ => cases ho
theorem keySwap {X : Ctx} {call rnd : Nat → List SV → Nat → M Store SV} {u k : Nat} {ops : Array Oper} {m : Nat → M St Unit} (hm : ∀ (i : Nat) o, ops[i]? = some o → m i = evOperD P X call rnd (stepId u (k + i)) ops o) : KeySwap ops m := by
  intro i j s s1 s2 r1 w1 r2 w2 h1 h2 hk
  unfold keysApart at hk
  split at hk
  · rename_i o q n n' ho hq h3 h4
    simp only [Bool.and_eq_true, Bool.not_eq_true', decide_eq_false_iff_not, decide_eq_true_eq] at hk
    obtain ⟨⟨⟨k1, k2⟩, k3⟩, k4⟩ := hk
    rw [hm i o ho] at h1 ⊢
    rw [hm j q hq] at h2 ⊢
    obtain ⟨t, b, kv, vv, rr, ht, ⟨st1, q1, z1, x1, g1, g2, rfl, rfl, rfl⟩, hag⟩ := lay_out k1 h1 h3
    obtain ⟨t', b', kv', vv', rr', ht', ⟨st2, q2, z2, x2, g3, g4, rfl, rfl, rfl⟩, hag'⟩ := lay_out k2 h2 h4
    obtain ⟨d1, B1, l1, f1⟩ := fresh_of g1 g2
    obtain ⟨d2, B2, l2, f2⟩ := fresh_of g3 g4
    have r1 := f1.run
    rw [g1] at r1
    cases r1
    have r2 := f2.run
    rw [g3] at r2
    cases r2
    obtain rfl : b = b' := by simpa [List.filter_cons, Loc.isTmp] using k4
    obtain ⟨B3, l3, f3, f4, e⟩ := f1.swap k3 f2
    refine ⟨_, _, hag' s _ _ _ rfl f3.run, hag { s with st := _ } _ _ _ rfl f4.run, fun l => ?_⟩
    have hb : (s.st.get b).isSome := by rw [f1.blk]; rfl
    have hb' : ∀ B, ((s.st.set b B).get b).isSome := fun B => by rw [Store.get_set s.st b b B hb, if_pos rfl]; rfl
    have hg : ∀ c, ((s.st.set b { B1 with cells := B1.cells.take 1 ++ insLit n kv vv l1 }).set b { B2 with cells := B2.cells.take 1 ++ insLit n' kv' vv' l2 }).get c = ((s.st.set b { B1 with cells := B1.cells.take 1 ++ insLit n' kv' vv' l1 }).set b { B3 with cells := B3.cells.take 1 ++ insLit n kv vv l3 }).get c := fun c => by
      rw [Store.get_set _ b c _ (hb' _), Store.get_set _ b c _ (hb' _), e]
      split
      · rfl
      · rename_i hne
        rw [Store.get_set _ b c _ hb, Store.get_set _ b c _ hb, if_neg hne, if_neg hne]
    cases l with
    | tmp i => rfl
    | dfr => rfl
    | key n => trivial
    | dom c => show (Store.get _ c).isSome = (Store.get _ c).isSome; rw [hg c]
    | blk c => exact hg c
  · cases hk
theorem evRegion_ok (hmix : P.follows .mixedOrders = true) {X : Ctx} (hX : Knows ρ X) {call rnd : Nat → List SV → Nat → M Store SV} (hc : CallOk P ρ E call) (hrn : RoundOk P ρ E rnd) (hcl : ∀ f vs i, Local agrS (call f vs i)) (hrl : ∀ f vs i, Local agrS (rnd f vs i)) {rd : Option Nat} {rf : Option Nat} (hrd : RdOk rd φ0 st0 rf) {ops : Array Oper} {draw : Bool} {id u k : Nat}
    {s s' : St} {x : Ex} {r wl : List Loc} (h : evRegion P X call rnd rd ops draw u k s = .ok x s' r wl) {a : Act} (hr : RelF P ρ E D w0 φ0 st0 s a w) {Q : Exit → Act → World → Prop} (hQ : ∀ a' w' y, RelX P ρ E D w0 φ0 st0 s' x a' w' y → Q y a' w') :
    (Code.region id ops draw).wpIn (FW rf) 0 P Q a w := by
  unfold evRegion at h
  cases draw with
  | false =>
    simp only [Bool.false_eq_true, if_false] at h
    obtain ⟨res, s1, _, _, _, _, h1, h2, _, _⟩ := M.bind_ok h
    obtain ⟨rfl, rfl, _, _⟩ := M.pure_ok h2
    exact wpIn_region_list (evSeq_ok hX hc hrn hrd h1 hr hQ)
  | true =>
    simp only [if_true] at h
    obtain ⟨fps, s1, _, _, _, _, h1, h2, _, _⟩ := M.bind_ok h
    split at h2
    · rename_i hok
      obtain ⟨rfl, rfl, _, _⟩ := M.pure_ok h2
      simp only [orderOk, Bool.and_eq_true] at hok
      obtain ⟨⟨hb, hf⟩, hp⟩ := hok
      let m : Nat → M St Unit := fun i => match ops[i]? with | some o => evOperD P X call rnd (stepId u (k + i)) ops o | none => bad "none"
      have hm : ∀ (i : Nat) o, ops[i]? = some o → m i = evOperD P X call rnd (stepId u (k + i)) ops o := fun i o ho => by simp only [m, ho]
      obtain ⟨hrun, hlen⟩ := evOps_run hm (j := 0) (l := ops.toList) (fun i => by simp) h1
      have hlen : fps.length = ops.size := by simpa using hlen
      have hloc : ∀ i, Local agrT (m i) := fun i => by
        simp only [m]
        split
        · exact evOperD_local P X hcl hrl _ _ _
        · exact bad_local _
      refine wpIn_region_any hmix ?_
      refine any_of_run hloc (keySwap hm) (Rl := RelF P ρ E D w0 φ0 st0) (fun s t a w hst hr => hr.same hst) (fun i s s' r wl a w K hi hr hK => ?_) hb hf _ _ _ _ _ _ _ ?_ hrun hp ?_ hr.drew (fun a' w' hr' => hQ _ _ _ hr'.normal)
      · unfold wpOpIn
        cases ho : ops[i]? with
        | none => simp only [m, ho] at hi; cases hi
        | some o =>
          rw [hm i o ho] at hi
          exact evOperD_ok hX hc hrn hi hr hK
      · have := congrArg List.length (numbered_fst (l := fps) (j := 0))
        simpa [hlen] using this
      · refine ⟨by simp, fun j hj => ?_, fun j o ho hj => ?_, ?_, fun j hj => ?_⟩
        · rw [numbered_fst, hlen]
          simp [hj, List.mem_range']
        · rw [getD_replicate_false] at hj; cases hj
        · rw [numbered_fst]; exact List.pairwise_lt_range'
        · rw [numbered_fst, hlen] at hj
          simp [List.mem_range'] at hj
          omega
    · cases h2
end Ev
end Go.Proofs.Ytmgfnejiienghaa
/- A checked evaluator: what it comes to is what the call comes to. -/
namespace Go.Proofs.Ytmgfnejiienghaa
open Go Go.RowKit
set_option linter.unusedVariables false
namespace Ev
variable {P : Program} {ρ : Env} {E : List (Nat × Nat)} {D : List Deferred} {w0 : World} {φ φ0 : Nat → Nat} {st st0 : Store} {w : World}

def Ex.to : Ex → Exit
  | .normal => .normal
  | .exit id => .exit id
  | _ => .ret
/-- a loop's sum is what the loop does -/
def LoopGoes (P : Program) (ρ : Env) (E : List (Nat × Nat)) (L : LoopSum) (c : Code) : Prop :=
  ∀ st, (∀ q ∈ L.bl, Store.get st q.1 = some q.2) → ∀ D w0 φ0 st0 a w, RelF P ρ E D w0 φ0 st0 ⟨Tm.ofL L.tm, st⟩ a w →
    ∀ Q : Exit → Act → World → Prop, (∀ a' w', RelF P ρ E D w0 φ0 st0 ⟨Tm.ofL L.tm', setAll st L.bl'⟩ a' w' → Q L.ex.to a' w') → (Code.loop c).wpIn (FW none) 0 P Q a w
/-- the calls that are known come to what is known of them -/
structure KnowsC (P : Program) (ρ : Env) (E : List (Nat × Nat)) (X : Ctx) : Prop where
  cr : ∀ c ∈ X.cr, ∀ φ w, ExtIn ρ w → Calls P c.1 (SV.denL ρ φ c.2.1).toArray w fun e w' => e = .returned (c.2.2.den ρ φ) ∧ Below w.heap.size w w'
  ct : ∀ pc, (∀ c ∈ pc, c.1.den ρ = c.2) → ∀ f vs v, X.ct pc f vs = some v → v.ids = [] → ∀ φ w, ExtIn ρ w → Calls P f (SV.denL ρ φ vs).toArray w fun e w' => e = .returned (v.den ρ φ) ∧ Below w.heap.size w w'
  lp : ∀ f p u L, X.lp f p u = some L → ∀ c, codeAt P f p = .loop c → sameIds L.bl L.bl' = true → LoopGoes P ρ E L c
theorem lookC_ok : ∀ {l : List (FuncId × List SV × SV)} {f : FuncId} {vs : List SV} {v : SV}, lookC l f vs = some v → (f, vs, v) ∈ l
  | [], f, vs, v, h => by simp [lookC] at h
  | (g, us, u) :: l, f, vs, v, h => by
    simp only [lookC] at h
    split at h
    · rename_i hb
      simp only [Bool.and_eq_true, Nat.beq_eq] at hb
      obtain ⟨h1, h2⟩ := hb
      cases h
      rw [h1, SV.beqL_eq h2]; simp
    · exact List.mem_cons_of_mem _ (lookC_ok h)
/-- one result of a call -/
def resOne (tmps : Array Value) : ResultVar → Sem Value
  | .tmp t => Pure.pure (tmps.getD t undef)
  | .cell p t => do loadVar t (← asAddr (tmps.getD p undef))
theorem results_ok : ∀ {l : List ResultVar} {s s' : St} {vs : List SV} {r wl : List Loc}, evResults P l s = .ok vs s' r wl → s' = s ∧ ∀ D φ a w, RelS P ρ E w0 φ s.st w → RelT ρ D φ s a →
    ((l.mapM (m := Sem) (resOne a.tmps)).run P w = .ok (SV.denL ρ φ vs) w ∧ ∀ c ∈ SV.idsL vs, (s.st.get c).isSome)
  | [], s, s', vs, r, wl, h => by
    obtain ⟨rfl, rfl, _, _⟩ := M.pure_ok h
    exact ⟨rfl, fun D φ a w _ _ => ⟨by simp [SV.denL], by simp [SV.idsL]⟩⟩
  | .tmp t :: l, s, s', vs, r, wl, h => by
    obtain ⟨v, s1, _, _, _, _, h1, h2, _, _⟩ := M.bind_ok h
    obtain ⟨rfl, e1⟩ := rdOp_ok (ρ := ρ) h1
    obtain ⟨us, s2, _, _, _, _, h3, h4, _, _⟩ := M.bind_ok h2
    obtain ⟨rfl, e2⟩ := results_ok h3
    obtain ⟨rfl, rfl, _, _⟩ := M.pure_ok h4
    refine ⟨rfl, fun D φ a w hs ht => ?_⟩
    obtain ⟨e3, e4⟩ := e1 D φ a ht
    obtain ⟨e5, e6⟩ := e2 D φ a w hs ht
    refine ⟨?_, fun c hc => ?_⟩
    · have e3' : a.tmps.getD t undef = v.den ρ φ := e3
      have e7 : (resOne a.tmps (.tmp t)).run P w = .ok (v.den ρ φ) w := by
        simp only [resOne, e3', Sem.run_pure]
      rw [List.mapM_cons]
      simp only [Sem.run_bind, Sem.run_pure, Result.andThen_ok, e7, e5, SV.denL]
    · simp only [SV.idsL, List.mem_append] at hc
      rcases hc with hc | hc
      · exact e4 c hc
      · exact e6 c hc
  | .cell p ty :: l, s, s', vs, r, wl, h => by
    obtain ⟨v, s1, _, _, _, _, h1, h2, _, _⟩ := M.bind_ok h
    obtain ⟨rfl, e1⟩ := rdOp_ok (ρ := ρ) h1
    match v, h2, e1 with
    | .ptr b off, h2, e1 =>
      obtain ⟨u, s2, _, _, _, _, h3, h4, _, _⟩ := M.bind_ok h2
      obtain ⟨st', _, _, h5, rfl⟩ := lift_ok h3
      obtain ⟨u', st2, _, _, _, _, h6, h7, _, _⟩ := M.bind_ok h5
      obtain ⟨_, st3, _, _, _, _, h8, h9, _, _⟩ := M.bind_ok h7
      obtain ⟨rfl, hcl⟩ := chk_ok h8
      obtain ⟨rfl, rfl, _, _⟩ := M.pure_ok h9
      have hld := loadS_same h6
      subst hld
      obtain ⟨us, s3, _, _, _, _, h10, h11, _, _⟩ := M.bind_ok h4
      obtain ⟨rfl, e2⟩ := results_ok h10
      obtain ⟨rfl, rfl, _, _⟩ := M.pure_ok h11
      refine ⟨rfl, fun D φ a w hs ht => ?_⟩
      obtain ⟨e3, _⟩ := e1 D φ a ht
      obtain ⟨e5, e6⟩ := e2 D φ a w hs ht
      obtain ⟨_, e7⟩ := loadS_ok h6 hs
      refine ⟨?_, fun c hc => ?_⟩
      · have e3' : a.tmps.getD p undef = .pointer (some ⟨φ b, off, none⟩) := e3
        have e4 : (resOne a.tmps (.cell p ty)).run P w = .ok (u.den ρ φ) w := by
          simp only [resOne, e3', asAddr, Sem.run_bind, Sem.run_pure, Result.andThen_ok, e7]
        rw [List.mapM_cons]
        simp only [Sem.run_bind, Sem.run_pure, Result.andThen_ok, e4, e5, SV.denL]
      · simp only [SV.idsL, List.mem_append] at hc
        rcases hc with hc | hc
        · exact hcl c hc
        · exact e6 c hc
theorem oneOf_den (vs : List SV) : (oneOf vs).den ρ φ = (if h : (SV.denL ρ φ vs).toArray.size = 1 then (SV.denL ρ φ vs).toArray[0] else .tuple (SV.denL ρ φ vs).toArray) := by
  match vs with
  | [] => rfl
  | [v] => rfl
  | v :: u :: vs => simp [oneOf, SV.den, SV.denL]
theorem results_run {fn : Func} {s s' : St} {vs : List SV} {r wl : List Loc} (h : evResults P fn.results.toList s = .ok vs s' r wl) {a : Act} (hs : RelS P ρ E w0 φ s.st w) (ht : RelT ρ D φ s a) :
    (results fn a.tmps).run P w = .ok ((oneOf vs).den ρ φ) w := by
  obtain ⟨_, e⟩ := results_ok h
  obtain ⟨e1, _⟩ := e D φ a w hs ht
  have hm : (fn.results.mapM (resOne a.tmps)).run P w = .ok (SV.denL ρ φ vs).toArray w := by
    have h2 : fn.results.mapM (resOne a.tmps) = fn.results.toList.mapM (resOne a.tmps) >>= fun l => Pure.pure l.toArray := by rw [Array.mapM_eq_mapM_toList]; rfl
    rw [h2, Sem.run_bind, e1]; rfl
  have h3 : results fn a.tmps = (fn.results.mapM (resOne a.tmps) >>= fun vs => Pure.pure (if h : vs.size = 1 then vs[0] else .tuple vs)) := rfl
  rw [oneOf_den, h3, Sem.run_bind, hm]
  rfl


/-! scopes, records -/
theorem stepR_scope {b : Frame} {a : Act} {k : List Item} {cs : List Frame} {w : World} {c : Code} : step P (lone (b.atR a (.code (.scope c) :: k)) cs w) = .next (lone (b.atR a (.code c :: .inScope c :: k)) cs w) :=
  step_lone_go (by simp [stepG, stepG.exec, Frame.atR])
theorem stepR_inScope {b : Frame} {a : Act} {k : List Item} {cs : List Frame} {w : World} {c : Code} : step P (lone (b.atR a (.inScope c :: k)) cs w) = .next (lone (b.atR a k) cs w) :=
  step_lone_go (by simp [stepG, stepG.exec, Frame.atR])
theorem wpIn_scope {F : Fence} {n : Nat} {c : Code} {Q : Exit → Act → World → Prop} {a : Act} (h : c.wpIn F n P (Exit.noGoto Q) a w) : (Code.scope c).wpIn F n P Q a w := by
  intro b k cs hro hb hr
  have h0 : (lone (b.atR a (.code (.scope c) :: k)) cs w).fenced P F := fenced_calm hb hr rfl
  obtain ⟨e, a₁, w₁, hq, harr⟩ := h b (.inScope c :: k) cs hro hb hr
  cases e with
  | normal => exact ⟨.normal, a₁, w₁, hq, .head h0 stepR_scope (StepsIn.trans harr (.one (fenced_calm hb hr rfl) stepR_inScope))⟩
  | exit id =>
    have hx : exitTo id (.inScope c :: k) = exitTo id k := by simp [exitTo]
    exact ⟨.exit id, a₁, w₁, hq, fun k' hk => .head h0 stepR_scope (harr.1 k' (by rw [hx]; exact hk)), fun hr' hk => let ⟨k₁, h1, h2⟩ := harr.2 hr' (by rw [hx]; exact hk); ⟨k₁, h1, .head h0 stepR_scope h2⟩⟩
  | goto l => exact hq.elim
  | ret => exact ⟨_, a₁, w₁, hq, .of_steps (.one h0 stepR_scope) harr⟩
  | panic ch => exact ⟨_, a₁, w₁, hq, .of_steps (.one h0 stepR_scope) harr⟩
  | outgrown => exact ⟨_, a₁, w₁, hq, .of_steps (.one h0 stepR_scope) harr⟩
theorem bcOf_recd {m f d k i e : Nat} {p q : List Nat} {tm : List SV} (hm : m ≠ 0 ∧ m ≠ 5 ∧ m ≠ 6) : bcOf (.mark m f p d :: .mark k i q e :: tm) = .recd m f p d k i tm := by
  unfold bcOf
  simp only
  split
  · exact absurd rfl hm.1
  · exact absurd rfl hm.2.1
  · exact absurd rfl hm.2.2
  · rfl
/-- a record, as the model has it -/
theorem RelS.recd (hr : RelS P ρ E w0 φ st w) {b : Nat} {B : Blk} {R : RecP} (hB : st.get b = some B) (hR : recP B.cells = some R) (hm : R.m ≠ 0 ∧ R.m ≠ 5 ∧ R.m ≠ 6) :
    ∃ g ps as body vs f0, codeAt P R.f R.p = .rangeFunc g ps as body ∧ tmOk ρ φ R.tm vs ∧ w.heap[φ b]? = some (.loop { state := stOf R.m, pending := jumpOf R.k R.i, fn := f0, tmps := vs, params := ps, assign := as, body := body, defers := φ R.d }) := by
  obtain ⟨o, h1, h2⟩ := hr.bl b _ hB
  unfold objOk at h2
  rw [recP_eq hR, RecP.cells, bcOf_recd hm] at h2
  obtain ⟨g, ps, as, body, vs, f0, h3, h4, rfl⟩ := h2
  exact ⟨g, ps, as, body, vs, f0, h3, h4, h1⟩
theorem RelS.recIds (hr : RelS P ρ E w0 φ st w) {b : Nat} {B : Blk} {R : RecP} (hB : st.get b = some B) (hR : recP B.cells = some R) : (st.get R.d).isSome ∧ (st.get R.e).isSome ∧ ∀ c ∈ SV.idsL R.tm, (st.get c).isSome := by
  have := hr.cl b B hB
  rw [recP_eq hR, RecP.cells] at this
  simp only [SV.idsL, SV.ids, List.singleton_append, List.mem_cons, forall_eq_or_imp] at this
  exact ⟨this.1, this.2.1, this.2.2⟩
/-- a record's state and jump are set -/
theorem RelS.setRec (hr : RelS P ρ E w0 φ st w) {b : Nat} {B : Blk} {R : RecP} (hB : st.get b = some B) (hR : recP B.cells = some R)
    {g : Operand} {ps : Array Tmp} {as body : Code} {vs : Array Value} {f0 : FuncId} (hcode : codeAt P R.f R.p = .rangeFunc g ps as body) (htm : tmOk ρ φ R.tm vs) (hg : w.heap[φ b]? = some (.loop { state := stOf R.m, pending := jumpOf R.k R.i, fn := f0, tmps := vs, params := ps, assign := as, body := body, defers := φ R.d }))
    (m' k' i' : Nat) (q' : List Nat) (hm' : m' ≠ 0 ∧ m' ≠ 5 ∧ m' ≠ 6) :
    Step P ρ E w0 φ st φ (st.set b { B with cells := R.cells m' k' i' q' }) (w.putObj (φ b) (.loop { state := stOf m', pending := jumpOf k' i', fn := f0, tmps := vs, params := ps, assign := as, body := body, defers := φ R.d })) := by
  obtain ⟨i1, i2, i3⟩ := hr.recIds hB hR
  refine hr.putO b B _ _ _ hB (by rw [recP_eq hR, RecP.cells]; simp) hg (fun _ _ _ => by simp) (fun c hc => ?_) ?_
  · simp only [RecP.cells, SV.idsL, SV.ids, List.singleton_append, List.mem_cons] at hc
    rcases hc with rfl | rfl | hc
    · exact i1
    · exact i2
    · exact i3 c hc
  · unfold objOk
    simp only [RecP.cells]
    rw [bcOf_recd hm']
    exact ⟨g, ps, as, body, vs, f0, hcode, htm, rfl⟩
theorem beginL_ok {b : Nat} {st' : Store} {r wl : List Loc} {u : Unit} (h : beginL b st = .ok u st' r wl) (hr : RelS P ρ E w0 φ st w) : ∃ w', Step P ρ E w0 φ st φ st' w' ∧ (Instr.beginRound (φ b)).run P w = .ok () w' := by
  unfold beginL at h
  obtain ⟨B, s1, _, _, _, _, h1, h2, _, _⟩ := M.bind_ok h
  obtain ⟨hB, rfl⟩ := rdB_ok h1
  cases hR : recP B.cells with
  | none => simp only [hR] at h2; cases h2
  | some R =>
    simp only [hR] at h2
    split at h2
    · rename_i hm
      have hm : R.m = 1 := by simpa using hm
      obtain rfl := wrB_ok h2
      obtain ⟨g, ps, as, body, vs, f0, e1, e2, e3⟩ := hr.recd hB hR (by omega)
      exact ⟨_, hr.setRec hB hR e1 e2 e3 2 R.k R.i R.q (by decide), run_beginRound e3 (by rw [hm]; rfl)⟩
    · cases h2
theorem setL_ok {b m pk pi : Nat} {st' : Store} {r wl : List Loc} {u : Unit} (h : setL b m pk pi st = .ok u st' r wl) (hr : RelS P ρ E w0 φ st w) (hm : (m = 1 ∧ pk = 10) ∨ (m = 3 ∧ (pk = 11 ∨ pk = 12))) :
    ∃ w', Step P ρ E w0 φ st φ st' w' ∧ (Instr.endRound (φ b) (jumpOf pk pi)).run P w = .ok (.bool (jumpOf pk pi).isNone) w' := by
  unfold setL at h
  obtain ⟨B, s1, _, _, _, _, h1, h2, _, _⟩ := M.bind_ok h
  obtain ⟨hB, rfl⟩ := rdB_ok h1
  cases hR : recP B.cells with
  | none => simp only [hR] at h2; cases h2
  | some R =>
    simp only [hR] at h2
    split at h2
    · rename_i hm2
      have hm2 : R.m = 2 := by simpa using hm2
      obtain rfl := wrB_ok h2
      obtain ⟨g, ps, as, body, vs, f0, e1, e2, e3⟩ := hr.recd hB hR (by omega)
      refine ⟨_, hr.setRec hB hR e1 e2 e3 m pk pi [] (by omega), ?_⟩
      rw [run_endRound (jumpOf pk pi) e3]
      rcases hm with ⟨rfl, rfl⟩ | ⟨rfl, rfl | rfl⟩ <;> rfl
    · cases h2
theorem leaveL_ok {b : Nat} {e : Ex} {st' : Store} {r wl : List Loc} (h : leaveL b st = .ok e st' r wl) (hr : RelS P ρ E w0 φ st w) :
    ∃ w' k i, Step P ρ E w0 φ st φ st' w' ∧ (Instr.endLoop (φ b)).run P w = .ok (jumpOf k i) w' ∧ jumpS k i = some e := by
  unfold leaveL at h
  obtain ⟨B, s1, _, _, _, _, h1, h2, _, _⟩ := M.bind_ok h
  obtain ⟨hB, rfl⟩ := rdB_ok h1
  cases hR : recP B.cells with
  | none => simp only [hR] at h2; cases h2
  | some R =>
    simp only [hR] at h2
    split at h2
    · rename_i hm
      have hm : R.m = 1 ∨ R.m = 3 := by simpa using hm
      cases hj : jumpS R.k R.i with
      | none => simp only [hj] at h2; cases h2
      | some e' =>
        simp only [hj] at h2
        obtain ⟨_, s2, _, _, _, _, h3, h4, _, _⟩ := M.bind_ok h2
        obtain rfl := wrB_ok h3
        obtain ⟨rfl, rfl, _, _⟩ := M.pure_ok h4
        obtain ⟨g, ps, as, body, vs, f0, e1, e2, e3⟩ := hr.recd hB hR (by omega)
        refine ⟨_, R.k, R.i, hr.setRec hB hR e1 e2 e3 4 R.k R.i R.q (by decide), ?_, hj⟩
        exact run_endLoop e3 (by rcases hm with h | h <;> rw [h] <;> simp [stOf])
    · cases h2
/-- a round's beginning, as the model has it -/
structure RoundAt (P : Program) (ρ : Env) (φ : Nat → Nat) (st : Store) (w : World) (b : Nat) (vs : List SV) (q : FuncId × List Nat × List SV) (as body : Code) (ps : Array Tmp) (vs0 : Array Value) (f0 : FuncId) : Prop where
  there : (st.get b).isSome
  code : ∃ g, codeAt P q.1 q.2.1 = .rangeFunc g ps as body
  size : ps.size = vs.length
  tms : ∃ tm, q.2.2 = setTs tm (ps.toList.zip vs) ∧ tmOk ρ φ tm vs0 ∧ ∀ c ∈ SV.idsL tm, (st.get c).isSome
  heap : ∃ d, w.heap[φ b]? = some (.loop { state := .ready, pending := none, fn := f0, tmps := vs0, params := ps, assign := as, body := body, defers := d })
theorem roundL_ok {b : Nat} {vs : List SV} {q : FuncId × List Nat × List SV} {st' : Store} {r wl : List Loc} (h : roundL P b vs st = .ok q st' r wl) (hr : RelS P ρ E w0 φ st w) :
    st' = st ∧ ∃ as body ps vs0 f0, RoundAt P ρ φ st w b vs q as body ps vs0 f0 := by
  unfold roundL at h
  obtain ⟨B, s1, _, _, _, _, h1, h2, _, _⟩ := M.bind_ok h
  obtain ⟨hB, rfl⟩ := rdB_ok h1
  cases hR : recP B.cells with
  | none => simp only [hR] at h2; cases h2
  | some R =>
    simp only [hR] at h2
    split at h2
    · rename_i hm
      simp only [Bool.and_eq_true, Nat.beq_eq] at hm
      obtain ⟨hm1, hk⟩ := hm
      obtain ⟨g, ps, as, body, vs0, f0, e1, e2, e3⟩ := hr.recd hB hR (by omega)
      have hpa : paramsAt P R.f R.p = some ps := by unfold paramsAt; rw [e1]
      simp only [hpa] at h2
      split at h2
      · rename_i hs
        obtain ⟨rfl, rfl, _, _⟩ := M.pure_ok h2
        refine ⟨rfl, as, body, ps, vs0, f0, by rw [hB]; rfl, ⟨g, e1⟩, by simpa using hs, ⟨R.tm, rfl, e2, (hr.recIds hB hR).2.2⟩, φ R.d, ?_⟩
        rw [e3, hm1, hk]; rfl
      · cases h2
    · cases h2
theorem endL_ok {b : Nat} {e : Ex} {v : SV} {st' : Store} {r wl : List Loc} (h : endL b e st = .ok v st' r wl) (hr : RelS P ρ E w0 φ st w) {x : Exit} (hx : exOk ρ φ st e x) {R : Ending → World → Prop} {a : Act}
    (hR : ∀ w', Step P ρ E w0 φ st φ st' w' → R (.returned (v.den ρ φ)) w') : notPan v = true ∧ roundPost P (φ b) R x a w := by
  cases e with
  | normal =>
    obtain ⟨_, s1, _, _, _, _, h1, h2, _, _⟩ := M.bind_ok (m := setL b 1 10 0) h
    obtain ⟨rfl, rfl, _, _⟩ := M.pure_ok h2
    obtain ⟨w', hs, hrun⟩ := setL_ok h1 hr (.inl ⟨rfl, rfl⟩)
    obtain rfl : x = .normal := hx
    exact ⟨rfl, _, w', hrun, hR w' hs⟩
  | exit i =>
    obtain ⟨_, s1, _, _, _, _, h1, h2, _, _⟩ := M.bind_ok (m := setL b 3 11 i) h
    obtain ⟨rfl, rfl, _, _⟩ := M.pure_ok h2
    obtain ⟨w', hs, hrun⟩ := setL_ok h1 hr (.inr ⟨rfl, .inl rfl⟩)
    obtain rfl : x = .exit i := hx
    exact ⟨rfl, _, w', hrun, hR w' hs⟩
  | ret =>
    obtain ⟨_, s1, _, _, _, _, h1, h2, _, _⟩ := M.bind_ok (m := setL b 3 12 0) h
    obtain ⟨rfl, rfl, _, _⟩ := M.pure_ok h2
    obtain ⟨w', hs, hrun⟩ := setL_ok h1 hr (.inr ⟨rfl, .inr rfl⟩)
    obtain rfl : x = .ret := hx
    exact ⟨rfl, _, w', hrun, hR w' hs⟩
  | pan u => cases h
theorem setTs_ok {tm : List SV} {vs : Array Value} : ∀ {l : List (Nat × SV)} {tm : List SV} {vs : Array Value}, tmOk ρ φ tm vs → tmOk ρ φ (setTs tm l) (l.foldl (fun vs q => vs.setIfInBounds q.1 (q.2.den ρ φ)) vs)
  | [], tm, vs, h => h
  | (t, v) :: l, tm, vs, h => by
    simp only [setTs, List.foldl_cons]
    refine setTs_ok (tm := tm) (vs := vs) (l := l) ⟨by simp [h.1], fun i x hx => ?_⟩
    rw [List.getElem?_set] at hx
    split at hx
    · rename_i hti
      subst hti
      split at hx
      · rename_i hlt
        cases hx
        right
        have : t < vs.size := by rw [h.1]; exact hlt
        simp [this]
      · cases hx
    · rename_i hti
      rcases h.2 i x hx with h1 | h1
      · exact .inl h1
      · right
        rw [Array.getElem?_setIfInBounds_ne hti]; exact h1
theorem setTs_ids {st : Store} : ∀ {l : List (Nat × SV)} {tm : List SV}, (∀ c ∈ SV.idsL tm, (st.get c).isSome) → (∀ q ∈ l, ∀ c ∈ q.2.ids, (st.get c).isSome) → ∀ c ∈ SV.idsL (setTs tm l), (st.get c).isSome
  | [], tm, h, _ => h
  | (t, v) :: l, tm, h, hl => by
    simp only [setTs]
    refine setTs_ids (fun c hc => ?_) (fun q hq => hl q (by simp [hq]))
    obtain ⟨y, hy, hcy⟩ := mem_idsL.1 hc
    rcases List.mem_or_eq_of_mem_set hy with hy | rfl
    · exact h c (mem_idsL.2 ⟨y, hy, hcy⟩)
    · exact hl (t, y) (by simp) c hcy

/-! deferred calls -/
def modeOf (ρ : Env) (φ : Nat → Nat) : Option SV → FrameMode
  | none => .returning
  | some v => .panicking [{ v := v.den ρ φ, recovered := false }]
def idsIn (st : Store) : Option SV → Prop
  | none => True
  | some v => ∀ c ∈ v.ids, (st.get c).isSome
theorem modeOf_congr {φ' : Nat → Nat} {x : Option SV} (h : ∀ v, x = some v → ∀ c ∈ v.ids, Agr φ φ' c) : modeOf ρ φ' x = modeOf ρ φ x := by
  cases x with
  | none => rfl
  | some v => simp only [modeOf]; rw [den_congr ρ φ φ' v (h v rfl)]
theorem idsIn.step {φ' : Nat → Nat} {st' : Store} {w' : World} {x : Option SV} (h : idsIn st x) (hs : Step P ρ E w0 φ st φ' st' w') : idsIn st' x ∧ modeOf ρ φ' x = modeOf ρ φ x := by
  cases x with
  | none => exact ⟨trivial, rfl⟩
  | some v => exact ⟨fun c hc => hs.dom c (h c hc), modeOf_congr (fun u hu c hc => by cases hu; exact hs.ext c (h c hc))⟩
def DefOk (P : Program) (ρ : Env) (E : List (Nat × Nat)) (dcall : FuncId → List SV → Option SV → Nat → M Store (Option SV)) : Prop :=
  ∀ f vs x id st y st' r wl, dcall f vs x id st = .ok y st' r wl → ∀ w0 φ w, RelS P ρ E w0 φ st w → idsIn st x → (∀ args w', (callFunc f args).run P w' = .ok (.enter f args) w') ∧
    CallsDIn (FW none) 0 P f (SV.denL ρ φ vs).toArray (modeOf ρ φ x) w fun e u' w' => ∃ φ', Step P ρ E w0 φ st φ' st' w' ∧ (∃ v, e = .returned v) ∧ settle u' = modeOf ρ φ' y ∧ idsIn st' y
theorem modeOf_run {x : Option SV} : modeOf ρ φ x ≠ .run := by cases x <;> simp [modeOf]
theorem shutD_ok {b : Nat} {st' : Store} {r wl : List Loc} {u : Unit} (h : shutD b st = .ok u st' r wl) (hr : RelS P ρ E w0 φ st w) : ∃ w', Step P ρ E w0 φ st φ st' w' ∧ (Instr.takeDeferred (φ b)).run P w = .ok [] w' := by
  unfold shutD at h
  obtain ⟨B, s1, _, _, _, _, h1, h2, _, _⟩ := M.bind_ok h
  obtain ⟨hB, rfl⟩ := rdB_ok h1
  split at h2
  · rename_i hp
    obtain rfl := wrB_ok h2
    obtain ⟨ty, cells⟩ := B
    unfold dfrP at hp
    split at hp
    · rename_i f p d hc
      simp only at hc
      subst hc
      obtain ⟨o, h3, h4⟩ := hr.bl b _ hB
      obtain rfl : o = .deferred (some []) := h4
      refine ⟨_, hr.putO b _ ⟨ty, [.mark 6 0 [] b]⟩ _ (.deferred none) hB (by simp) h3 (fun _ _ _ => by simp) (fun c hc => ?_) rfl, run_takeDeferred h3⟩
      simp [SV.idsL, SV.ids] at hc
      subst hc; rw [hB]; rfl
    · cases hp
  · cases h2
theorem evLeave_ok {dcall : FuncId → List SV → Option SV → Nat → M Store (Option SV)} (hd : DefOk P ρ E dcall) {u : Nat} {fn : Func} {tmps : Array Value} {R : Ending → World → Prop} :
    ∀ {ds : List DS} {x y : Option SV} {k : Nat} {s s' : St} {r wl : List Loc}, evLeave dcall u ds x k s = .ok y s' r wl → s' = { s with st := s'.st } ∧ ∀ {φ : Nat → Nat} {w : World} {l : List Deferred}, RelS P ρ E w0 φ s.st w → DfOk ρ φ [] ds l → (∀ d ∈ ds, ∀ c ∈ d.ids, (s.st.get c).isSome) → idsIn s.st x →
      (∀ φ' w', Step P ρ E w0 φ s.st φ' s'.st w' → match y with | none => ∃ v, (results fn tmps).run P w' = .ok v w' ∧ R (.returned v) w' | some z => R (.panicked [{ v := z.den ρ φ', recovered := false }]) w') → LeavesInM (FW none) 0 P fn tmps R l (modeOf ρ φ x) w
  | [], x, y, k, s, s', r, wl, h => by
    unfold evLeave at h
    obtain ⟨rfl, rfl, _, _⟩ := M.pure_ok h
    refine ⟨rfl, fun {φ w l} hr hdf _ _ hfin => ?_⟩
    obtain rfl : l = [] := hdf
    have := hfin φ w (Step.refl hr)
    cases y <;> exact this
  | .coll b :: ds, x, y, k, s, s', r, wl, h => by
    unfold evLeave at h
    obtain ⟨_, s1, _, _, _, _, h1, h2, _, _⟩ := M.bind_ok h
    obtain ⟨st1, _, _, h3, rfl⟩ := lift_ok h1
    obtain ⟨e1, e2⟩ := evLeave_ok hd h2
    refine ⟨e1, fun {φ w l} hr hdf hid hx hfin => ?_⟩
    obtain ⟨l', rfl, hdf'⟩ := hdf
    obtain ⟨w1, hs, hrun⟩ := shutD_ok h3 hr
    obtain ⟨hx1, hx2⟩ := hx.step hs
    refine ⟨modeOf_run, .inl ⟨φ b, w1, rfl, hrun, ?_⟩⟩
    exact e2 hs.rel hdf' (fun d hd' c hc => hs.dom c (hid d (by simp [hd']) c hc)) hx1 (fun φ' w' hs' => hfin φ' w' (hs.trans hs'))
  | .call f vs cs :: ds, x, y, k, s, s', r, wl, h => by
    unfold evLeave at h
    obtain ⟨y1, s1, _, _, _, _, h1, h2, _, _⟩ := M.bind_ok h
    obtain ⟨st1, _, _, h3, rfl⟩ := lift_ok h1
    obtain ⟨e1, e2⟩ := evLeave_ok hd h2
    refine ⟨e1, fun {φ w l} hr hdf hid hx hfin => ?_⟩
    obtain ⟨l', rfl, hdf'⟩ := hdf
    obtain ⟨hcf, hcall⟩ := hd _ _ _ _ _ _ _ _ _ h3 w0 φ w hr hx
    refine ⟨modeOf_run, .inr ⟨fun hh => (by cases hh), .func f, _, f, (SV.denL ρ φ (vs ++ cs)).toArray, rfl, ?_, fun _ _ => trivial, hcall.mono ?_⟩⟩
    · show (callFunc f _).run P w = _
      rw [hcf]; simp [denL_append]
    · rintro e u' w' ⟨φ', hs, ⟨v, rfl⟩, hset, hy⟩
      show LeavesInM _ _ _ _ _ _ _ (settle u') w'
      rw [hset]
      exact e2 hs.rel (hdf'.congr (fun d hd' c hc => hs.ext c (hid d (by simp [hd']) c hc))) (fun d hd' c hc => hs.dom c (hid d (by simp [hd']) c hc)) hy (fun φ'' w'' hs' => hfin φ'' w'' (hs.trans hs'))

end Ev
end Go.Proofs.Ytmgfnejiienghaa
