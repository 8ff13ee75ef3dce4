/- A checked evaluator: what it comes to is what the call comes to. -/
import Derived.Test.YthhipnhnpjhaaaaEvK
namespace Go.Proofs.Ythhipnhnpjhaaaa
open Go Go.RowKit
set_option linter.unusedVariables false
namespace Ev
variable {P : Program} {ρ : Env} {E : List (Nat × Nat)} {D : List Deferred} {w0 : World} {φ φ0 : Nat → Nat} {st st0 : Store} {w : World}

def Ex.to : Ex → Exit
  | .normal => .normal
  | .exit id => .exit id
  | _ => .ret
/-- a loop's sum is what the loop does -/
def LoopGoes (P : Program) (ρ : Env) (E : List (Nat × Nat)) (L : LoopSum) (c : Code) : Prop :=
  ∀ st, (∀ q ∈ L.bl, Store.get st q.1 = some q.2) → ∀ D w0 φ0 st0 a w, RelF P ρ E D w0 φ0 st0 ⟨Tm.ofL L.tm, st⟩ a w →
    ∀ Q : Exit → Act → World → Prop, (∀ a' w', RelF P ρ E D w0 φ0 st0 ⟨Tm.ofL L.tm', setAll st L.bl'⟩ a' w' → Q L.ex.to a' w') → (Code.loop c).wpIn (FW none) 0 P Q a w
/-- the calls that are known come to what is known of them -/
structure KnowsC (P : Program) (ρ : Env) (E : List (Nat × Nat)) (X : Ctx) : Prop where
  cr : ∀ c ∈ X.cr, ∀ φ w, ExtIn ρ w → Calls P c.1 (SV.denL ρ φ c.2.1).toArray w fun e w' => e = .returned (c.2.2.den ρ φ) ∧ Below w.heap.size w w'
  ct : ∀ pc, (∀ c ∈ pc, c.1.den ρ = c.2) → ∀ f vs v, X.ct pc f vs = some v → v.ids = [] → ∀ φ w, ExtIn ρ w → Calls P f (SV.denL ρ φ vs).toArray w fun e w' => e = .returned (v.den ρ φ) ∧ Below w.heap.size w w'
  lp : ∀ f p u L, X.lp f p u = some L → ∀ c, codeAt P f p = .loop c → sameIds L.bl L.bl' = true → LoopGoes P ρ E L c
theorem lookC_ok : ∀ {l : List (FuncId × List SV × SV)} {f : FuncId} {vs : List SV} {v : SV}, lookC l f vs = some v → (f, vs, v) ∈ l
  | [], f, vs, v, h => by simp [lookC] at h
  | (g, us, u) :: l, f, vs, v, h => by
    simp only [lookC] at h
    split at h
    · rename_i hb
      simp only [Bool.and_eq_true, Nat.beq_eq] at hb
      obtain ⟨h1, h2⟩ := hb
      cases h
      rw [h1, SV.beqL_eq h2]; simp
    · exact List.mem_cons_of_mem _ (lookC_ok h)
/-- one result of a call -/
def resOne (tmps : Array Value) : ResultVar → Sem Value
  | .tmp t => Pure.pure (tmps.getD t undef)
  | .cell p t => do loadVar t (← asAddr (tmps.getD p undef))
theorem results_ok : ∀ {l : List ResultVar} {s s' : St} {vs : List SV} {r wl : List Loc}, evResults P l s = .ok vs s' r wl → s' = s ∧ ∀ D φ a w, RelS P ρ E w0 φ s.st w → RelT ρ D φ s a →
    ((l.mapM (m := Sem) (resOne a.tmps)).run P w = .ok (SV.denL ρ φ vs) w ∧ ∀ c ∈ SV.idsL vs, (s.st.get c).isSome)
  | [], s, s', vs, r, wl, h => by
    obtain ⟨rfl, rfl, _, _⟩ := M.pure_ok h
    exact ⟨rfl, fun D φ a w _ _ => ⟨by simp [SV.denL], by simp [SV.idsL]⟩⟩
  | .tmp t :: l, s, s', vs, r, wl, h => by
    obtain ⟨v, s1, _, _, _, _, h1, h2, _, _⟩ := M.bind_ok h
    obtain ⟨rfl, e1⟩ := rdOp_ok (ρ := ρ) h1
    obtain ⟨us, s2, _, _, _, _, h3, h4, _, _⟩ := M.bind_ok h2
    obtain ⟨rfl, e2⟩ := results_ok h3
    obtain ⟨rfl, rfl, _, _⟩ := M.pure_ok h4
    refine ⟨rfl, fun D φ a w hs ht => ?_⟩
    obtain ⟨e3, e4⟩ := e1 D φ a ht
    obtain ⟨e5, e6⟩ := e2 D φ a w hs ht
    refine ⟨?_, fun c hc => ?_⟩
    · have e3' : a.tmps.getD t undef = v.den ρ φ := e3
      have e7 : (resOne a.tmps (.tmp t)).run P w = .ok (v.den ρ φ) w := by
        simp only [resOne, e3', Sem.run_pure]
      rw [List.mapM_cons]
      simp only [Sem.run_bind, Sem.run_pure, Result.andThen_ok, e7, e5, SV.denL]
    · simp only [SV.idsL, List.mem_append] at hc
      rcases hc with hc | hc
      · exact e4 c hc
      · exact e6 c hc
  | .cell p ty :: l, s, s', vs, r, wl, h => by
    obtain ⟨v, s1, _, _, _, _, h1, h2, _, _⟩ := M.bind_ok h
    obtain ⟨rfl, e1⟩ := rdOp_ok (ρ := ρ) h1
    match v, h2, e1 with
    | .ptr b off, h2, e1 =>
      obtain ⟨u, s2, _, _, _, _, h3, h4, _, _⟩ := M.bind_ok h2
      obtain ⟨st', _, _, h5, rfl⟩ := lift_ok h3
      obtain ⟨u', st2, _, _, _, _, h6, h7, _, _⟩ := M.bind_ok h5
      obtain ⟨_, st3, _, _, _, _, h8, h9, _, _⟩ := M.bind_ok h7
      obtain ⟨rfl, hcl⟩ := chk_ok h8
      obtain ⟨rfl, rfl, _, _⟩ := M.pure_ok h9
      have hld := loadS_same h6
      subst hld
      obtain ⟨us, s3, _, _, _, _, h10, h11, _, _⟩ := M.bind_ok h4
      obtain ⟨rfl, e2⟩ := results_ok h10
      obtain ⟨rfl, rfl, _, _⟩ := M.pure_ok h11
      refine ⟨rfl, fun D φ a w hs ht => ?_⟩
      obtain ⟨e3, _⟩ := e1 D φ a ht
      obtain ⟨e5, e6⟩ := e2 D φ a w hs ht
      obtain ⟨_, e7⟩ := loadS_ok h6 hs
      refine ⟨?_, fun c hc => ?_⟩
      · have e3' : a.tmps.getD p undef = .pointer (some ⟨φ b, off, none⟩) := e3
        have e4 : (resOne a.tmps (.cell p ty)).run P w = .ok (u.den ρ φ) w := by
          simp only [resOne, e3', asAddr, Sem.run_bind, Sem.run_pure, Result.andThen_ok, e7]
        rw [List.mapM_cons]
        simp only [Sem.run_bind, Sem.run_pure, Result.andThen_ok, e4, e5, SV.denL]
      · simp only [SV.idsL, List.mem_append] at hc
        rcases hc with hc | hc
        · exact hcl c hc
        · exact e6 c hc
theorem oneOf_den (vs : List SV) : (oneOf vs).den ρ φ = (if h : (SV.denL ρ φ vs).toArray.size = 1 then (SV.denL ρ φ vs).toArray[0] else .tuple (SV.denL ρ φ vs).toArray) := by
  match vs with
  | [] => rfl
  | [v] => rfl
  | v :: u :: vs => simp [oneOf, SV.den, SV.denL]
theorem results_run {fn : Func} {s s' : St} {vs : List SV} {r wl : List Loc} (h : evResults P fn.results.toList s = .ok vs s' r wl) {a : Act} (hs : RelS P ρ E w0 φ s.st w) (ht : RelT ρ D φ s a) :
    (results fn a.tmps).run P w = .ok ((oneOf vs).den ρ φ) w := by
  obtain ⟨_, e⟩ := results_ok h
  obtain ⟨e1, _⟩ := e D φ a w hs ht
  have hm : (fn.results.mapM (resOne a.tmps)).run P w = .ok (SV.denL ρ φ vs).toArray w := by
    have h2 : fn.results.mapM (resOne a.tmps) = fn.results.toList.mapM (resOne a.tmps) >>= fun l => Pure.pure l.toArray := by rw [Array.mapM_eq_mapM_toList]; rfl
    rw [h2, Sem.run_bind, e1]; rfl
  have h3 : results fn a.tmps = (fn.results.mapM (resOne a.tmps) >>= fun vs => Pure.pure (if h : vs.size = 1 then vs[0] else .tuple vs)) := rfl
  rw [oneOf_den, h3, Sem.run_bind, hm]
  rfl


/-! scopes, records -/
theorem stepR_scope {b : Frame} {a : Act} {k : List Item} {cs : List Frame} {w : World} {c : Code} : step P (lone (b.atR a (.code (.scope c) :: k)) cs w) = .next (lone (b.atR a (.code c :: .inScope c :: k)) cs w) :=
  step_lone_go (by simp [stepG, stepG.exec, Frame.atR])
theorem stepR_inScope {b : Frame} {a : Act} {k : List Item} {cs : List Frame} {w : World} {c : Code} : step P (lone (b.atR a (.inScope c :: k)) cs w) = .next (lone (b.atR a k) cs w) :=
  step_lone_go (by simp [stepG, stepG.exec, Frame.atR])
theorem wpIn_scope {F : Fence} {n : Nat} {c : Code} {Q : Exit → Act → World → Prop} {a : Act} (h : c.wpIn F n P (Exit.noGoto Q) a w) : (Code.scope c).wpIn F n P Q a w := by
  intro b k cs hro hb hr
  have h0 : (lone (b.atR a (.code (.scope c) :: k)) cs w).fenced P F := fenced_calm hb hr rfl
  obtain ⟨e, a₁, w₁, hq, harr⟩ := h b (.inScope c :: k) cs hro hb hr
  cases e with
  | normal => exact ⟨.normal, a₁, w₁, hq, .head h0 stepR_scope (StepsIn.trans harr (.one (fenced_calm hb hr rfl) stepR_inScope))⟩
  | exit id =>
    have hx : exitTo id (.inScope c :: k) = exitTo id k := by simp [exitTo]
    exact ⟨.exit id, a₁, w₁, hq, fun k' hk => .head h0 stepR_scope (harr.1 k' (by rw [hx]; exact hk)), fun hr' hk => let ⟨k₁, h1, h2⟩ := harr.2 hr' (by rw [hx]; exact hk); ⟨k₁, h1, .head h0 stepR_scope h2⟩⟩
  | goto l => exact hq.elim
  | ret => exact ⟨_, a₁, w₁, hq, .of_steps (.one h0 stepR_scope) harr⟩
  | panic ch => exact ⟨_, a₁, w₁, hq, .of_steps (.one h0 stepR_scope) harr⟩
  | outgrown => exact ⟨_, a₁, w₁, hq, .of_steps (.one h0 stepR_scope) harr⟩
theorem bcOf_recd {m f d k i e : Nat} {p q : List Nat} {tm : List SV} (hm : m ≠ 0 ∧ m ≠ 5 ∧ m ≠ 6) : bcOf (.mark m f p d :: .mark k i q e :: tm) = .recd m f p d k i tm := by
  unfold bcOf
  simp only
  split
  · exact absurd rfl hm.1
  · exact absurd rfl hm.2.1
  · exact absurd rfl hm.2.2
  · rfl
/-- a record, as the model has it -/
theorem RelS.recd (hr : RelS P ρ E w0 φ st w) {b : Nat} {B : Blk} {R : RecP} (hB : st.get b = some B) (hR : recP B.cells = some R) (hm : R.m ≠ 0 ∧ R.m ≠ 5 ∧ R.m ≠ 6) :
    ∃ g ps as body vs f0, codeAt P R.f R.p = .rangeFunc g ps as body ∧ tmOk ρ φ R.tm vs ∧ w.heap[φ b]? = some (.loop { state := stOf R.m, pending := jumpOf R.k R.i, fn := f0, tmps := vs, params := ps, assign := as, body := body, defers := φ R.d }) := by
  obtain ⟨o, h1, h2⟩ := hr.bl b _ hB
  unfold objOk at h2
  rw [recP_eq hR, RecP.cells, bcOf_recd hm] at h2
  obtain ⟨g, ps, as, body, vs, f0, h3, h4, rfl⟩ := h2
  exact ⟨g, ps, as, body, vs, f0, h3, h4, h1⟩
theorem RelS.recIds (hr : RelS P ρ E w0 φ st w) {b : Nat} {B : Blk} {R : RecP} (hB : st.get b = some B) (hR : recP B.cells = some R) : (st.get R.d).isSome ∧ (st.get R.e).isSome ∧ ∀ c ∈ SV.idsL R.tm, (st.get c).isSome := by
  have := hr.cl b B hB
  rw [recP_eq hR, RecP.cells] at this
  simp only [SV.idsL, SV.ids, List.singleton_append, List.mem_cons, forall_eq_or_imp] at this
  exact ⟨this.1, this.2.1, this.2.2⟩
/-- a record's state and jump are set -/
theorem RelS.setRec (hr : RelS P ρ E w0 φ st w) {b : Nat} {B : Blk} {R : RecP} (hB : st.get b = some B) (hR : recP B.cells = some R)
    {g : Operand} {ps : Array Tmp} {as body : Code} {vs : Array Value} {f0 : FuncId} (hcode : codeAt P R.f R.p = .rangeFunc g ps as body) (htm : tmOk ρ φ R.tm vs) (hg : w.heap[φ b]? = some (.loop { state := stOf R.m, pending := jumpOf R.k R.i, fn := f0, tmps := vs, params := ps, assign := as, body := body, defers := φ R.d }))
    (m' k' i' : Nat) (q' : List Nat) (hm' : m' ≠ 0 ∧ m' ≠ 5 ∧ m' ≠ 6) :
    Step P ρ E w0 φ st φ (st.set b { B with cells := R.cells m' k' i' q' }) (w.putObj (φ b) (.loop { state := stOf m', pending := jumpOf k' i', fn := f0, tmps := vs, params := ps, assign := as, body := body, defers := φ R.d })) := by
  obtain ⟨i1, i2, i3⟩ := hr.recIds hB hR
  refine hr.putO b B _ _ _ hB (by rw [recP_eq hR, RecP.cells]; simp) hg (fun _ _ _ => by simp) (fun c hc => ?_) ?_
  · simp only [RecP.cells, SV.idsL, SV.ids, List.singleton_append, List.mem_cons] at hc
    rcases hc with rfl | rfl | hc
    · exact i1
    · exact i2
    · exact i3 c hc
  · unfold objOk
    simp only [RecP.cells]
    rw [bcOf_recd hm']
    exact ⟨g, ps, as, body, vs, f0, hcode, htm, rfl⟩
theorem beginL_ok {b : Nat} {st' : Store} {r wl : List Loc} {u : Unit} (h : beginL b st = .ok u st' r wl) (hr : RelS P ρ E w0 φ st w) : ∃ w', Step P ρ E w0 φ st φ st' w' ∧ (Instr.beginRound (φ b)).run P w = .ok () w' := by
  unfold beginL at h
  obtain ⟨B, s1, _, _, _, _, h1, h2, _, _⟩ := M.bind_ok h
  obtain ⟨hB, rfl⟩ := rdB_ok h1
  cases hR : recP B.cells with
  | none => simp only [hR] at h2; cases h2
  | some R =>
    simp only [hR] at h2
    split at h2
    · rename_i hm
      have hm : R.m = 1 := by simpa using hm
      obtain rfl := wrB_ok h2
      obtain ⟨g, ps, as, body, vs, f0, e1, e2, e3⟩ := hr.recd hB hR (by omega)
      exact ⟨_, hr.setRec hB hR e1 e2 e3 2 R.k R.i R.q (by decide), run_beginRound e3 (by rw [hm]; rfl)⟩
    · cases h2
theorem setL_ok {b m pk pi : Nat} {st' : Store} {r wl : List Loc} {u : Unit} (h : setL b m pk pi st = .ok u st' r wl) (hr : RelS P ρ E w0 φ st w) (hm : (m = 1 ∧ pk = 10) ∨ (m = 3 ∧ (pk = 11 ∨ pk = 12))) :
    ∃ w', Step P ρ E w0 φ st φ st' w' ∧ (Instr.endRound (φ b) (jumpOf pk pi)).run P w = .ok (.bool (jumpOf pk pi).isNone) w' := by
  unfold setL at h
  obtain ⟨B, s1, _, _, _, _, h1, h2, _, _⟩ := M.bind_ok h
  obtain ⟨hB, rfl⟩ := rdB_ok h1
  cases hR : recP B.cells with
  | none => simp only [hR] at h2; cases h2
  | some R =>
    simp only [hR] at h2
    split at h2
    · rename_i hm2
      have hm2 : R.m = 2 := by simpa using hm2
      obtain rfl := wrB_ok h2
      obtain ⟨g, ps, as, body, vs, f0, e1, e2, e3⟩ := hr.recd hB hR (by omega)
      refine ⟨_, hr.setRec hB hR e1 e2 e3 m pk pi [] (by omega), ?_⟩
      rw [run_endRound (jumpOf pk pi) e3]
      rcases hm with ⟨rfl, rfl⟩ | ⟨rfl, rfl | rfl⟩ <;> rfl
    · cases h2
theorem leaveL_ok {b : Nat} {e : Ex} {st' : Store} {r wl : List Loc} (h : leaveL b st = .ok e st' r wl) (hr : RelS P ρ E w0 φ st w) :
    ∃ w' k i, Step P ρ E w0 φ st φ st' w' ∧ (Instr.endLoop (φ b)).run P w = .ok (jumpOf k i) w' ∧ jumpS k i = some e := by
  unfold leaveL at h
  obtain ⟨B, s1, _, _, _, _, h1, h2, _, _⟩ := M.bind_ok h
  obtain ⟨hB, rfl⟩ := rdB_ok h1
  cases hR : recP B.cells with
  | none => simp only [hR] at h2; cases h2
  | some R =>
    simp only [hR] at h2
    split at h2
    · rename_i hm
      have hm : R.m = 1 ∨ R.m = 3 := by simpa using hm
      cases hj : jumpS R.k R.i with
      | none => simp only [hj] at h2; cases h2
      | some e' =>
        simp only [hj] at h2
        obtain ⟨_, s2, _, _, _, _, h3, h4, _, _⟩ := M.bind_ok h2
        obtain rfl := wrB_ok h3
        obtain ⟨rfl, rfl, _, _⟩ := M.pure_ok h4
        obtain ⟨g, ps, as, body, vs, f0, e1, e2, e3⟩ := hr.recd hB hR (by omega)
        refine ⟨_, R.k, R.i, hr.setRec hB hR e1 e2 e3 4 R.k R.i R.q (by decide), ?_, hj⟩
        exact run_endLoop e3 (by rcases hm with h | h <;> rw [h] <;> simp [stOf])
    · cases h2
/-- a round's beginning, as the model has it -/
structure RoundAt (P : Program) (ρ : Env) (φ : Nat → Nat) (st : Store) (w : World) (b : Nat) (vs : List SV) (q : FuncId × List Nat × List SV) (as body : Code) (ps : Array Tmp) (vs0 : Array Value) (f0 : FuncId) : Prop where
  there : (st.get b).isSome
  code : ∃ g, codeAt P q.1 q.2.1 = .rangeFunc g ps as body
  size : ps.size = vs.length
  tms : ∃ tm, q.2.2 = setTs tm (ps.toList.zip vs) ∧ tmOk ρ φ tm vs0 ∧ ∀ c ∈ SV.idsL tm, (st.get c).isSome
  heap : ∃ d, w.heap[φ b]? = some (.loop { state := .ready, pending := none, fn := f0, tmps := vs0, params := ps, assign := as, body := body, defers := d })
theorem roundL_ok {b : Nat} {vs : List SV} {q : FuncId × List Nat × List SV} {st' : Store} {r wl : List Loc} (h : roundL P b vs st = .ok q st' r wl) (hr : RelS P ρ E w0 φ st w) :
    st' = st ∧ ∃ as body ps vs0 f0, RoundAt P ρ φ st w b vs q as body ps vs0 f0 := by
  unfold roundL at h
  obtain ⟨B, s1, _, _, _, _, h1, h2, _, _⟩ := M.bind_ok h
  obtain ⟨hB, rfl⟩ := rdB_ok h1
  cases hR : recP B.cells with
  | none => simp only [hR] at h2; cases h2
  | some R =>
    simp only [hR] at h2
    split at h2
    · rename_i hm
      simp only [Bool.and_eq_true, Nat.beq_eq] at hm
      obtain ⟨hm1, hk⟩ := hm
      obtain ⟨g, ps, as, body, vs0, f0, e1, e2, e3⟩ := hr.recd hB hR (by omega)
      have hpa : paramsAt P R.f R.p = some ps := by unfold paramsAt; rw [e1]
      simp only [hpa] at h2
      split at h2
      · rename_i hs
        obtain ⟨rfl, rfl, _, _⟩ := M.pure_ok h2
        refine ⟨rfl, as, body, ps, vs0, f0, by rw [hB]; rfl, ⟨g, e1⟩, by simpa using hs, ⟨R.tm, rfl, e2, (hr.recIds hB hR).2.2⟩, φ R.d, ?_⟩
        rw [e3, hm1, hk]; rfl
      · cases h2
    · cases h2
theorem endL_ok {b : Nat} {e : Ex} {v : SV} {st' : Store} {r wl : List Loc} (h : endL b e st = .ok v st' r wl) (hr : RelS P ρ E w0 φ st w) {x : Exit} (hx : exOk ρ φ st e x) {R : Ending → World → Prop} {a : Act}
    (hR : ∀ w', Step P ρ E w0 φ st φ st' w' → R (.returned (v.den ρ φ)) w') : notPan v = true ∧ roundPost P (φ b) R x a w := by
  cases e with
  | normal =>
    obtain ⟨_, s1, _, _, _, _, h1, h2, _, _⟩ := M.bind_ok (m := setL b 1 10 0) h
    obtain ⟨rfl, rfl, _, _⟩ := M.pure_ok h2
    obtain ⟨w', hs, hrun⟩ := setL_ok h1 hr (.inl ⟨rfl, rfl⟩)
    obtain rfl : x = .normal := hx
    exact ⟨rfl, _, w', hrun, hR w' hs⟩
  | exit i =>
    obtain ⟨_, s1, _, _, _, _, h1, h2, _, _⟩ := M.bind_ok (m := setL b 3 11 i) h
    obtain ⟨rfl, rfl, _, _⟩ := M.pure_ok h2
    obtain ⟨w', hs, hrun⟩ := setL_ok h1 hr (.inr ⟨rfl, .inl rfl⟩)
    obtain rfl : x = .exit i := hx
    exact ⟨rfl, _, w', hrun, hR w' hs⟩
  | ret =>
    obtain ⟨_, s1, _, _, _, _, h1, h2, _, _⟩ := M.bind_ok (m := setL b 3 12 0) h
    obtain ⟨rfl, rfl, _, _⟩ := M.pure_ok h2
    obtain ⟨w', hs, hrun⟩ := setL_ok h1 hr (.inr ⟨rfl, .inr rfl⟩)
    obtain rfl : x = .ret := hx
    exact ⟨rfl, _, w', hrun, hR w' hs⟩
  | pan u => cases h
theorem setTs_ok {tm : List SV} {vs : Array Value} : ∀ {l : List (Nat × SV)} {tm : List SV} {vs : Array Value}, tmOk ρ φ tm vs → tmOk ρ φ (setTs tm l) (l.foldl (fun vs q => vs.setIfInBounds q.1 (q.2.den ρ φ)) vs)
  | [], tm, vs, h => h
  | (t, v) :: l, tm, vs, h => by
    simp only [setTs, List.foldl_cons]
    refine setTs_ok (tm := tm) (vs := vs) (l := l) ⟨by simp [h.1], fun i x hx => ?_⟩
    rw [List.getElem?_set] at hx
    split at hx
    · rename_i hti
      subst hti
      split at hx
      · rename_i hlt
        cases hx
        right
        have : t < vs.size := by rw [h.1]; exact hlt
        simp [this]
      · cases hx
    · rename_i hti
      rcases h.2 i x hx with h1 | h1
      · exact .inl h1
      · right
        rw [Array.getElem?_setIfInBounds_ne hti]; exact h1
theorem setTs_ids {st : Store} : ∀ {l : List (Nat × SV)} {tm : List SV}, (∀ c ∈ SV.idsL tm, (st.get c).isSome) → (∀ q ∈ l, ∀ c ∈ q.2.ids, (st.get c).isSome) → ∀ c ∈ SV.idsL (setTs tm l), (st.get c).isSome
  | [], tm, h, _ => h
  | (t, v) :: l, tm, h, hl => by
    simp only [setTs]
    refine setTs_ids (fun c hc => ?_) (fun q hq => hl q (by simp [hq]))
    obtain ⟨y, hy, hcy⟩ := mem_idsL.1 hc
    rcases List.mem_or_eq_of_mem_set hy with hy | rfl
    · exact h c (mem_idsL.2 ⟨y, hy, hcy⟩)
    · exact hl (t, y) (by simp) c hcy

/-! deferred calls -/
def modeOf (ρ : Env) (φ : Nat → Nat) : Option SV → FrameMode
  | none => .returning
  | some v => .panicking [{ v := v.den ρ φ, recovered := false }]
def idsIn (st : Store) : Option SV → Prop
  | none => True
  | some v => ∀ c ∈ v.ids, (st.get c).isSome
theorem modeOf_congr {φ' : Nat → Nat} {x : Option SV} (h : ∀ v, x = some v → ∀ c ∈ v.ids, Agr φ φ' c) : modeOf ρ φ' x = modeOf ρ φ x := by
  cases x with
  | none => rfl
  | some v => simp only [modeOf]; rw [den_congr ρ φ φ' v (h v rfl)]
theorem idsIn.step {φ' : Nat → Nat} {st' : Store} {w' : World} {x : Option SV} (h : idsIn st x) (hs : Step P ρ E w0 φ st φ' st' w') : idsIn st' x ∧ modeOf ρ φ' x = modeOf ρ φ x := by
  cases x with
  | none => exact ⟨trivial, rfl⟩
  | some v => exact ⟨fun c hc => hs.dom c (h c hc), modeOf_congr (fun u hu c hc => by cases hu; exact hs.ext c (h c hc))⟩
def DefOk (P : Program) (ρ : Env) (E : List (Nat × Nat)) (dcall : FuncId → List SV → Option SV → Nat → M Store (Option SV)) : Prop :=
  ∀ f vs x id st y st' r wl, dcall f vs x id st = .ok y st' r wl → ∀ w0 φ w, RelS P ρ E w0 φ st w → idsIn st x → (∀ args w', (callFunc f args).run P w' = .ok (.enter f args) w') ∧
    CallsDIn (FW none) 0 P f (SV.denL ρ φ vs).toArray (modeOf ρ φ x) w fun e u' w' => ∃ φ', Step P ρ E w0 φ st φ' st' w' ∧ (∃ v, e = .returned v) ∧ settle u' = modeOf ρ φ' y ∧ idsIn st' y
theorem modeOf_run {x : Option SV} : modeOf ρ φ x ≠ .run := by cases x <;> simp [modeOf]
theorem shutD_ok {b : Nat} {st' : Store} {r wl : List Loc} {u : Unit} (h : shutD b st = .ok u st' r wl) (hr : RelS P ρ E w0 φ st w) : ∃ w', Step P ρ E w0 φ st φ st' w' ∧ (Instr.takeDeferred (φ b)).run P w = .ok [] w' := by
  unfold shutD at h
  obtain ⟨B, s1, _, _, _, _, h1, h2, _, _⟩ := M.bind_ok h
  obtain ⟨hB, rfl⟩ := rdB_ok h1
  split at h2
  · rename_i hp
    obtain rfl := wrB_ok h2
    obtain ⟨ty, cells⟩ := B
    unfold dfrP at hp
    split at hp
    · rename_i f p d hc
      simp only at hc
      subst hc
      obtain ⟨o, h3, h4⟩ := hr.bl b _ hB
      obtain rfl : o = .deferred (some []) := h4
      refine ⟨_, hr.putO b _ ⟨ty, [.mark 6 0 [] b]⟩ _ (.deferred none) hB (by simp) h3 (fun _ _ _ => by simp) (fun c hc => ?_) rfl, run_takeDeferred h3⟩
      simp [SV.idsL, SV.ids] at hc
      subst hc; rw [hB]; rfl
    · cases hp
  · cases h2
theorem evLeave_ok {dcall : FuncId → List SV → Option SV → Nat → M Store (Option SV)} (hd : DefOk P ρ E dcall) {u : Nat} {fn : Func} {tmps : Array Value} {R : Ending → World → Prop} :
    ∀ {ds : List DS} {x y : Option SV} {k : Nat} {s s' : St} {r wl : List Loc}, evLeave dcall u ds x k s = .ok y s' r wl → s' = { s with st := s'.st } ∧ ∀ {φ : Nat → Nat} {w : World} {l : List Deferred}, RelS P ρ E w0 φ s.st w → DfOk ρ φ [] ds l → (∀ d ∈ ds, ∀ c ∈ d.ids, (s.st.get c).isSome) → idsIn s.st x →
      (∀ φ' w', Step P ρ E w0 φ s.st φ' s'.st w' → match y with | none => ∃ v, (results fn tmps).run P w' = .ok v w' ∧ R (.returned v) w' | some z => R (.panicked [{ v := z.den ρ φ', recovered := false }]) w') → LeavesInM (FW none) 0 P fn tmps R l (modeOf ρ φ x) w
  | [], x, y, k, s, s', r, wl, h => by
    unfold evLeave at h
    obtain ⟨rfl, rfl, _, _⟩ := M.pure_ok h
    refine ⟨rfl, fun {φ w l} hr hdf _ _ hfin => ?_⟩
    obtain rfl : l = [] := hdf
    have := hfin φ w (Step.refl hr)
    cases y <;> exact this
  | .coll b :: ds, x, y, k, s, s', r, wl, h => by
    unfold evLeave at h
    obtain ⟨_, s1, _, _, _, _, h1, h2, _, _⟩ := M.bind_ok h
    obtain ⟨st1, _, _, h3, rfl⟩ := lift_ok h1
    obtain ⟨e1, e2⟩ := evLeave_ok hd h2
    refine ⟨e1, fun {φ w l} hr hdf hid hx hfin => ?_⟩
    obtain ⟨l', rfl, hdf'⟩ := hdf
    obtain ⟨w1, hs, hrun⟩ := shutD_ok h3 hr
    obtain ⟨hx1, hx2⟩ := hx.step hs
    refine ⟨modeOf_run, .inl ⟨φ b, w1, rfl, hrun, ?_⟩⟩
    exact e2 hs.rel hdf' (fun d hd' c hc => hs.dom c (hid d (by simp [hd']) c hc)) hx1 (fun φ' w' hs' => hfin φ' w' (hs.trans hs'))
  | .call f vs cs :: ds, x, y, k, s, s', r, wl, h => by
    unfold evLeave at h
    obtain ⟨y1, s1, _, _, _, _, h1, h2, _, _⟩ := M.bind_ok h
    obtain ⟨st1, _, _, h3, rfl⟩ := lift_ok h1
    obtain ⟨e1, e2⟩ := evLeave_ok hd h2
    refine ⟨e1, fun {φ w l} hr hdf hid hx hfin => ?_⟩
    obtain ⟨l', rfl, hdf'⟩ := hdf
    obtain ⟨hcf, hcall⟩ := hd _ _ _ _ _ _ _ _ _ h3 w0 φ w hr hx
    refine ⟨modeOf_run, .inr ⟨fun hh => (by cases hh), .func f, _, f, (SV.denL ρ φ (vs ++ cs)).toArray, rfl, ?_, fun _ _ => trivial, hcall.mono ?_⟩⟩
    · show (callFunc f _).run P w = _
      rw [hcf]; simp [denL_append]
    · rintro e u' w' ⟨φ', hs, ⟨v, rfl⟩, hset, hy⟩
      show LeavesInM _ _ _ _ _ _ _ (settle u') w'
      rw [hset]
      exact e2 hs.rel (hdf'.congr (fun d hd' c hc => hs.ext c (hid d (by simp [hd']) c hc))) (fun d hd' c hc => hs.dom c (hid d (by simp [hd']) c hc)) hy (fun φ'' w'' hs' => hfin φ'' w'' (hs.trans hs'))

end Ev
end Go.Proofs.Ythhipnhnpjhaaaa
