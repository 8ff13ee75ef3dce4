/- A checked evaluator: what it comes to is what the call comes to. -/
import Derived.Test.YtmgfnejiienghaaEvK
namespace Go.Proofs.Ytmgfnejiienghaa
open Go Go.RowKit
set_option linter.unusedVariables false
namespace Ev
variable {P : Program} {ρ : Env} {E : List (Nat × Nat)} {w0 : World} {φ φ0 : Nat → Nat} {st st0 : Store} {w : World}

def Ex.to : Ex → Exit
  | .normal => .normal
  | .exit id => .exit id
  | .ret => .ret
/-- the calls that are known come to what is known of them -/
structure KnowsC (P : Program) (ρ : Env) (E : List (Nat × Nat)) (X : Ctx) : Prop where
  cr : ∀ c ∈ X.cr, ∀ φ w, ExtIn ρ w → Calls P c.1 (SV.denL ρ φ c.2.1).toArray w fun e w' => e = .returned (c.2.2.den ρ φ) ∧ Below w.heap.size w w'
  ct : ∀ pc, (∀ c ∈ pc, c.1.den ρ = c.2) → ∀ f vs v, X.ct pc f vs = some v → v.ids = [] → ∀ φ w, ExtIn ρ w → Calls P f (SV.denL ρ φ vs).toArray w fun e w' => e = .returned (v.den ρ φ) ∧ Below w.heap.size w w'
  lp : ∀ f p u L, X.lp f p u = some L → ∀ c, codeAt P f p = .loop c → ∀ st, (∀ q ∈ L.bl, Store.get st q.1 = some q.2) → sameIds L.bl L.bl' = true → ∀ w0 φ0 st0 a w, RelF ρ E w0 φ0 st0 ⟨L.tm, st⟩ a w →
    ∀ Q : Exit → Act → World → Prop, (∀ a' w', RelF ρ E w0 φ0 st0 ⟨L.tm', setAll st L.bl'⟩ a' w' → Q L.ex.to a' w') → (Code.loop c).wp P Q a w
theorem lookC_ok : ∀ {l : List (FuncId × List SV × SV)} {f : FuncId} {vs : List SV} {v : SV}, lookC l f vs = some v → (f, vs, v) ∈ l
  | [], f, vs, v, h => by simp [lookC] at h
  | (g, us, u) :: l, f, vs, v, h => by
    simp only [lookC] at h
    split at h
    · rename_i hb
      simp only [Bool.and_eq_true, Nat.beq_eq] at hb
      obtain ⟨h1, h2⟩ := hb
      cases h
      rw [h1, SV.beqL_eq h2]; simp
    · exact List.mem_cons_of_mem _ (lookC_ok h)
/-- one result of a call -/
def resOne (tmps : Array Value) : ResultVar → Sem Value
  | .tmp t => Pure.pure (tmps.getD t undef)
  | .cell p t => do loadVar t (← asAddr (tmps.getD p undef))
theorem results_ok : ∀ {l : List ResultVar} {s s' : St} {vs : List SV} {r wl : List Loc}, evResults P l s = .ok vs s' r wl → s' = s ∧ ∀ φ a w, RelS ρ E w0 φ s.st w → RelT ρ φ s a →
    ((l.mapM (m := Sem) (resOne a.tmps)).run P w = .ok (SV.denL ρ φ vs) w ∧ ∀ c ∈ SV.idsL vs, (s.st.get c).isSome)
  | [], s, s', vs, r, wl, h => by
    obtain ⟨rfl, rfl, _, _⟩ := M.pure_ok h
    exact ⟨rfl, fun φ a w _ _ => ⟨by simp [SV.denL], by simp [SV.idsL]⟩⟩
  | .tmp t :: l, s, s', vs, r, wl, h => by
    obtain ⟨v, s1, _, _, _, _, h1, h2, _, _⟩ := M.bind_ok h
    obtain ⟨rfl, e1⟩ := rdOp_ok (ρ := ρ) h1
    obtain ⟨us, s2, _, _, _, _, h3, h4, _, _⟩ := M.bind_ok h2
    obtain ⟨rfl, e2⟩ := results_ok h3
    obtain ⟨rfl, rfl, _, _⟩ := M.pure_ok h4
    refine ⟨rfl, fun φ a w hs ht => ?_⟩
    obtain ⟨e3, e4⟩ := e1 φ a ht
    obtain ⟨e5, e6⟩ := e2 φ a w hs ht
    refine ⟨?_, fun c hc => ?_⟩
    · have e3' : a.tmps.getD t undef = v.den ρ φ := e3
      have e7 : (resOne a.tmps (.tmp t)).run P w = .ok (v.den ρ φ) w := by
        simp only [resOne, e3', Sem.run_pure]
      rw [List.mapM_cons]
      simp only [Sem.run_bind, Sem.run_pure, Result.andThen_ok, e7, e5, SV.denL]
    · simp only [SV.idsL, List.mem_append] at hc
      rcases hc with hc | hc
      · exact e4 c hc
      · exact e6 c hc
  | .cell p ty :: l, s, s', vs, r, wl, h => by
    obtain ⟨v, s1, _, _, _, _, h1, h2, _, _⟩ := M.bind_ok h
    obtain ⟨rfl, e1⟩ := rdOp_ok (ρ := ρ) h1
    match v, h2, e1 with
    | .ptr b off, h2, e1 =>
      obtain ⟨u, s2, _, _, _, _, h3, h4, _, _⟩ := M.bind_ok h2
      obtain ⟨st', _, _, h5, rfl⟩ := lift_ok h3
      obtain ⟨u', st2, _, _, _, _, h6, h7, _, _⟩ := M.bind_ok h5
      obtain ⟨_, st3, _, _, _, _, h8, h9, _, _⟩ := M.bind_ok h7
      obtain ⟨rfl, hcl⟩ := chk_ok h8
      obtain ⟨rfl, rfl, _, _⟩ := M.pure_ok h9
      have hld := loadS_same h6
      subst hld
      obtain ⟨us, s3, _, _, _, _, h10, h11, _, _⟩ := M.bind_ok h4
      obtain ⟨rfl, e2⟩ := results_ok h10
      obtain ⟨rfl, rfl, _, _⟩ := M.pure_ok h11
      refine ⟨rfl, fun φ a w hs ht => ?_⟩
      obtain ⟨e3, _⟩ := e1 φ a ht
      obtain ⟨e5, e6⟩ := e2 φ a w hs ht
      obtain ⟨_, e7⟩ := loadS_ok h6 hs
      refine ⟨?_, fun c hc => ?_⟩
      · have e3' : a.tmps.getD p undef = .pointer (some ⟨φ b, off, none⟩) := e3
        have e4 : (resOne a.tmps (.cell p ty)).run P w = .ok (u.den ρ φ) w := by
          simp only [resOne, e3', asAddr, Sem.run_bind, Sem.run_pure, Result.andThen_ok, e7]
        rw [List.mapM_cons]
        simp only [Sem.run_bind, Sem.run_pure, Result.andThen_ok, e4, e5, SV.denL]
      · simp only [SV.idsL, List.mem_append] at hc
        rcases hc with hc | hc
        · exact hcl c hc
        · exact e6 c hc
theorem oneOf_den (vs : List SV) : (oneOf vs).den ρ φ = (if h : (SV.denL ρ φ vs).toArray.size = 1 then (SV.denL ρ φ vs).toArray[0] else .tuple (SV.denL ρ φ vs).toArray) := by
  match vs with
  | [] => rfl
  | [v] => rfl
  | v :: u :: vs => simp [oneOf, SV.den, SV.denL]
theorem results_run {fn : Func} {s s' : St} {vs : List SV} {r wl : List Loc} (h : evResults P fn.results.toList s = .ok vs s' r wl) {a : Act} (hs : RelS ρ E w0 φ s.st w) (ht : RelT ρ φ s a) :
    (results fn a.tmps).run P w = .ok ((oneOf vs).den ρ φ) w := by
  obtain ⟨_, e⟩ := results_ok h
  obtain ⟨e1, _⟩ := e φ a w hs ht
  have hm : (fn.results.mapM (resOne a.tmps)).run P w = .ok (SV.denL ρ φ vs).toArray w := by
    have h2 : fn.results.mapM (resOne a.tmps) = fn.results.toList.mapM (resOne a.tmps) >>= fun l => Pure.pure l.toArray := by rw [Array.mapM_eq_mapM_toList]; rfl
    rw [h2, Sem.run_bind, e1]; rfl
  have h3 : results fn a.tmps = (fn.results.mapM (resOne a.tmps) >>= fun vs => Pure.pure (if h : vs.size = 1 then vs[0] else .tuple vs)) := rfl
  rw [oneOf_den, h3, Sem.run_bind, hm]
  rfl

theorem ev_sound (hmix : P.follows .mixedOrders = true) {X : Ctx} (hX : Knows ρ X) (hC : KnowsC P ρ E X) : ∀ n : Nat,
    (∀ f p c u k s e k' s' r wl, codeAt P f p = c → evCode P X n f p c u k s = .ok (e, k') s' r wl → ∀ w0 φ0 st0 a w, RelF ρ E w0 φ0 st0 s a w → ∀ Q : Exit → Act → World → Prop, (∀ a' w', RelF ρ E w0 φ0 st0 s' a' w' → Q e.to a' w') → c.wp P Q a w) ∧
    (∀ f p c u k s e k' s' r wl, codeAt P f p = c → evLoop P X n f p c u k s = .ok (e, k') s' r wl → ∃ m, ∀ w0 φ0 st0 a w, RelF ρ E w0 φ0 st0 s a w → ∀ Q : Exit → Act → World → Prop, (∀ a' w', RelF ρ E w0 φ0 st0 s' a' w' → Q e.to a' w') → Code.rounds P c Q m a w) ∧
    CallOk P ρ E (evCall P X n) := by
  intro n
  induction n with
  | zero => exact ⟨fun f p c u k s e k' s' r wl hcp h => (by unfold evCode at h; cases h), fun f p c u k s e k' s' r wl hcp h => (by unfold evLoop at h; cases h), fun f vs id st v st' r wl h => (by unfold evCall at h; cases h)⟩
  | succ n ih =>
    obtain ⟨ih1, ih2, ih3⟩ := ih
    refine ⟨fun f p c u k s e k' s' r wl hcp h w0 φ0 st0 a w hr Q hQ => ?_, fun f p c u k s e k' s' r wl hcp h => ?_, fun f vs id st v st' r wl h w0 φ w hr => ?_⟩
    · cases c <;> unfold evCode at h <;> dsimp only at h
      case skip =>
        obtain ⟨h1, rfl, _, _⟩ := M.pure_ok h
        cases h1
        exact wp_skip (hQ _ _ hr)
      case label l =>
        obtain ⟨h1, rfl, _, _⟩ := M.pure_ok h
        cases h1
        exact wp_label (hQ _ _ hr)
      case region id ops draw =>
        obtain ⟨_, s1, _, _, _, _, h1, h2, _, _⟩ := M.bind_ok (m := evRegion P X (evCall P X n) ops draw u k) h
        obtain ⟨h3, rfl, _, _⟩ := M.pure_ok h2
        cases h3
        exact evRegion_ok hmix hX ih3 (ev_local P X n).2.2 h1 hr hQ
      case seq x y =>
        obtain ⟨q, s1, _, _, _, _, h1, h2, _, _⟩ := M.bind_ok (m := evCode P X n f (0 :: p) x u k) h
        obtain ⟨e1, k1⟩ := q
        refine wp_seq (ih1 _ _ _ _ _ _ _ _ _ _ _ (by simp only [codeAt, hcp, child]) h1 w0 φ0 st0 a w hr _ (fun a1 w1 hr1 => ?_))
        cases e1 with
        | normal => exact ih1 _ _ _ _ _ _ _ _ _ _ _ (by simp only [codeAt, hcp, child]) h2 w0 φ0 st0 a1 w1 hr1 Q hQ
        | exit i =>
          obtain ⟨h3, rfl, _, _⟩ := M.pure_ok h2
          cases h3
          exact hQ _ _ hr1
        | ret =>
          obtain ⟨h3, rfl, _, _⟩ := M.pure_ok h2
          cases h3
          exact hQ _ _ hr1
      case cond c x y =>
        obtain ⟨v, s1, _, _, _, _, h1, h2, _, _⟩ := M.bind_ok (m := rdOp c) h
        obtain ⟨rfl, e1⟩ := rdOp_ok (ρ := ρ) h1
        match v, h2, e1 with
        | .bool b, h2, e1 =>
          obtain ⟨t, s2, _, _, _, _, h3, h4, _, _⟩ := M.bind_ok (m := dec X b) h2
          obtain ⟨e2, rfl⟩ := dec_ok hX h3
          obtain ⟨φ, hs, ht⟩ := id hr
          have e3 := (e1 φ a ht).1
          simp only [SV.den, e2] at e3
          refine wp_cond e3 ?_
          cases t with
          | true =>
            simp only [if_true] at h4 ⊢
            exact ih1 _ _ _ _ _ _ _ _ _ _ _ (by simp only [codeAt, hcp, child]) h4 w0 φ0 st0 a w hr Q hQ
          | false =>
            simp only [Bool.false_eq_true, if_false] at h4 ⊢
            exact ih1 _ _ _ _ _ _ _ _ _ _ _ (by simp only [codeAt, hcp, child]) h4 w0 φ0 st0 a w hr Q hQ
      case block id c =>
        obtain ⟨q, s1, _, _, _, _, h1, h2, _, _⟩ := M.bind_ok (m := evCode P X n f (0 :: p) c u k) h
        obtain ⟨e1, k1⟩ := q
        refine wp_block (ih1 _ _ _ _ _ _ _ _ _ _ _ (by simp only [codeAt, hcp, child]) h1 w0 φ0 st0 a w hr _ (fun a1 w1 hr1 => ?_))
        cases e1 with
        | normal =>
          obtain ⟨h3, rfl, _, _⟩ := M.pure_ok h2
          cases h3
          exact hQ _ _ hr1
        | exit i =>
          obtain ⟨h3, rfl, _, _⟩ := M.pure_ok h2
          simp only [Ex.to, Exit.inBlock]
          by_cases hi : i = id
          · subst hi
            simp only [show Nat.beq i i = true by simp, if_true] at h3
            cases h3
            simp only [if_true]
            exact hQ _ _ hr1
          · rw [if_neg (by simpa using hi)] at h3
            cases h3
            rw [if_neg hi]
            exact hQ _ _ hr1
        | ret =>
          obtain ⟨h3, rfl, _, _⟩ := M.pure_ok h2
          cases h3
          exact hQ _ _ hr1
      case loop c =>
        cases hl : X.lp f p (stepId u k) with
        | some L =>
          simp only [hl] at h
          obtain ⟨e1, s1, _, _, _, _, h1, h2, _, _⟩ := M.bind_ok (m := loopM L) h
          obtain ⟨h3, rfl, _, _⟩ := M.pure_ok h2
          cases h3
          obtain ⟨rfl, rfl, htm, hbl, hids, _⟩ := loopM_ok h1
          obtain ⟨tm, st⟩ := s
          obtain ⟨h5, h6⟩ := tmBeq_spec htm
          have hr' : RelF ρ E w0 φ0 st0 ⟨L.tm, st⟩ a w := by
            obtain ⟨φ, hs, ht⟩ := hr
            refine ⟨φ, hs, ⟨by rw [ht.len]; exact h5, ht.df, fun i v hv => ?_, fun i v hv c hc => ?_⟩⟩
            · rcases h6 i v hv with h7 | h7
              · exact .inl h7
              · exact ht.tm i v h7
            · rcases h6 i v hv with h7 | h7
              · subst h7; simp [SV.ids] at hc
              · exact ht.cl i v h7 c hc
          exact hC.lp f p _ L hl c hcp st hbl hids w0 φ0 st0 a w hr' Q hQ
        | none =>
          simp only [hl] at h
          obtain ⟨m, hm⟩ := ih2 _ _ _ _ _ _ _ _ _ _ _ (by simp only [codeAt, hcp, child]) h
          exact wp_loop_rounds m (hm w0 φ0 st0 a w hr Q hQ)
      case exit id =>
        obtain ⟨h1, rfl, _, _⟩ := M.pure_ok h
        cases h1
        exact wp_exit (hQ _ _ hr)
      case scope c =>
        refine wp_scope_straight (ih1 _ _ _ _ _ _ _ _ _ _ _ (by simp only [codeAt, hcp, child]) h w0 φ0 st0 a w hr _ (fun a1 w1 hr1 => ?_))
        have := hQ _ _ hr1
        cases e <;> exact this
      case ret =>
        obtain ⟨h1, rfl, _, _⟩ := M.pure_ok h
        cases h1
        exact wp_ret (hQ _ _ hr)
      all_goals (cases h; done)
    · unfold evLoop at h
      obtain ⟨q, s1, _, _, _, _, h1, h2, _, _⟩ := M.bind_ok (m := evCode P X n f p c u k) h
      obtain ⟨e1, k1⟩ := q
      cases e1 with
      | normal =>
        obtain ⟨m, hm⟩ := ih2 _ _ _ _ _ _ _ _ _ _ _ hcp h2
        refine ⟨m + 1, fun w0 φ0 st0 a w hr Q hQ => ?_⟩
        rw [rounds_succ]
        exact ih1 _ _ _ _ _ _ _ _ _ _ _ hcp h1 w0 φ0 st0 a w hr _ (fun a1 w1 hr1 => hm w0 φ0 st0 a1 w1 hr1 Q hQ)
      | exit i =>
        obtain ⟨h3, rfl, _, _⟩ := M.pure_ok h2
        cases h3
        exact ⟨1, fun w0 φ0 st0 a w hr Q hQ => ih1 _ _ _ _ _ _ _ _ _ _ _ hcp h1 w0 φ0 st0 a w hr _ (fun a1 w1 hr1 => hQ _ _ hr1)⟩
      | ret =>
        obtain ⟨h3, rfl, _, _⟩ := M.pure_ok h2
        cases h3
        exact ⟨1, fun w0 φ0 st0 a w hr Q hQ => ih1 _ _ _ _ _ _ _ _ _ _ _ hcp h1 w0 φ0 st0 a w hr _ (fun a1 w1 hr1 => hQ _ _ hr1)⟩
    · unfold evCall at h
      cases hf : P.funcs[f]? with
      | none => simp only [hf] at h; cases h
      | some fn =>
        simp only [hf] at h
        cases hb : fn.body with
        | none => simp only [hb] at h; cases h
        | some c =>
          simp only [hb] at h
          split at h
          · cases h
          · rename_i hname
            have hcf : ∀ args w', (callFunc f args).run P w' = .ok (.enter f args) w' := fun args w' => by
              have h1 : fn.name ≠ "runtime.NumGoroutine" := by simpa using hname
              simp [callFunc, hf, h1, hb]
            refine ⟨hcf, ?_⟩
            have hknown : ∀ v', knownC X f vs = some v' → v'.ids = [] → ∀ φ w, ExtIn ρ w → Calls P f (SV.denL ρ φ vs).toArray w fun e w' => e = .returned (v'.den ρ φ) ∧ Below w.heap.size w w' := by
              intro v' hv hids
              unfold knownC at hv
              cases hl : lookC X.cr f vs with
              | some u =>
                simp only [hl] at hv
                cases hv
                exact hC.cr _ (lookC_ok hl)
              | none =>
                simp only [hl] at hv
                exact hC.ct _ hX.pc _ _ _ hv hids
            cases hl : knownC X f vs with
            | some v' =>
              simp only [hl] at h
              split at h
              · rename_i hids
                obtain ⟨rfl, rfl, _, _⟩ := M.pure_ok h
                exact (hknown _ hl (List.isEmpty_iff.1 hids) φ w hr.xt).mono fun e w' ⟨he, hbw⟩ => ⟨φ, ⟨hr.below hbw, fun _ _ => rfl, fun _ h => h⟩, he⟩
              · cases h
            | none =>
              simp only [hl] at h
              split at h
              · cases h
              obtain ⟨_, s1, _, _, _, _, h1, h2, _, _⟩ := M.bind_ok h
              obtain ⟨rfl, hcl⟩ := chk_ok h1
              unfold inFrame at h2
              split at h2
              · rename_i v2 s2 r2 w2 h3
                cases h2
                obtain ⟨q, s3, _, _, _, _, h4, h5, _, _⟩ := M.bind_ok h3
                obtain ⟨e1, k1⟩ := q
                have hstart : RelF ρ E w0 φ s1 ⟨Tm.ofL (vs ++ List.replicate (fn.ntmps - vs.length) (.raw undef)), s1⟩ { tmps := (SV.denL ρ φ vs).toArray ++ Array.replicate (fn.ntmps - (SV.denL ρ φ vs).toArray.size) undef, defers := [] } w := by
                  refine ⟨φ, Step.refl hr, ⟨by show _ = (vs ++ List.replicate (fn.ntmps - vs.length) (SV.raw undef)).length; simp [denL_length], rfl, fun t u hu => .inr ?_, fun t u hu d hd => ?_⟩⟩
                  all_goals replace hu : (vs ++ List.replicate (fn.ntmps - vs.length) (SV.raw undef))[t]? = some u := hu
                  · rw [List.getElem?_append] at hu
                    rw [Array.getElem?_append]
                    simp only [List.size_toArray, denL_length]
                    split at hu
                    · rename_i hlt
                      rw [if_pos hlt]
                      simp [denL_map, hu]
                    · rename_i hlt
                      rw [if_neg hlt]
                      rw [List.getElem?_replicate] at hu
                      split at hu
                      · rename_i hlt2
                        cases hu
                        simp [hlt2, SV.den]
                      · cases hu
                  · rw [List.getElem?_append] at hu
                    split at hu
                    · exact hcl d (mem_idsL.2 ⟨u, List.mem_of_getElem? hu, hd⟩)
                    · rw [List.getElem?_replicate] at hu
                      split at hu
                      · cases hu; simp [SV.ids] at hd
                      · cases hu
                have key : ∀ {vs' r5 w5}, evResults P fn.results.toList s3 = .ok vs' s2 r5 w5 → v = oneOf vs' → ∀ ex a' w', RelF ρ E w0 φ s1 s3 a' w' → (ex = .normal ∨ ex = .ret) → bodyPost P fn (fun e w' => ∃ φ', Step ρ E w0 φ s1 φ' s2.st w' ∧ e = .returned (v.den ρ φ')) ex a' w' := by
                  intro vs' r5 w5 h6 hv ex a' w' hr' hex
                  obtain ⟨φ', hs', ht'⟩ := hr'
                  have hsame := (results_ok (ρ := ρ) (E := E) (w0 := w0) h6).1
                  have hrun := results_run h6 hs'.rel ht'
                  have hb : a'.defers = [] ∧ ∃ x, (results fn a'.tmps).run P w' = .ok x w' ∧ ∃ φ', Step ρ E w0 φ s1 φ' s2.st w' ∧ Ending.returned x = .returned (v.den ρ φ') := by
                    refine ⟨ht'.df, _, hrun, φ', ?_, by rw [hv]⟩
                    rw [hsame]; exact hs'
                  rcases hex with rfl | rfl <;> exact hb
                refine calls_of_wp hf hb (ih1 _ _ _ _ _ _ _ _ _ _ _ (by simp only [codeAt, hf, Option.bind_some, hb, Option.getD_some]) h4 w0 φ s1 _ w hstart _ (fun a' w' hr' => ?_))
                cases e1 with
                | exit i => cases h5
                | normal =>
                  obtain ⟨vs', s4, _, _, _, _, h6, h7, _, _⟩ := M.bind_ok h5
                  obtain ⟨rfl, rfl, _, _⟩ := M.pure_ok h7
                  exact key h6 rfl _ a' w' hr' (.inl rfl)
                | ret =>
                  obtain ⟨vs', s4, _, _, _, _, h6, h7, _, _⟩ := M.bind_ok h5
                  obtain ⟨rfl, rfl, _, _⟩ := M.pure_ok h7
                  exact key h6 rfl _ a' w' hr' (.inr rfl)
              · cases h2
/-- a call with nothing in memory that is its own: what it comes to -/
theorem run_sound (hmix : P.follows .mixedOrders = true) {X : Ctx} (hX : Knows ρ X) (hC : KnowsC P ρ [] X) {n : Nat} {f : FuncId} {args : List SV} {v : SV} (h : runFn P X n f args = .ok v) (φ : Nat → Nat) (w : World) (hx : ExtIn ρ w) :
    Calls P f (SV.denL ρ φ args).toArray w fun e w' => (∃ φ', e = .returned (v.den ρ φ')) ∧ Below w.heap.size w w' := by
  unfold runFn at h
  split at h
  · rename_i v' st' r wl h1
    cases h
    have h0 : RelS ρ [] w φ [] w := ⟨fun b B hb => (by simp [Store.get] at hb), fun b B hb => (by simp [Store.get] at hb), fun b c hb => (by simp [Store.get] at hb), fun b hb => (by simp [Store.get] at hb), rfl, rfl, rfl, Nat.le_refl _, fun _ _ _ => rfl, hx, fun j B hB b hb => (by simp [Store.get] at hb)⟩
    exact ((ev_sound (E := []) hmix hX hC n).2.2 _ _ _ _ _ _ _ _ h1 w φ w h0).2.mono fun e w' ⟨φ', hs, he⟩ => ⟨⟨φ', he⟩, ⟨hs.rel.os, hs.rel.tape, hs.rel.output, hs.rel.size, fun k hk => hs.rel.fr k hk (by simp)⟩⟩
  · cases h
end Ev
end Go.Proofs.Ytmgfnejiienghaa
