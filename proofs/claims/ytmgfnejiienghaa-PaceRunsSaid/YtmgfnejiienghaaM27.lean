/- A checked evaluator: what it comes to is what the call comes to. -/
import Derived.Test.YtmgfnejiienghaaM26
import Derived.RecoverIn
namespace Go.Proofs.Ytmgfnejiienghaa
open Go Go.RowKit
set_option linter.unusedVariables false
namespace Ev
variable {P : Program} {ρ : Env} {E : List (Nat × Nat)} {D : List Deferred} {w0 : World} {φ φ0 : Nat → Nat} {st st0 : Store} {w : World}

theorem endL_notPan {b : Nat} {e : Ex} {v : SV} {st' : Store} {r wl : List Loc} (h : endL b e st = .ok v st' r wl) : notPan v = true := by
  cases e with
  | normal =>
    obtain ⟨_, s1, _, _, _, _, h1, h2, _, _⟩ := M.bind_ok (m := setL b 1 10 0) h
    obtain ⟨rfl, rfl, _, _⟩ := M.pure_ok h2
    rfl
  | exit i =>
    obtain ⟨_, s1, _, _, _, _, h1, h2, _, _⟩ := M.bind_ok (m := setL b 3 11 i) h
    obtain ⟨rfl, rfl, _, _⟩ := M.pure_ok h2
    rfl
  | ret =>
    obtain ⟨_, s1, _, _, _, _, h1, h2, _, _⟩ := M.bind_ok (m := setL b 3 12 0) h
    obtain ⟨rfl, rfl, _, _⟩ := M.pure_ok h2
    rfl
  | pan u => cases h
/-- a loop's sum, whatever is deferred -/
theorem loop_ok {X : Ctx} (hC : KnowsC P ρ E X) {f : FuncId} {p : List Nat} {u : Nat} {L : LoopSum} (hl : X.lp f p u = some L) {c : Code} (hcp : codeAt P f p = .loop c) {s s' : St} {e : Ex} {r wl : List Loc} (h : loopM L s = .ok e s' r wl) {a : Act} (hr : RelF P ρ E D w0 φ0 st0 s a w)
    {Q : Exit → Act → World → Prop} (hQ : ∀ a' w' x, RelX P ρ E D w0 φ0 st0 s' e a' w' x → Q x a' w') : (Code.loop c).wpIn (FW none) 0 P Q a w := by
  obtain ⟨rfl, rfl, hnp, htm, hbl, hids, _⟩ := loopM_ok h
  obtain ⟨tm, st⟩ := s
  obtain ⟨h5, h6⟩ := tmBeq_spec htm
  obtain ⟨φ, hs, ht⟩ := hr
  obtain ⟨ls, h7, h8⟩ := ht.df.under
  have hr' : RelF P ρ E a.defers w0 φ st ⟨Tm.ofL L.tm, st⟩ a w := by
    refine ⟨φ, Step.refl hs.rel, ⟨by rw [ht.len]; exact h5, rfl, fun i v hv => ?_, fun i v hv c hc => ?_, fun d hd => by cases hd⟩⟩
    · rcases h6 i v hv with h7 | h7
      · exact .inl h7
      · exact ht.tm i v h7
    · rcases h6 i v hv with h7 | h7
      · subst h7; simp [SV.ids] at hc
      · exact ht.cl i v h7 c hc
  refine hC.lp f p u L hl c hcp hids st hbl a.defers w0 φ st a w hr' Q (fun a' w' hr2 => hQ a' w' _ ?_)
  obtain ⟨φ', hs', ht'⟩ := hr2
  refine ⟨φ', hs.trans hs', ⟨ht'.len, ?_, ht'.tm, ht'.cl, fun d hd c hc => hs'.dom c (ht.dcl d hd c hc)⟩, ?_⟩
  · have : a'.defers = a.defers := ht'.df
    rw [this, h7]
    exact (h8 D).congr (fun d hd c hc => hs'.ext c (ht.dcl d hd c hc))
  · cases hx : L.ex with
    | normal => rfl
    | exit i => rfl
    | ret => rfl
    | pan v => rw [hx] at hnp; cases hnp
/-- a range over a function begins -/
theorem enterL_ok {u k : Nat} {rd : Option Nat} {f : FuncId} {p : List Nat} {b : Nat} {s s' : St} {r wl : List Loc} (h : enterL u k rd f p s = .ok b s' r wl) {g : Operand} {ps : Array Tmp} {as bd : Code} (hcode : codeAt P f p = .rangeFunc g ps as bd) {a : Act} (hs : Step P ρ E w0 φ0 st0 φ s.st w) (ht : RelT ρ D φ s a)
    {rf : Option Nat} (hrd : RdOk rd φ0 st0 rf) (fn0 : FuncId) :
    ∃ φ' w' mark, (Instr.enterLoop fn0 a.tmps ps as bd rf).run P w = .ok (φ' b, mark) w' ∧ Step P ρ E w0 φ s.st φ' s'.st w' ∧ RelT ρ D φ' s' { a with defers := mark ++ a.defers } ∧ (s'.st.get b).isSome := by
  unfold enterL at h
  obtain ⟨tm, s1, _, _, _, _, h1, h2, _, _⟩ := M.bind_ok h
  cases h1
  rw [Tm.all_eq] at h2
  obtain ⟨d, s2, _, _, _, _, h3, h4, _, _⟩ := M.bind_ok h2
  obtain ⟨st2, _, _, h5, rfl⟩ := lift_ok h3
  obtain ⟨d', st1, _, _, _, _, h6, h7, _, _⟩ := M.bind_ok h5
  obtain ⟨_, st3, _, _, _, _, h8, h9, _, _⟩ := M.bind_ok h7
  obtain ⟨rfl, hcl⟩ := chk_ok h8
  obtain ⟨_, st4, _, _, _, _, h10, h11, _, _⟩ := M.bind_ok h9
  obtain ⟨hid, hz, rfl⟩ := newB_ok h10
  obtain ⟨rfl, rfl, _, _⟩ := M.pure_ok h11
  -- the record, laid behind what is there
  have recl : ∀ (φ1 : Nat → Nat) (w1 : World), Step P ρ E w0 φ s.st φ1 st3 w1 → ∃ φ', Step P ρ E w0 φ s.st φ' ((stepId u (k + 1), ⟨0, .mark 1 f p d :: .mark 10 0 [] d :: s.m.toList⟩) :: st3)
      (w1.alloc (.loop { state := .ready, pending := none, fn := fn0, tmps := a.tmps, params := ps, assign := as, body := bd, defers := φ1 d })) ∧ φ' (stepId u (k + 1)) = w1.heap.size ∧ φ' d = φ1 d := by
    intro φ1 w1 hs1
    have hne : d ≠ stepId u (k + 1) := fun e => by
      have := hcl d (by simp [SV.idsL, SV.ids])
      rw [e, hid] at this; cases this
    have hdz : d % 1048576 ≠ 0 := hs1.rel.nz d (hcl d (by simp [SV.idsL, SV.ids]))
    have hag : ∀ c, (st3.get c).isSome → Agr φ1 (named φ1 (stepId u (k + 1)) w1.heap.size 0) c := fun c hc => named_agr hz (hs1.rel.nz c hc) (fun e => by rw [e, hid] at hc; cases hc)
    refine ⟨_, hs1.trans (hs1.rel.newO (stepId u (k + 1)) 0 ⟨0, .mark 1 f p d :: .mark 10 0 [] d :: s.m.toList⟩ _ hid hz (fun c hc => .inl (hcl c hc)) ?_), named_id, (named_agr hz hdz hne).1⟩
    unfold objOk
    simp only
    rw [bcOf_recd (by decide)]
    refine ⟨g, ps, as, bd, a.tmps, fn0, hcode, ⟨ht.len, fun t v hv => ?_⟩, ?_⟩
    · rcases ht.tm t v hv with e | e
      · exact .inl e
      · right
        rw [e, den_congr ρ φ _ v (fun c hc => (hs1.ext c (ht.cl t v hv c hc)).trans (hag c (hs1.dom c (ht.cl t v hv c hc))))]
    · rw [(named_agr hz hdz hne).1]; rfl
  cases rd with
  | none =>
    obtain rfl : rf = none := hrd
    obtain ⟨_, s5, _, _, _, _, h12, h13, _, _⟩ := M.bind_ok h4
    cases h12
    obtain ⟨rfl, rfl, _, _⟩ := M.pure_ok h13
    obtain ⟨_, st5, _, _, _, _, h14, h15, _, _⟩ := M.bind_ok (m := newB (stepId u k) _) h6
    obtain ⟨hid2, hz2, rfl⟩ := newB_ok h14
    obtain ⟨rfl, rfl, _, _⟩ := M.pure_ok h15
    have hs1 : Step P ρ E w0 φ s.st (named φ (stepId u k) w.heap.size 0) ((stepId u k, ⟨0, [.mark 5 0 [] (stepId u k)]⟩) :: s.st) (w.alloc (.deferred (some []))) :=
      hs.rel.newO (stepId u k) 0 _ (.deferred (some [])) hid2 hz2 (fun c hc => .inr (by simpa [SV.idsL, SV.ids] using hc)) rfl
    obtain ⟨φ', hs', hb, hd⟩ := recl _ _ hs1
    have hdd : φ' (stepId u k) = w.heap.size := by rw [hd, named_id]
    rw [named_id] at hs'
    refine ⟨φ', _, [{ target := .collected w.heap.size, args := #[] }], ?_, hs', ?_, by rw [Store.get_cons, if_pos rfl]; rfl⟩
    · rw [run_enterLoop_outer, hb]; simp
    · have ht' := ht.step hs'
      refine ⟨ht'.len, ⟨_, by rw [hdd]; rfl, ht'.df⟩, ht'.tm, ht'.cl, fun d hd c hc => ?_⟩
      rcases List.mem_cons.1 hd with rfl | hd
      · simp [DS.ids] at hc
        have hh := hcl (stepId u k) (by simp [SV.idsL, SV.ids])
        rw [hc, Store.get_cons]; split
        · rfl
        · exact hh
      · exact ht'.dcl d hd c hc
  | some b0 =>
    obtain ⟨rfl, hb0⟩ := hrd
    obtain ⟨rfl, rfl, _, _⟩ := M.pure_ok h4
    obtain ⟨B, st5, _, _, _, _, h14, h15, _, _⟩ := M.bind_ok (m := rdB b0) h6
    obtain ⟨hB, rfl⟩ := rdB_ok h14
    cases hR : recP B.cells with
    | none => simp only [hR] at h15; cases h15
    | some R =>
      simp only [hR] at h15
      split at h15
      · rename_i hm
        simp only [isRec, Bool.and_eq_true] at hm
        have m1 := Nat.le_of_ble_eq_true hm.1
        have m2 := Nat.le_of_ble_eq_true hm.2
        obtain ⟨rfl, rfl, _, _⟩ := M.pure_ok h15
        obtain ⟨g', ps', as', bd', vs', f0', e1, e2, e3⟩ := hs.rel.recd hB hR (by omega)
        obtain ⟨φ', hs', hb, hd⟩ := recl φ w (Step.refl hs.rel)
        have hφ : φ b0 = φ0 b0 := (hs.ext b0 hb0).1
        refine ⟨φ', _, [], ?_, hs', ht.step hs', by rw [Store.get_cons, if_pos rfl]; rfl⟩
        rw [hφ] at e3
        unfold Instr.enterLoop
        simp only [Sem.run_bind, run_getLoop e3, Result.andThen, Sem.run_pure, run_newObj_alloc, hb]
      · cases h15
theorem jump_ok {k i : Nat} {e : Ex} (h : jumpS k i = some e) : (e = .normal ∧ jumpOf k i = none) ∨ (∃ j, e = .exit j ∧ jumpOf k i = some (.exit j)) ∨ (e = .ret ∧ jumpOf k i = some .ret) := by
  unfold jumpS at h
  split at h
  · cases h; exact .inl ⟨rfl, rfl⟩
  · cases h; exact .inr (.inl ⟨_, rfl, rfl⟩)
  · cases h; exact .inr (.inr ⟨rfl, rfl⟩)
  · cases h
/-- a frame that begins -/
theorem start_rel {st : Store} {vs : List SV} (hcl : ∀ c ∈ SV.idsL vs, (st.get c).isSome) (m : Nat) :
    RelT ρ [] φ ⟨Tm.ofL (vs ++ List.replicate (m - vs.length) (.raw undef)), st⟩ { tmps := (SV.denL ρ φ vs).toArray ++ Array.replicate (m - (SV.denL ρ φ vs).toArray.size) undef, defers := [] } := by
  refine ⟨by show _ = (vs ++ List.replicate (m - vs.length) (SV.raw undef)).length; simp [denL_length], rfl, fun t u hu => .inr ?_, fun t u hu d hd => ?_, fun d hd => by cases hd⟩
  all_goals replace hu : (vs ++ List.replicate (m - vs.length) (SV.raw undef))[t]? = some u := hu
  · rw [List.getElem?_append] at hu
    rw [Array.getElem?_append]
    simp only [List.size_toArray, denL_length]
    split at hu
    · rename_i hlt
      rw [if_pos hlt]
      simp [denL_map, hu]
    · rename_i hlt
      rw [if_neg hlt]
      rw [List.getElem?_replicate] at hu
      split at hu
      · rename_i hlt2
        cases hu
        simp [hlt2, SV.den]
      · cases hu
  · rw [List.getElem?_append] at hu
    split at hu
    · exact hcl d (mem_idsL.2 ⟨u, List.mem_of_getElem? hu, hd⟩)
    · rw [List.getElem?_replicate] at hu
      split at hu
      · cases hu; simp [SV.ids] at hd
      · cases hu
theorem recBody_ok {c c1 : Code} {t : Tmp} (h : recBody c = some (t, c1)) : ∃ id o, c = .seq (.region id #[o] false) c1 ∧ ∃ as ts, o.op = .call ⟨.builtin .recover, as, ts⟩ ∧ as = #[] ∧ o.guard = none ∧ o.dst = some t := by
  unfold recBody at h
  split at h
  · rename_i id o c'
    cases hr : recOp o with
    | none => rw [hr] at h; cases h
    | some t' =>
      rw [hr] at h
      cases h
      refine ⟨id, o, rfl, ?_⟩
      unfold recOp at hr
      split at hr
      · rename_i as ts hop
        split at hr
        · rename_i hg
          simp only [Bool.and_eq_true, Option.isNone_iff_eq_none, Array.isEmpty_iff] at hg
          exact ⟨as, ts, hop, hg.1, hg.2, hr⟩
        · cases hr
      · cases hr
  · cases h
theorem ev_sound (hmix : P.follows .mixedOrders = true) {X : Ctx} (hX : Knows ρ X) (hC : KnowsC P ρ E X) : ∀ n : Nat,
    (∀ f p c rd u k s e k' s' r wl, codeAt P f p = c → evCode P X n f p c rd u k s = .ok (e, k') s' r wl → ∀ D w0 φ0 st0 a w rf, RdOk rd φ0 st0 rf → RelF P ρ E D w0 φ0 st0 s a w → ∀ Q : Exit → Act → World → Prop, (∀ a' w' x, RelX P ρ E D w0 φ0 st0 s' e a' w' x → Q x a' w') → c.wpIn (FW rf) 0 P Q a w) ∧
    (∀ f p c rd u k s e k' s' r wl, codeAt P f p = c → evLoop P X n f p c rd u k s = .ok (e, k') s' r wl → ∃ m, ∀ D w0 φ0 st0 a w rf, RdOk rd φ0 st0 rf → RelF P ρ E D w0 φ0 st0 s a w → ∀ Q : Exit → Act → World → Prop, (∀ a' w' x, RelX P ρ E D w0 φ0 st0 s' e a' w' x → Q x a' w') → Code.roundsIn (FW rf) 0 P c Q m a w) ∧
    CallOk P ρ E (evCall P X n) ∧ RoundOk P ρ E (evRound P X n) ∧ DefOk P ρ E (evDef P X n) := by
  intro n
  induction n with
  | zero => exact ⟨fun f p c rd u k s e k' s' r wl hcp h => (by unfold evCode at h; cases h), fun f p c rd u k s e k' s' r wl hcp h => (by unfold evLoop at h; cases h), fun f vs id st v st' r wl h => (by unfold evCall at h; cases h), fun b vs id st v st' r wl h => (by unfold evRound at h; cases h), fun f vs x id st y st' r wl h => (by unfold evDef at h; cases h)⟩
  | succ n ih =>
    obtain ⟨ih1, ih2, ih3, ih4, ih5⟩ := ih
    refine ⟨fun f p c rd u k s e k' s' r wl hcp h D w0 φ0 st0 a w rf hrd hr Q hQ => ?_, fun f p c rd u k s e k' s' r wl hcp h => ?_, fun f vs id st v st' r wl h w0 φ w hr => ?_, fun b vs id st v st' r wl h w0 φ w hr => ?_, fun f vs x id st y st' r wl h w0 φ w hr hx => ?_⟩
    · cases c <;> unfold evCode at h <;> dsimp only at h
      case skip =>
        obtain ⟨h1, rfl, _, _⟩ := M.pure_ok h
        cases h1
        exact wpIn_skip (hQ _ _ _ hr.normal)
      case label l =>
        obtain ⟨h1, rfl, _, _⟩ := M.pure_ok h
        cases h1
        exact wpIn_label (hQ _ _ _ hr.normal)
      case region id ops draw =>
        obtain ⟨_, s1, _, _, _, _, h1, h2, _, _⟩ := M.bind_ok (m := evRegion P X (evCall P X n) (evRound P X n) rd ops draw u k) h
        obtain ⟨h3, rfl, _, _⟩ := M.pure_ok h2
        cases h3
        exact evRegion_ok hmix hX ih3 ih4 (ev_local P X n).2.2.1 (ev_local P X n).2.2.2.1 hrd h1 hr hQ
      case seq x y =>
        obtain ⟨q, s1, _, _, _, _, h1, h2, _, _⟩ := M.bind_ok (m := evCode P X n f (0 :: p) x rd u k) h
        obtain ⟨e1, k1⟩ := q
        refine wpIn_seq (ih1 _ _ _ _ _ _ _ _ _ _ _ _ (by simp only [codeAt, hcp, child]) h1 D w0 φ0 st0 a w rf hrd hr _ (fun a1 w1 x1 hr1 => ?_))
        cases e1 with
        | normal =>
          have hF := hr1.relF
          obtain ⟨_, _, _, hx⟩ := hr1
          obtain rfl : x1 = .normal := hx
          exact ih1 _ _ _ _ _ _ _ _ _ _ _ _ (by simp only [codeAt, hcp, child]) h2 D w0 φ0 st0 a1 w1 rf hrd hF Q hQ
        | exit i =>
          obtain ⟨h3, rfl, _, _⟩ := M.pure_ok h2
          cases h3
          have := hQ _ _ _ hr1
          obtain ⟨_, _, _, hx⟩ := hr1
          obtain rfl : x1 = .exit i := hx
          exact this
        | ret =>
          obtain ⟨h3, rfl, _, _⟩ := M.pure_ok h2
          cases h3
          have := hQ _ _ _ hr1
          obtain ⟨_, _, _, hx⟩ := hr1
          obtain rfl : x1 = .ret := hx
          exact this
        | pan v =>
          obtain ⟨h3, rfl, _, _⟩ := M.pure_ok h2
          cases h3
          have := hQ _ _ _ hr1
          obtain ⟨_, _, _, hx, _⟩ := hr1
          subst hx
          exact this
      case cond c x y =>
        obtain ⟨v, s1, _, _, _, _, h1, h2, _, _⟩ := M.bind_ok (m := rdOp c) h
        obtain ⟨rfl, e1⟩ := rdOp_ok (ρ := ρ) h1
        match v, h2, e1 with
        | .bool b, h2, e1 =>
          obtain ⟨t, s2, _, _, _, _, h3, h4, _, _⟩ := M.bind_ok (m := dec X b) h2
          obtain ⟨e2, rfl⟩ := dec_ok hX h3
          obtain ⟨φ, hs, ht⟩ := id hr
          have e3 := (e1 D φ a ht).1
          simp only [SV.den, e2] at e3
          refine wpIn_cond e3 ?_
          cases t with
          | true =>
            simp only [if_true] at h4 ⊢
            exact ih1 _ _ _ _ _ _ _ _ _ _ _ _ (by simp only [codeAt, hcp, child]) h4 D w0 φ0 st0 a w rf hrd hr Q hQ
          | false =>
            simp only [Bool.false_eq_true, if_false] at h4 ⊢
            exact ih1 _ _ _ _ _ _ _ _ _ _ _ _ (by simp only [codeAt, hcp, child]) h4 D w0 φ0 st0 a w rf hrd hr Q hQ
      case block id c =>
        obtain ⟨q, s1, _, _, _, _, h1, h2, _, _⟩ := M.bind_ok (m := evCode P X n f (0 :: p) c rd u k) h
        obtain ⟨e1, k1⟩ := q
        refine wpIn_block (ih1 _ _ _ _ _ _ _ _ _ _ _ _ (by simp only [codeAt, hcp, child]) h1 D w0 φ0 st0 a w rf hrd hr _ (fun a1 w1 x1 hr1 => ?_))
        cases e1 with
        | normal =>
          obtain ⟨h3, rfl, _, _⟩ := M.pure_ok h2
          cases h3
          have := hQ _ _ _ hr1
          obtain ⟨_, _, _, hx⟩ := hr1
          obtain rfl : x1 = .normal := hx
          exact this
        | exit i =>
          obtain ⟨h3, rfl, _, _⟩ := M.pure_ok h2
          by_cases hi : i = id
          · subst hi
            simp only [show Nat.beq i i = true by simp, if_true] at h3
            cases h3
            have := hQ _ _ _ hr1.relF.normal
            obtain ⟨_, _, _, hx⟩ := hr1
            obtain rfl : x1 = .exit i := hx
            simp only [Exit.inBlock, if_true]
            exact this
          · rw [if_neg (by simpa using hi)] at h3
            cases h3
            have := hQ _ _ _ hr1
            obtain ⟨_, _, _, hx⟩ := hr1
            obtain rfl : x1 = .exit i := hx
            simp only [Exit.inBlock, if_neg hi]
            exact this
        | ret =>
          obtain ⟨h3, rfl, _, _⟩ := M.pure_ok h2
          cases h3
          have := hQ _ _ _ hr1
          obtain ⟨_, _, _, hx⟩ := hr1
          obtain rfl : x1 = .ret := hx
          exact this
        | pan v =>
          obtain ⟨h3, rfl, _, _⟩ := M.pure_ok h2
          cases h3
          have := hQ _ _ _ hr1
          obtain ⟨_, _, _, hx, _⟩ := hr1
          subst hx
          exact this
      case loop c =>
        cases hl : lpOf X rd f p (stepId u k) with
        | some L =>
          simp only [hl] at h
          obtain ⟨e1, s1, _, _, _, _, h1, h2, _, _⟩ := M.bind_ok (m := loopM L) h
          obtain ⟨h3, rfl, _, _⟩ := M.pure_ok h2
          cases h3
          cases rd with
          | some b => cases hl
          | none =>
            obtain rfl : rf = none := hrd
            exact loop_ok hC hl hcp h1 hr hQ
        | none =>
          simp only [hl] at h
          obtain ⟨m, hm⟩ := ih2 _ _ _ _ _ _ _ _ _ _ _ _ (by simp only [codeAt, hcp, child]) h
          exact wpIn_loop_rounds m (hm D w0 φ0 st0 a w rf hrd hr Q hQ)
      case rangeFunc g ps as bd =>
        obtain ⟨v, s1, _, _, _, _, h1, h2, _, _⟩ := M.bind_ok (m := rdOp g) h
        obtain ⟨rfl, e1⟩ := rdOp_ok (ρ := ρ) h1
        obtain ⟨gf, fs, cs, rfl⟩ : ∃ gf fs cs, v = .func (.func gf) fs cs := by
          cases v <;> try (cases h2; done)
          rename_i fx _ _
          cases fx <;> try (cases h2; done)
          exact ⟨_, _, _, rfl⟩
        obtain ⟨b, s2, _, _, _, _, h3, h4, _, _⟩ := M.bind_ok (m := enterL u k rd f p) h2
        obtain ⟨e2, s3, _, _, _, _, h5, h6, _, _⟩ := M.bind_ok h4
        obtain ⟨h7, rfl, _, _⟩ := M.pure_ok h6
        cases h7
        obtain ⟨st3, _, _, h8, rfl⟩ := lift_ok h5
        obtain ⟨rv, st2, _, _, ra, wa, h9, h10, _, _⟩ := M.bind_ok (m := evCall P X n gf _ _) h8
        obtain ⟨φ, hs, ht⟩ := hr
        obtain ⟨e3, e4⟩ := e1 D φ a ht
        simp only [SV.den] at e3
        have e4' : ∀ c, c ∈ SV.idsL fs ∨ c ∈ SV.idsL cs → (s1.st.get c).isSome := fun c hc => e4 c (by simpa [SV.ids] using hc)
        refine wpIn_rangeFunc (fun fn0 _ => ?_)
        obtain ⟨φ1, w1, mark, hrun, hs1, ht1, hb⟩ := enterL_ok h3 hcp hs ht hrd fn0
        have hfs : SV.denL ρ φ fs = SV.denL ρ φ1 fs := (denL_congr ρ φ φ1 fs (fun c hc => hs1.ext c (e4' c (.inl hc)))).symm
        have hcs : SV.denL ρ φ cs = SV.denL ρ φ1 cs := (denL_congr ρ φ φ1 cs (fun c hc => hs1.ext c (e4' c (.inr hc)))).symm
        obtain ⟨hcf, hcall⟩ := ih3 _ _ _ _ _ _ _ _ h9 w0 φ1 w1 hs1.rel
        have hargs : (SV.denL ρ φ1 (fs ++ [.yld b] ++ cs)).toArray = (SV.denL ρ φ fs).toArray ++ #[.func (.yield (φ1 b)) #[] #[]] ++ (SV.denL ρ φ cs).toArray := by
          rw [hfs, hcs]; simp [denL_append, SV.denL, SV.den]
        refine ⟨φ1 b, mark, w1, { target := .fn (.func gf) (SV.denL ρ φ cs).toArray, args := (SV.denL ρ φ fs).toArray ++ #[.func (.yield (φ1 b)) #[] #[]] }, w1, gf, _, w1, hrun, ?_, fun _ _ => trivial, hcf _ w1, fun hh => (by cases hh), ?_⟩
        · simp only [resolve, Sem.run_pure, e3, Deferred.ofValue]
          simp [Act.eval]
        · have hcall' := hcall
          rw [hargs] at hcall'
          refine callsIn_FW (hcall'.mono ?_)
          rintro e w2 ⟨φ2, hs2, rfl⟩
          have hnp : notPan rv = true := by cases rv <;> first | rfl | (cases h10; done)
          have h10' : leaveL b st2 = .ok e st3 ra wa := by cases rv <;> first | exact h10 | (simp [notPan] at hnp)
          rw [endOf_ret hnp]
          obtain ⟨w3, kk, ii, hs3, hend, hj⟩ := leaveL_ok h10' hs2.rel
          have hφb : φ2 b = φ1 b := (hs2.ext b hb).1
          rw [hφb] at hend
          refine ⟨_, w3, hend, ?_⟩
          have ht2 := ht1.step (hs2.trans hs3)
          have hX2 : ∀ x, exOk ρ φ2 st3 e x → RelX P ρ E D w0 φ0 st0 ⟨s2.m, st3⟩ e { a with defers := mark ++ a.defers } w3 x := fun x hx => ⟨φ2, (hs.trans hs1).trans (hs2.trans hs3), ht2, hx⟩
          rcases jump_ok hj with ⟨rfl, hjj⟩ | ⟨j, rfl, hjj⟩ | ⟨rfl, hjj⟩
          · rw [hjj]; exact hQ _ _ _ (hX2 _ rfl)
          · rw [hjj]; exact wpIn_exit (hQ _ _ _ (hX2 _ rfl))
          · rw [hjj]; exact wpIn_ret (hQ _ _ _ (hX2 _ rfl))
      case exit id =>
        obtain ⟨h1, rfl, _, _⟩ := M.pure_ok h
        cases h1
        obtain ⟨φ, hs, ht⟩ := hr
        exact wpIn_exit (hQ _ _ _ ⟨φ, hs, ht, rfl⟩)
      case scope c =>
        refine wpIn_scope (ih1 _ _ _ _ _ _ _ _ _ _ _ _ (by simp only [codeAt, hcp, child]) h D w0 φ0 st0 a w rf hrd hr _ (fun a1 w1 x1 hr1 => ?_))
        have := hQ _ _ _ hr1
        obtain ⟨_, _, _, hx⟩ := hr1
        cases e with
        | pan v => obtain ⟨rfl, _⟩ := hx; exact this
        | normal => obtain rfl : x1 = _ := hx; exact this
        | exit i => obtain rfl : x1 = _ := hx; exact this
        | ret => obtain rfl : x1 = _ := hx; exact this
      case ret =>
        obtain ⟨h1, rfl, _, _⟩ := M.pure_ok h
        cases h1
        obtain ⟨φ, hs, ht⟩ := hr
        exact wpIn_ret (hQ _ _ _ ⟨φ, hs, ht, rfl⟩)
      all_goals (cases h; done)
    · unfold evLoop at h
      obtain ⟨q, s1, _, _, _, _, h1, h2, _, _⟩ := M.bind_ok (m := evCode P X n f p c rd u k) h
      obtain ⟨e1, k1⟩ := q
      cases e1 with
      | normal =>
        obtain ⟨m, hm⟩ := ih2 _ _ _ _ _ _ _ _ _ _ _ _ hcp h2
        refine ⟨m + 1, fun D w0 φ0 st0 a w rf hrd hr Q hQ => ?_⟩
        rw [roundsIn_succ]
        refine ih1 _ _ _ _ _ _ _ _ _ _ _ _ hcp h1 D w0 φ0 st0 a w rf hrd hr _ (fun a1 w1 x1 hr1 => ?_)
        have hF := hr1.relF
        obtain ⟨_, _, _, hx⟩ := hr1
        obtain rfl : x1 = .normal := hx
        exact hm D w0 φ0 st0 a1 w1 rf hrd hF Q hQ
      | exit i =>
        obtain ⟨h3, rfl, _, _⟩ := M.pure_ok h2
        cases h3
        refine ⟨1, fun D w0 φ0 st0 a w rf hrd hr Q hQ => ih1 _ _ _ _ _ _ _ _ _ _ _ _ hcp h1 D w0 φ0 st0 a w rf hrd hr _ (fun a1 w1 x1 hr1 => ?_)⟩
        have := hQ _ _ _ hr1
        obtain ⟨_, _, _, hx⟩ := hr1
        obtain rfl : x1 = .exit i := hx
        exact this
      | ret =>
        obtain ⟨h3, rfl, _, _⟩ := M.pure_ok h2
        cases h3
        refine ⟨1, fun D w0 φ0 st0 a w rf hrd hr Q hQ => ih1 _ _ _ _ _ _ _ _ _ _ _ _ hcp h1 D w0 φ0 st0 a w rf hrd hr _ (fun a1 w1 x1 hr1 => ?_)⟩
        have := hQ _ _ _ hr1
        obtain ⟨_, _, _, hx⟩ := hr1
        obtain rfl : x1 = .ret := hx
        exact this
      | pan v =>
        obtain ⟨h3, rfl, _, _⟩ := M.pure_ok h2
        cases h3
        refine ⟨1, fun D w0 φ0 st0 a w rf hrd hr Q hQ => ih1 _ _ _ _ _ _ _ _ _ _ _ _ hcp h1 D w0 φ0 st0 a w rf hrd hr _ (fun a1 w1 x1 hr1 => ?_)⟩
        have := hQ _ _ _ hr1
        obtain ⟨_, _, _, hx, _⟩ := hr1
        subst hx
        exact this
    · unfold evCall at h
      cases hf : P.funcs[f]? with
      | none => simp only [hf] at h; cases h
      | some fn =>
        simp only [hf] at h
        cases hb : fn.body with
        | none => simp only [hb] at h; cases h
        | some c =>
          simp only [hb] at h
          split at h
          · cases h
          · rename_i hname
            have hcf : ∀ args w', (callFunc f args).run P w' = .ok (.enter f args) w' := fun args w' => by
              have h1 : fn.name ≠ "runtime.NumGoroutine" := by simpa using hname
              simp [callFunc, hf, h1, hb]
            refine ⟨hcf, ?_⟩
            have hknown : ∀ v', knownC X f vs = some v' → v'.ids = [] → ∀ φ w, ExtIn ρ w → Calls P f (SV.denL ρ φ vs).toArray w fun e w' => e = .returned (v'.den ρ φ) ∧ Below w.heap.size w w' := by
              intro v' hv hids
              unfold knownC at hv
              cases hl : lookC X.cr f vs with
              | some u =>
                simp only [hl] at hv
                cases hv
                exact hC.cr _ (lookC_ok hl)
              | none =>
                simp only [hl] at hv
                exact hC.ct _ hX.pc _ _ _ hv hids
            cases hl : knownC X f vs with
            | some v' =>
              simp only [hl] at h
              split at h
              · rename_i hids
                simp only [Bool.and_eq_true] at hids
                obtain ⟨rfl, rfl, _, _⟩ := M.pure_ok h
                exact (hknown _ hl (List.isEmpty_iff.1 hids.1) φ w hr.xt).mono fun e w' ⟨he, hbw⟩ => ⟨φ, ⟨hr.below hbw, fun _ _ => Agr.refl _ _, fun _ h => h⟩, by rw [he, endOf_ret hids.2]⟩
              · cases h
            | none =>
              simp only [hl] at h
              split at h
              · cases h
              obtain ⟨_, s1, _, _, _, _, h1, h2, _, _⟩ := M.bind_ok h
              obtain ⟨rfl, hcl⟩ := chk_ok h1
              unfold inFrame at h2
              split at h2
              · rename_i v2 s2 r2 w2 h3
                cases h2
                obtain ⟨q, s3, _, _, rb, wb, h4, h5, _, _⟩ := M.bind_ok h3
                obtain ⟨e1, k1⟩ := q
                have hstart : RelF P ρ E [] w0 φ s1 _ _ w := ⟨φ, Step.refl hr, start_rel hcl fn.ntmps⟩
                have hne : ∀ i, e1 ≠ .exit i := fun i hi => by subst hi; cases h5
                have h5' : (do
                    let ds ← rdDs
                    let x ← evLeave (evDef P X n) id ds (panOf e1) k1
                    match x with
                    | some v => pure (.panv v)
                    | none => do
                      let vs ← evResults P fn.results.toList
                      match oneOf vs with
                      | .panv _ => bad "result"
                      | v => pure v : M St SV) s3 = .ok v s2 rb wb := by
                  cases e1 <;> first | exact absurd rfl (hne _) | exact h5
                obtain ⟨ds, s4, _, _, _, _, h6, h7, _, _⟩ := M.bind_ok h5'
                cases h6
                obtain ⟨y, s5, _, _, _, _, h8, h9, _, _⟩ := M.bind_ok h7
                refine calls_FW (r := none) (n := 0) (callsIn_of_wp_marks hf hb trivial (ih1 _ _ _ _ _ _ _ _ _ _ _ _ (by simp only [codeAt, hf, Option.bind_some, hb, Option.getD_some]) h4 [] w0 φ s1 _ w none rfl hstart _ (fun a' w' x hr' => ?_)))
                obtain ⟨φ', hs', ht', hx⟩ := hr'
                obtain ⟨es5, elv⟩ := evLeave_ok (fn := fn) (tmps := a'.tmps) (R := fun e w' => ∃ φ', Step P ρ E w0 φ s1 φ' s2.st w' ∧ e = endOf ρ φ' v) ih5 h8
                have fin : ∀ φ'' w'', Step P ρ E w0 φ' s3.st φ'' s5.st w'' → match y with
                    | none => ∃ u, (results fn a'.tmps).run P w'' = .ok u w'' ∧ (∃ φ2, Step P ρ E w0 φ s1 φ2 s2.st w'' ∧ Ending.returned u = endOf ρ φ2 v)
                    | some z => ∃ φ2, Step P ρ E w0 φ s1 φ2 s2.st w'' ∧ Ending.panicked [{ v := z.den ρ φ'', recovered := false }] = endOf ρ φ2 v := by
                  intro φ'' w'' hs''
                  cases y with
                  | some z =>
                    obtain ⟨rfl, rfl, _, _⟩ := M.pure_ok h9
                    exact ⟨φ'', hs'.trans hs'', rfl⟩
                  | none =>
                    obtain ⟨us, s6, _, _, _, _, h10, h11, _, _⟩ := M.bind_ok h9
                    have ht5 : RelT ρ [] φ'' s5 a' := by rw [es5]; exact ht'.step hs''
                    have hrun := results_run h10 hs''.rel ht5
                    have hsame := (results_ok (ρ := ρ) (E := E) (w0 := w0) h10).1
                    have hv : v = oneOf us ∧ notPan v = true ∧ s2 = s6 := by
                      generalize hone : oneOf us = o at h11
                      cases o <;> first | (obtain ⟨rfl, rfl, _, _⟩ := M.pure_ok h11; exact ⟨rfl, rfl, rfl⟩) | (cases h11; done)
                    obtain ⟨hv1, hv2, rfl⟩ := hv
                    refine ⟨_, hrun, φ'', ?_, by rw [endOf_ret hv2, hv1]⟩
                    rw [hsame]
                    exact hs'.trans hs''
                have go := elv hs'.rel ht'.df (fun d hd c hc => ht'.dcl d hd c hc) (by
                  cases e1 with
                  | pan z => exact hx.2
                  | _ => trivial) fin
                cases e1 with
                | exit i => exact absurd rfl (hne i)
                | normal => obtain rfl : x = .normal := hx; exact go
                | ret => obtain rfl : x = .ret := hx; exact go
                | pan z => obtain ⟨rfl, _⟩ := hx; exact go
              · cases h2
    · unfold evRound at h
      obtain ⟨q, st1, _, _, _, _, h1, h2, _, _⟩ := M.bind_ok h
      obtain ⟨rfl, as, body, ps, vs0, f0, hat⟩ := roundL_ok h1 hr
      obtain ⟨_, st2, _, _, _, _, h3, h4, _, _⟩ := M.bind_ok h2
      obtain ⟨rfl, hcl⟩ := chk_ok h3
      unfold inFrame at h4
      split at h4
      · rename_i v2 s2 r2 w2 h5
        cases h4
        obtain ⟨q1, s3, _, _, rc, wc, h6, h7, _, _⟩ := M.bind_ok h5
        obtain ⟨e1, k1⟩ := q1
        have h7' : e1 = .normal ∧ (do lift (beginL b); let e ← evCode P X n q.1 (1 :: q.2.1) (codeAt P q.1 (1 :: q.2.1)) (some b) id k1; lift (endL b e.1) : M St SV) s3 = .ok v s2 rc wc := by
          cases e1 <;> first | exact ⟨rfl, h7⟩ | (cases h7; done)
        obtain ⟨rfl, h7⟩ := h7'
        obtain ⟨_, s4, _, _, _, _, h8, h9, _, _⟩ := M.bind_ok h7
        obtain ⟨st4, _, _, h10, rfl⟩ := lift_ok h8
        obtain ⟨q2, s5, _, _, _, _, h11, h12, _, _⟩ := M.bind_ok h9
        obtain ⟨e2, k2⟩ := q2
        obtain ⟨st6, _, _, h13, rfl⟩ := lift_ok h12
        obtain ⟨g, hcode⟩ := hat.code
        obtain ⟨dd, hheap⟩ := hat.heap
        obtain ⟨tm, htm, htmok, htmids⟩ := hat.tms
        have hnp := endL_notPan h13
        have hy := run_yield (P := P) (args := (SV.denL ρ φ vs).toArray) hheap (by simp [denL_length, hat.size])
        refine ⟨f0, _, as, body, hy, hnp, fun rf => roundIn_of_wpIn (F := FW rf) trivial ?_⟩
        show as.wpIn (FW (some (φ b))) 0 P _ _ _
        have hc0 : codeAt P q.1 (0 :: q.2.1) = as := by simp only [codeAt, hcode, child]
        have hc1 : codeAt P q.1 (1 :: q.2.1) = body := by simp only [codeAt, hcode, child]
        rw [hc0] at h6
        rw [hc1] at h11
        have hrd : RdOk (some b) φ st2 (some (φ b)) := ⟨rfl, hat.there⟩
        have hfold : (ps.zip (SV.denL ρ φ vs).toArray).foldl (fun tmps (x : Tmp × Value) => tmps.setIfInBounds x.1 x.2) vs0 = (ps.toList.zip vs).foldl (fun tmps q => tmps.setIfInBounds q.1 (q.2.den ρ φ)) vs0 := by
          rw [← Array.foldl_toList, Array.toList_zip]
          have : ps.toList.zip (SV.denL ρ φ vs).toArray.toList = (ps.toList.zip vs).map (fun q => (q.1, q.2.den ρ φ)) := by
            rw [denL_map]; simp [List.zip_map_right]
          rw [this, List.foldl_map]
        have htm' := setTs_ok (tm := tm) (vs := vs0) (l := ps.toList.zip vs) htmok
        have hstart : RelF P ρ E [] w0 φ st2 ⟨Tm.ofL q.2.2, st2⟩ { tmps := (ps.zip (SV.denL ρ φ vs).toArray).foldl (fun tmps (x : Tmp × Value) => tmps.setIfInBounds x.1 x.2) vs0, defers := [] } w := by
          rw [hfold]
          refine ⟨φ, Step.refl hr, ⟨?_, rfl, ?_, fun t u hu c hc => hcl c (mem_idsL.2 ⟨u, List.mem_of_getElem? hu, hc⟩), fun d hd => by cases hd⟩⟩
          · rw [htm'.1]; show _ = q.2.2.length; rw [htm]
          · intro t u hu
            replace hu : q.2.2[t]? = some u := hu
            rw [htm] at hu
            exact htm'.2 t u hu
        refine ih1 _ _ _ _ _ _ _ _ _ _ _ _ hc0 h6 [] w0 φ st2 _ w _ hrd hstart _ (fun a1 w1 x1 hr1 => ?_)
        obtain ⟨φ1, hs1, ht1, hx1⟩ := hr1
        obtain rfl : x1 = .normal := hx1
        have hb1 : φ1 b = φ b := (hs1.ext b hat.there).1
        obtain ⟨w2', hs2, hrun2⟩ := beginL_ok h10 hs1.rel
        rw [hb1] at hrun2
        refine ⟨w2', hrun2, ?_⟩
        show body.wpIn (FW (some (φ b))) 0 P _ _ _
        refine ih1 _ _ _ _ _ _ _ _ _ _ _ _ hc1 h11 [] w0 φ st2 _ w2' _ hrd ⟨φ1, hs1.trans hs2, ht1.step hs2⟩ _ (fun a3 w3 x3 hr3 => ?_)
        obtain ⟨φ3, hs3, ht3, hx3⟩ := hr3
        have hb3 : φ3 b = φ b := (hs3.ext b hat.there).1
        have := (endL_ok h13 hs3.rel hx3 (a := a3) (R := fun e w' => ∃ φ', Step P ρ E w0 φ st2 φ' st6 w' ∧ e = .returned (v.den ρ φ')) (fun w' hs4 => ⟨φ3, hs3.trans hs4, rfl⟩)).2
        rw [hb3] at this
        exact this
      · cases h4
    · unfold evDef at h
      cases hf : P.funcs[f]? with
      | none => simp only [hf] at h; cases h
      | some fn =>
        simp only [hf] at h
        cases hb : fn.body with
        | none => simp only [hb] at h; cases h
        | some c =>
          simp only [hb] at h
          split at h
          · cases h
          · rename_i hname
            have hcf : ∀ args w', (callFunc f args).run P w' = .ok (.enter f args) w' := fun args w' => by
              have h1 : fn.name ≠ "runtime.NumGoroutine" := by simpa using hname
              simp [callFunc, hf, h1, hb]
            refine ⟨hcf, ?_⟩
            cases hrb : recBody c with
            | none => simp only [hrb] at h; cases h
            | some q =>
              obtain ⟨t, c1⟩ := q
              simp only [hrb] at h
              obtain ⟨rid, o, rfl, as, ts, hop, rfl, hgd, hdst⟩ := recBody_ok hrb
              obtain ⟨_, s1, _, _, _, _, h1, h2, _, _⟩ := M.bind_ok h
              obtain ⟨rfl, hcl⟩ := chk_ok h1
              unfold inFrame at h2
              split at h2
              · rename_i y2 s2 r2 w2 h3
                cases h2
                obtain ⟨_, s3, _, _, _, _, h4, h5, _, _⟩ := M.bind_ok h3
                obtain ⟨q, s4, _, _, _, _, h6, h7, _, _⟩ := M.bind_ok h5
                obtain ⟨e1, k1⟩ := q
                have ht1 := start_rel (ρ := ρ) (φ := φ) hcl fn.ntmps
                obtain ⟨hst3, hput⟩ := putS_ok (ρ := ρ) h4
                have hxi : ∀ c ∈ (x.getD (.raw .nilIface)).ids, (s1.get c).isSome := by
                  cases x with
                  | none => intro c hc; simp [SV.ids] at hc
                  | some v => exact hx
                have hc1 : codeAt P f [1] = c1 := by simp only [codeAt, hf, Option.bind_some, hb, Option.getD_some, child]
                have ht3 := hput [] φ _ ht1 hxi
                have hr3 : RelF P ρ E [] w0 φ s1 s3 _ w := ⟨φ, by rw [hst3]; exact Step.refl hr, ht3⟩
                split at h7
                · rename_i hex
                  obtain ⟨ds, s5, _, _, _, _, h8, h9, _, _⟩ := M.bind_ok h7
                  cases h8
                  split at h9
                  · rename_i hds
                    have hds : s4.m.df = [] := List.isEmpty_iff.1 hds
                    obtain ⟨us, s6, _, _, _, _, h10, h11, _, _⟩ := M.bind_ok h9
                    obtain ⟨rfl, rfl, _, _⟩ := M.pure_ok h11
                    have hsame := (results_ok (ρ := ρ) (E := E) (w0 := w0) h10).1
                    have hend : ∀ (c₀ : Frame) (cs : List Frame) (u' : FrameMode), settle u' = .returning → ∀ a' w' y', RelX P ρ E [] w0 φ s1 s4 e1 a' w' y' →
                        bodyPostS P fn c₀ cs (fun e u' w' => ∃ φ', Step P ρ E w0 φ s1 φ' s2.st w' ∧ (∃ v, e = .returned v) ∧ settle u' = modeOf ρ φ' none ∧ idsIn s2.st none) y' a' ({ c₀ with mode := u' } :: cs) w' := by
                      intro c₀ cs u' hu a' w' y' hr'
                      obtain ⟨φ', hs', ht', hx'⟩ := hr'
                      have hd : a'.defers = [] := by have := ht'.df; rw [hds] at this; exact this
                      have hrun := results_run h10 hs'.rel ht'
                      have hb' : a'.defers = [] ∧ ∃ u2, ({ c₀ with mode := u' } : Frame) :: cs = { c₀ with mode := u2 } :: cs ∧ ∃ v, (results fn a'.tmps).run P w' = .ok v w' ∧ ∃ φ', Step P ρ E w0 φ s1 φ' s2.st w' ∧ (∃ v', Ending.returned v = .returned v') ∧ settle u2 = modeOf ρ φ' none ∧ idsIn s2.st none :=
                        ⟨hd, u', rfl, _, hrun, φ', by rw [hsame]; exact hs', ⟨_, rfl⟩, hu, trivial⟩
                      cases e1 with
                      | normal => obtain rfl : y' = .normal := hx'; exact hb'
                      | ret => obtain rfl : y' = .ret := hx'; exact hb'
                      | exit i => cases hex
                      | pan v => cases hex
                    refine callsDIn_of_wpSIn hf hb trivial (fun c₀ cs hmode => wpSIn_seq (wpSIn_region ?_))
                    show wpOpsSIn _ _ _ #[o] _ [0] _ _ _
                    have hexec : ∀ ev : Operand → Value, (execOp ev o).run P w = .ok .recover w := fun ev => by
                      unfold execOp
                      rw [hop]
                      simp [resolve, invoke, builtin]
                    have hwant : ∀ ys, Region.wanted o ys = true := fun ys => by unfold Region.wanted; rw [hgd]
                    unfold wpOpsSIn
                    simp only [List.getElem?_toArray, List.getElem?_cons_zero]
                    refine ⟨fun _ _ => trivial, ?_⟩
                    rw [if_pos (hwant _), hexec]
                    cases x with
                    | none =>
                      have hrec : recoverD (c₀ :: cs) = none := by simp only [recoverD, hmode, modeOf]
                      simp only [hrec]
                      rw [hdst]
                      have hc0 : c₀ = { c₀ with mode := .returning } := by
                        cases c₀; simp only at hmode; subst hmode; rfl
                      rw [hc0]
                      show c1.wpSIn (FW none) 0 P _ _ _ w
                      refine wpSIn_of_wpIn rfl (ih1 _ _ _ _ _ _ _ _ _ _ _ _ hc1 h6 [] w0 φ s1 _ w none rfl hr3 _ (fun a' w' y' hr' => ?_))
                      exact hend _ _ .returning rfl a' w' y' hr'
                    | some v =>
                      have hrec : recoverD (c₀ :: cs) = some (v.den ρ φ, { c₀ with mode := .panicking [{ v := v.den ρ φ, recovered := true }] } :: cs) := by simp only [recoverD, hmode, modeOf]
                      simp only [hrec]
                      rw [hdst]
                      show c1.wpSIn (FW none) 0 P _ _ _ w
                      refine wpSIn_of_wpIn rfl (ih1 _ _ _ _ _ _ _ _ _ _ _ _ hc1 h6 [] w0 φ s1 _ w none rfl hr3 _ (fun a' w' y' hr' => ?_))
                      exact hend _ _ _ rfl a' w' y' hr'
                  · cases h9
                · cases h7
              · cases h2
/-- a call with nothing in memory that is its own: what it comes to -/
theorem run_sound (hmix : P.follows .mixedOrders = true) {X : Ctx} (hX : Knows ρ X) (hC : KnowsC P ρ [] X) {n : Nat} {f : FuncId} {args : List SV} {v : SV} (h : runFn P X n f args = .ok v) (φ : Nat → Nat) (w : World) (hx : ExtIn ρ w) :
    Calls P f (SV.denL ρ φ args).toArray w fun e w' => (∃ φ', e = .returned (v.den ρ φ')) ∧ Below w.heap.size w w' := by
  unfold runFn at h
  split at h
  · rename_i v' st' r wl h1
    split at h
    · rename_i hnp
      cases h
      have h0 : RelS P ρ [] w φ [] w := ⟨fun b B hb => (by simp [Store.get] at hb), fun b B hb => (by simp [Store.get] at hb), fun b hb => (by simp [Store.get] at hb), fun b c B C hb => (by simp [Store.get] at hb), fun b hb => (by simp [Store.get] at hb), rfl, rfl, rfl, Nat.le_refl _, fun _ _ _ => rfl, hx, fun j B hB b hb => (by simp [Store.get] at hb)⟩
      exact ((ev_sound (E := []) hmix hX hC n).2.2.1 _ _ _ _ _ _ _ _ h1 w φ w h0).2.mono fun e w' ⟨φ', hs, he⟩ => ⟨⟨φ', by rw [he, endOf_ret hnp]⟩, ⟨hs.rel.os, hs.rel.tape, hs.rel.output, hs.rel.size, fun k hk => hs.rel.fr k hk (by simp)⟩⟩
    · cases h
  · cases h
end Ev
end Go.Proofs.Ytmgfnejiienghaa
